/- HandleBit: bytes that differ from a handle's in one byte are no handle's bytes, if it is one of the last 8 or the first 4; else none's, or another handle's: for every handle, place and byte the law returns true. Conditions: none. -/
import Derived.Test.YtchldgedpncggaaHandleBack
namespace Go.Proofs.Ytchldgedpncggaa
set_option linter.unusedVariables false
set_option linter.unusedSimpArgs false
open Go.ChangeShapes Go.WideShapes Go.ChangeAt Go.RowKit Pl
attribute [local go_sem] ba_toList ba_size

/-- 'int(uint(a) % m)'. -/
theorem umod_int (a m : Int) (h0 : 0 < m) (h1 : m < 9223372036854775808) : ∃ k : Nat, wrap64 ((IntKind.u64.wrap a).tmod m) = (k : Int) ∧ (k : Int) < m := by
  have hn := wrap_u64_nonneg a
  have hl := Int.emod_lt_of_pos (IntKind.u64.wrap a) h0
  have hg := Int.emod_nonneg (IntKind.u64.wrap a) (b := m) (by omega)
  refine ⟨(IntKind.u64.wrap a % m).toNat, ?_, by omega⟩
  rw [Int.tmod_eq_emod_of_nonneg hn, IntWalk.wrap64_in _ (by omega)]
  omega

set_option maxHeartbeats 3200000 in
theorem bit_any (a b c at_ : Int) (x : UInt8) (w : World) : Calls Try.prog 6 #[hv a b c, .int .i64 at_, .int .u8 (x.toNat : Int)] w fun e w' => e = .returned (.bool true) ∧ Below w.heap.size w w' := by
  have x0 := BoxH.new w a b c 23
  have EA := fun W : World => encode_any a b c W
  have MA := fun W : World => may_any a b c W
  cases hm : mayH a b c
  · have he : encE a b c = 4 := by unfold encE; rw [hm]; rfl
    simp only [he] at EA
    simp only [hm] at MA
    have HA := Lib.hid EA
    have HM := Lib.hid MA
    clear EA MA hm he
    go_enter Try.func6, Try.ntmps6
    go_wp2_with fail
    refine (awake_any _).mono ?_; rintro e w1 ⟨rfl, hw1⟩
    have b1 : Below w.heap.size w w1 := chain (by repeat' (first | (with_reducible exact Below.refl _ _) | (with_reducible assumption) | (with_reducible refine below_drewN ?_ _) | (with_reducible refine Below.alloc ?_ ?_ _) | (with_reducible refine Below.drew ?_) | (with_reducible refine Below.setCell ?_ ?_ _) | go_size)) hw1
    have s1 := b1.size
    obtain ⟨lb, q0, q1, q2⟩ := x0.below hw1
    go_wp2_with fail
    refine (HA.out _).mono ?_; rintro e w2 ⟨rfl, hw2⟩
    have b2 : Below w.heap.size w w2 := chain (by repeat' (first | (with_reducible exact Below.refl _ _) | (with_reducible assumption) | (with_reducible refine below_drewN ?_ _) | (with_reducible refine Below.alloc ?_ ?_ _) | (with_reducible refine Below.drew ?_) | (with_reducible refine Below.setCell ?_ ?_ _) | go_size)) hw2
    have s2 := b2.size
    clear lb q0 q1 q2
    obtain ⟨lb, q0, q1, q2⟩ := (x0.below hw1).below hw2
    go_wp2_with fail
    refine (HM.out _).mono ?_; rintro e w3 ⟨rfl, hw3⟩
    have b3 : Below w.heap.size w w3 := chain (by repeat' (first | (with_reducible exact Below.refl _ _) | (with_reducible assumption) | (with_reducible refine below_drewN ?_ _) | (with_reducible refine Below.alloc ?_ ?_ _) | (with_reducible refine Below.drew ?_) | (with_reducible refine Below.setCell ?_ ?_ _) | go_size)) hw3
    have s3 := b3.size
    go_wp2_with fail
    go_ret
    exact ⟨rfl, by repeat' (first | (with_reducible exact Below.refl _ _) | (with_reducible assumption) | (with_reducible refine below_drewN ?_ _) | (with_reducible refine Below.alloc ?_ ?_ _) | (with_reducible refine Below.drew ?_) | (with_reducible refine Below.setCell ?_ ?_ _) | go_size)⟩
  · have he : encE a b c = 0 := by unfold encE; rw [hm]; rfl
    simp only [he] at EA
    obtain ⟨f0, f1, f2, f3⟩ := decOk_enc hm
    have hlen := enc_length hm
    have l1 : (((encB a b c).length : Int) != 24) = false := by rw [hlen]; rfl
    have hbit : ∀ i, (i < 4 ∨ 16 ≤ i) → i < 24 → (encB a b c)[i]? ≠ some x → decOk ((encB a b c).set i x) = false := fun i h1 h2 h3 => dec_bit hm h1 h2 h3
    have hoth : ∀ i, i < 24 → (encB a b c)[i]? ≠ some x → decOk ((encB a b c).set i x) = true → eqH (decA ((encB a b c).set i x) 4) (decA ((encB a b c).set i x) 8) (decA ((encB a b c).set i x) 12) a b c = false := by
      intro i hi hx hd
      rw [Bool.eq_false_iff]
      intro he
      unfold eqH at he
      rw [decide_eq_true_eq] at he
      obtain ⟨e1, e2, e3⟩ := he
      have := (enc_dec hd).1
      rw [e1, e2, e3] at this
      apply hx
      rw [this, List.getElem?_set_self (by rw [hlen]; exact hi)]
    generalize encB a b c = L at EA l1 hlen hbit hoth
    have HL := Lib.hid hlen
    have HA := Lib.hid EA
    have HB := Lib.hid hbit
    have HO := Lib.hid hoth
    clear hm he f0 f1 f2 f3 hlen EA hbit hoth MA
    obtain ⟨k, hk, hk24⟩ := umod_int at_ 24 (by omega) (by omega)
    replace hk24 : k < 24 := by omega
    have HK := Lib.hid hk
    clear hk
    go_enter Try.func6, Try.ntmps6
    go_wp2_with fail
    refine (awake_any _).mono ?_; rintro e w1 ⟨rfl, hw1⟩
    have b1 : Below w.heap.size w w1 := chain (by repeat' (first | (with_reducible exact Below.refl _ _) | (with_reducible assumption) | (with_reducible refine below_drewN ?_ _) | (with_reducible refine Below.alloc ?_ ?_ _) | (with_reducible refine Below.drew ?_) | (with_reducible refine Below.setCell ?_ ?_ _) | go_size)) hw1
    have s1 := b1.size
    obtain ⟨lb, q0, q1, q2⟩ := x0.below hw1
    go_wp2_with fail
    refine (HA.out _).mono ?_; rintro e w2 ⟨rfl, hw2⟩
    have b2 : Below w.heap.size w w2 := chain (by repeat' (first | (with_reducible exact Below.refl _ _) | (with_reducible assumption) | (with_reducible refine below_drewN ?_ _) | (with_reducible refine Below.alloc ?_ ?_ _) | (with_reducible refine Below.drew ?_) | (with_reducible refine Below.setCell ?_ ?_ _) | go_size)) hw2
    have s2 := b2.size
    clear lb q0 q1 q2
    go_wp2_with (with_reducible refine wpList_bytes_of_string rfl _ rfl Try.underlying9 Try.underlying33 Try.underlying5 rfl ?_ ?_)
    · rw [HL.out]; unfold maxLen; omega
    intro v3 w3 hrow hw3 _
    have hlt : k < L.length := by rw [HL.out]; exact hk24
    have b3 : Below w.heap.size w w3 := chain b2 hw3
    have s3 := b3.size
    have x3 := ((x0.below hw1).below hw2).below hw3
    obtain ⟨g, cc, rfl, hg0, hg1, hg2, hg3, hcell⟩ := hrow
    have hrow : RowB w3 w2.heap.size (.slice (some ⟨g, 0, none⟩) L.length cc) L := ⟨g, cc, rfl, hg0, hg1, hg2, hg3, hcell⟩
    obtain ⟨ck, fk⟩ := hcell k hlt
    have hkL : L[k]? = some L[k] := List.getElem?_eq_getElem hlt
    rw [HK.out]
    by_cases hx : L[k] = x
    · have hx' : (((L[k]).toNat : Int) == (x.toNat : Int)) = true := by rw [hx]; simp
      clear hx hkL hrow hcell
      go_wp2_with fail
      go_ret
      exact ⟨rfl, by repeat' (first | (with_reducible exact Below.refl _ _) | (with_reducible assumption) | (with_reducible refine below_drewN ?_ _) | (with_reducible refine Below.alloc ?_ ?_ _) | (with_reducible refine Below.drew ?_) | (with_reducible refine Below.setCell ?_ ?_ _) | go_size)⟩
    · have hx' : (((L[k]).toNat : Int) == (x.toNat : Int)) = false := by
        rw [beq_eq_false_iff_ne]
        intro e
        exact hx (UInt8.toNat.inj (by omega))
      have hne : L[k]? ≠ some x := by rw [hkL]; intro e; exact hx (Option.some.inj e)
      have hset := hrow.set x hlt
      have hcv := hset.bytes.string (P := Try.prog) Try.underlying33 Try.underlying5 Try.underlying9
      have DD := fun W : World => decode_any (L.set k x) W
      have hsl : (L.set k x).length = L.length := List.length_set
      have hd := HB.out k
      have ho := HO.out k hk24 hne
      generalize L.set k x = M at hcv DD hd ho hsl
      have HX := Lib.hid hx
      have HN := Lib.hid hne
      have HD := Lib.hid hd
      have HOO := Lib.hid ho
      clear hx hkL hrow hcell hset hne hd ho hsl
      by_cases hki : k < 4 ∨ 16 ≤ k
      · have hd := HD.out hki hk24 HN.out
        obtain ⟨hd1, hd2, hd3, hd4⟩ := dec_of_no hd
        simp only [hd1, hd2, hd3, hd4] at DD
        have D := Lib.hid DD
        clear DD hd hd1 hd2 hd3 hd4
        by_cases hk4 : k < 4
        · go_wp2_with fail
          refine (D.out _).mono ?_; rintro e w4 ⟨rfl, hw4⟩
          have b4 : Below w.heap.size w w4 := chain (by repeat' (first | (with_reducible exact Below.refl _ _) | (with_reducible assumption) | (with_reducible refine below_drewN ?_ _) | (with_reducible refine Below.alloc ?_ ?_ _) | (with_reducible refine Below.drew ?_) | (with_reducible refine Below.setCell ?_ ?_ _) | go_size)) hw4
          have s4 := b4.size
          go_wp2_with fail
          go_ret
          exact ⟨rfl, by repeat' (first | (with_reducible exact Below.refl _ _) | (with_reducible assumption) | (with_reducible refine below_drewN ?_ _) | (with_reducible refine Below.alloc ?_ ?_ _) | (with_reducible refine Below.drew ?_) | (with_reducible refine Below.setCell ?_ ?_ _) | go_size)⟩
        · have hk16 : 16 ≤ k := by omega
          clear hki
          go_wp2_with fail
          refine (D.out _).mono ?_; rintro e w4 ⟨rfl, hw4⟩
          have b4 : Below w.heap.size w w4 := chain (by repeat' (first | (with_reducible exact Below.refl _ _) | (with_reducible assumption) | (with_reducible refine below_drewN ?_ _) | (with_reducible refine Below.alloc ?_ ?_ _) | (with_reducible refine Below.drew ?_) | (with_reducible refine Below.setCell ?_ ?_ _) | go_size)) hw4
          have s4 := b4.size
          go_wp2_with fail
          go_ret
          exact ⟨rfl, by repeat' (first | (with_reducible exact Below.refl _ _) | (with_reducible assumption) | (with_reducible refine below_drewN ?_ _) | (with_reducible refine Below.alloc ?_ ?_ _) | (with_reducible refine Below.drew ?_) | (with_reducible refine Below.setCell ?_ ?_ _) | go_size)⟩
      · have hk4 : 4 ≤ k := by omega
        have hk16 : k < 16 := by omega
        clear hki
        cases hd : decOk M
        · obtain ⟨hd1, hd2, hd3, hd4⟩ := dec_of_no hd
          simp only [hd1, hd2, hd3, hd4] at DD
          have D := Lib.hid DD
          clear DD hd hd1 hd2 hd3 hd4
          go_wp2_with fail
          refine (D.out _).mono ?_; rintro e w4 ⟨rfl, hw4⟩
          have b4 : Below w.heap.size w w4 := chain (by repeat' (first | (with_reducible exact Below.refl _ _) | (with_reducible assumption) | (with_reducible refine below_drewN ?_ _) | (with_reducible refine Below.alloc ?_ ?_ _) | (with_reducible refine Below.drew ?_) | (with_reducible refine Below.setCell ?_ ?_ _) | go_size)) hw4
          have s4 := b4.size
          go_wp2_with fail
          go_ret
          exact ⟨rfl, by repeat' (first | (with_reducible exact Below.refl _ _) | (with_reducible assumption) | (with_reducible refine below_drewN ?_ _) | (with_reducible refine Below.alloc ?_ ?_ _) | (with_reducible refine Below.drew ?_) | (with_reducible refine Below.setCell ?_ ?_ _) | go_size)⟩
        · have he := HOO.out hd
          have hq := fun W : World => neq_hv (decA M 4) (decA M 8) (decA M 12) a b c W
          simp only [he, Bool.not_false] at hq
          simp only [dec_of_ok hd] at DD
          have D := Lib.hid DD
          have X3 := Lib.hid x3
          clear DD hd he
          go_wp2_with fail
          refine (D.out _).mono ?_; rintro e w4 ⟨rfl, hw4⟩
          have b4 : Below w.heap.size w w4 := chain (by repeat' (first | (with_reducible exact Below.refl _ _) | (with_reducible assumption) | (with_reducible refine below_drewN ?_ _) | (with_reducible refine Below.alloc ?_ ?_ _) | (with_reducible refine Below.drew ?_) | (with_reducible refine Below.setCell ?_ ?_ _) | go_size)) hw4
          have s4 := b4.size
          have hgw : w.heap.size < g := Nat.lt_of_lt_of_le (by have := s1; have := (x0.below hw1).lt; have := hw2.size; omega) hg0
          obtain ⟨lb, q0, q1, q2⟩ := (X3.out.keep ((Below.refl (w.heap.size + 1) _).setCell (p := ⟨g, k, none⟩) (by simp; omega) (.int .u8 (x.toNat : Int))) (by omega)).below hw4
          go_wp2_with fail
          go_ret
          exact ⟨rfl, by repeat' (first | (with_reducible exact Below.refl _ _) | (with_reducible assumption) | (with_reducible refine below_drewN ?_ _) | (with_reducible refine Below.alloc ?_ ?_ _) | (with_reducible refine Below.drew ?_) | (with_reducible refine Below.setCell ?_ ?_ _) | go_size)⟩

theorem bit_walk : Walks Try.prog 6 Try.f6 := by
  intro H enc W args ds p base hval hA _
  rw [Try.params6] at hA hval
  obtain ⟨v0, v1, v2, d0, d1, d2, p0, p1, p2, rfl, rfl, rfl, h0, h1, h2⟩ := trodAll_three hA
  obtain ⟨a0, a1, a2, rfl, _⟩ := open_hv (hval 0 _ v0 rfl rfl) h0
  obtain ⟨n, rfl, _⟩ := open_int Try.underlying3 (hval 1 _ v1 rfl rfl) h1
  obtain ⟨x, rfl, _, _, wx⟩ := open_int Try.underlying5 (hval 2 _ v2 rfl rfl) h2
  obtain ⟨hx0, hx1⟩ := bounds_u8 wx
  have := bit_any a0 a1 a2 n (UInt8.ofNat x.toNat) W
  rw [show (((UInt8.ofNat x.toNat).toNat : Nat) : Int) = x from by rw [ofNat_toNat]; omega] at this
  exact this

theorem HandleBit_holds : Rows.HandleBitSaid :=
  OpenClaim.holds_of_wide 6 Try.f6 rfl rfl rfl rfl rfl rfl rfl ⟨rfl, rfl, rfl, rfl, rfl⟩ rfl rfl rfl rfl rfl (by kernel_rfl) Try.func6 (by kernel_rfl)
    (of_decide_eq_true (by kernel_rfl)) (by unfold Func.isWrapper; first | (rw [if_pos (by decide +kernel)]; kernel_rfl) | (rw [if_neg (by decide +kernel)]; exact ⟨rfl, rfl⟩))
    (fun os started H enc _ => law_lifted (C := Try.checked) (s := Rows.handleBitSpec) own started (by kernel_rfl) Try.func6 laidOut rfl rfl Try.underlying4
      (by have h : ∀ u ∈ Try.f6.params.toList, (Try.prog.readableRec u && decide (u < Try.prog.types.size)) = true := List.all_eq_true.1 (by kernel_rfl)
          intro u hu; have := h u hu; rw [Bool.and_eq_true, decide_eq_true_eq] at this; exact this)
      (by intro H l hl; rw [show Try.f6.params.size = 3 from by rw [Try.params6]; rfl] at hl; match l, hl with | [d0, d1, d2], _ => rfl)
      H enc (ChangeSpec.witness6 (enc := enc) (C := Try.checked) false ⟨#[], #[.agg #[.int .i64 0, .int .i64 0, .int .i64 0], .int .i64 0, .int .u8 0], []⟩ 8 (by kernel_rfl) (by kernel_rfl) (by kernel_rfl) (by kernel_rfl)) bit_walk)
#print axioms HandleBit_holds
end Go.Proofs.Ytchldgedpncggaa
