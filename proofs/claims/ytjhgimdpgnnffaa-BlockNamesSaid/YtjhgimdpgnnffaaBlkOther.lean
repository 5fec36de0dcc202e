/- BlockOther: a block that differs from a sealed one in one byte is not what its pointer points to: for every kind, birth, body, place and byte the law returns true. Conditions: none. -/
import Derived.Test.YtjhgimdpgnnffaaBlkAwake
import Derived.Deep.DeepCutAuto
namespace Go.Proofs.Ytjhgimdpgnnffaa
set_option linter.unusedVariables false
set_option linter.unusedSimpArgs false
open Go.ChangeShapes Go.WideShapes Go.ChangeAt Go.RowKit Pl
attribute [local go_sem] ba_toList ba_size zeroValueB

theorem inv_step (x : Nat) (hx : x < 18446744073709551616) : (x * 1099511628211 % 18446744073709551616) * 14886173955864302971 % 18446744073709551616 = x := by
  have hq : 1099511628211 * 14886173955864302971 % 18446744073709551616 = 1 := by decide
  have h : (x * 1099511628211 % 18446744073709551616) * 14886173955864302971 % 18446744073709551616 = (x * (1099511628211 * 14886173955864302971)) % 18446744073709551616 := by
    rw [Nat.mul_mod, Nat.mod_mod, ← Nat.mul_mod, Nat.mul_assoc]
  rw [h, Nat.mul_mod, hq, Nat.mul_one, Nat.mod_mod, Nat.mod_eq_of_lt hx]
theorem step_inj {x y : Nat} (hx : x < 18446744073709551616) (hy : y < 18446744073709551616) (h : x * 1099511628211 % 18446744073709551616 = y * 1099511628211 % 18446744073709551616) : x = y := by
  rw [← inv_step x hx, h, inv_step y hy]
theorem xor_lt {u c : Nat} (hu : u < 18446744073709551616) (hc : c < 256) : u ^^^ c < 18446744073709551616 := Nat.xor_lt_two_pow (n := 64) hu (by omega)
theorem fnv_inj : ∀ (r : List UInt8) {u v : Nat}, u < 18446744073709551616 → v < 18446744073709551616 → fnv u r = fnv v r → u = v
  | [], _, _, _, _, h => h
  | c :: r, u, v, hu, hv, h => by
    have hc := c.toNat_lt
    have h1 := fnv_inj r (Nat.mod_lt _ (by decide)) (Nat.mod_lt _ (by decide)) h
    have h2 := step_inj (xor_lt hu hc) (xor_lt hv hc) h1
    have e1 : u = (u ^^^ c.toNat) ^^^ c.toNat := by rw [Nat.xor_assoc, Nat.xor_self, Nat.xor_zero]
    rw [e1, h2, Nat.xor_assoc, Nat.xor_self, Nat.xor_zero]
theorem fnv_other (r : List UInt8) {u : Nat} {c d : UInt8} (hu : u < 18446744073709551616) (hcd : c ≠ d) : fnv u (c :: r) ≠ fnv u (d :: r) := by
  intro h
  have h1 := fnv_inj r (Nat.mod_lt _ (by decide)) (Nat.mod_lt _ (by decide)) h
  have h2 := step_inj (xor_lt hu c.toNat_lt) (xor_lt hu d.toNat_lt) h1
  have e1 : c.toNat = u ^^^ (u ^^^ c.toNat) := by rw [← Nat.xor_assoc, Nat.xor_self, Nat.zero_xor]
  have e2 : d.toNat = u ^^^ (u ^^^ d.toNat) := by rw [← Nat.xor_assoc, Nat.xor_self, Nat.zero_xor]
  exact hcd (UInt8.toNat_inj.1 (by rw [e1, h2, ← e2]))
theorem bSum_other {l : List UInt8} {k : Nat} {c : UInt8} (hk : k < l.length) (hne : l[k] ≠ c) : bSum (l.set k c) ≠ bSum l := by
  unfold bSum
  intro h
  have h : fnv fnv0 (l.set k c) = fnv fnv0 l := by omega
  have e1 : l.set k c = l.take k ++ c :: l.drop (k + 1) := by rw [List.set_eq_take_append_cons_drop, if_pos hk]
  have e2 : l = l.take k ++ l[k] :: l.drop (k + 1) := by rw [List.getElem_cons_drop, List.take_append_drop]
  rw [e1, fnv_append] at h
  conv at h => rhs; rw [e2, fnv_append]
  exact fnv_other _ (fnv_lt _ (by decide)) (Ne.symm hne) h

theorem umod_int (a m : Int) (h0 : 0 < m) (h1 : m < 9223372036854775808) : ∃ k : Nat, wrap64 ((IntKind.u64.wrap a).tmod m) = (k : Int) ∧ (k : Int) < m := by
  have hn : 0 ≤ IntKind.u64.wrap a := by rw [IntKind.wrap_u64]; omega
  have hl := Int.emod_lt_of_pos (IntKind.u64.wrap a) h0
  have hg := Int.emod_nonneg (IntKind.u64.wrap a) (b := m) (by omega)
  refine ⟨(IntKind.u64.wrap a % m).toNat, ?_, by omega⟩
  rw [Int.tmod_eq_emod_of_nonneg hn, IntWalk.wrap64_in _ (by omega)]
  omega

set_option maxRecDepth 100000 in
set_option maxHeartbeats 6400000 in
theorem other_any (k : UInt8) (b : Int) (l : List UInt8) (at_ : Int) (c : UInt8) (w : World) (hl : l.length ≤ maxLen) :
    Calls Try.prog 4 #[.int .u8 (k.toNat : Int), .int .i64 b, sv l, .int .i64 at_, .int .u8 (c.toNat : Int)] w fun e w' => e = .returned (.bool true) ∧ Below w.heap.size w w' := by
  unfold maxLen at hl
  by_cases h1 : (1000 : Int) < (l.length : Int)
  · go_enter Try.func4, Try.ntmps4
    go_wp2_with fail
    refine (awake_any _).mono ?_; rintro e w1 ⟨rfl, hw1⟩
    have b1 : Below w.heap.size w w1 := chain (by repeat' (first | (with_reducible exact Below.refl _ _) | (with_reducible assumption) | (with_reducible refine below_drewN ?_ _) | (with_reducible refine Below.alloc ?_ ?_ _) | (with_reducible refine Below.drew ?_) | (with_reducible refine Below.setCell ?_ ?_ _) | go_size)) hw1
    have s1 := b1.size
    go_wp2_with fail
    go_ret
    exact ⟨rfl, by assumption⟩
  have hLs := sealL_len k b l
  have SA := fun W : World => seal_any k b l W (by omega)
  have HLs := Lib.hid hLs
  by_cases hE : sealE b l = 0
  · obtain ⟨o1, o2, o3, o4, _⟩ := seal_open (k := k) hE
    have hT : toV 3 (sealL k b l) = .tuple #[ptrV 3 b (bSum (sealL k b l)), .int .i64 0] := by
      have : toE 3 (sealL k b l) = 0 := by unfold toE; rw [if_pos o1]; rfl
      unfold toV
      rw [if_pos this, o3]
    rw [hE] at SA
    have GA := Lib.hid SA
    have HT := Lib.hid hT
    obtain ⟨j, hj, hj5⟩ := umod_int at_ 512 (by omega) (by omega)
    have HJ := Lib.hid hj
    have hjl : j < (sealL k b l).length := by omega
    have hbo := fun h => bSum_other (l := sealL k b l) (c := c) hjl h
    clear SA hE o1 o2 o3 o4 hT hj
    generalize sealL k b l = L at *
    have HB := Lib.hid hbo
    have TA := fun W : World => to_any 3 L W hLs
    have HTA := Lib.hid TA
    clear hbo TA hLs
    have hj0 : (0 : Int) ≤ (j : Int) := by omega
    go_enter Try.func4, Try.ntmps4
    go_wp2_with fail
    refine (awake_any _).mono ?_; rintro e w1 ⟨rfl, hw1⟩
    have b1 : Below w.heap.size w w1 := chain (by repeat' (first | (with_reducible exact Below.refl _ _) | (with_reducible assumption) | (with_reducible refine below_drewN ?_ _) | (with_reducible refine Below.alloc ?_ ?_ _) | (with_reducible refine Below.drew ?_) | (with_reducible refine Below.setCell ?_ ?_ _) | go_size)) hw1
    have s1 := b1.size
    go_wp2_with fail
    refine (GA.out _).mono ?_; rintro e w2 ⟨rfl, hw2⟩
    have b2 : Below w.heap.size w w2 := chain (by repeat' (first | (with_reducible exact Below.refl _ _) | (with_reducible assumption) | (with_reducible refine below_drewN ?_ _) | (with_reducible refine Below.alloc ?_ ?_ _) | (with_reducible refine Below.drew ?_) | (with_reducible refine Below.setCell ?_ ?_ _) | go_size)) hw2
    have s2 := b2.size
    have HZ := Lib.hid (Lies.new w2 (zs 512) _ rfl)
    go_wp2_with (with_reducible refine wpList_store_blk (m := L) rfl _ _ rfl rfl rfl HZ.out (zs_len 512) HLs.out ?_)
    intro w3 h3 g3
    have b3 : Below w.heap.size w w3 := below_row (by repeat' (first | (with_reducible exact Below.refl _ _) | (with_reducible assumption) | (with_reducible refine below_drewN ?_ _) | (with_reducible refine Below.alloc ?_ ?_ _) | (with_reducible refine Below.drew ?_) | (with_reducible refine Below.setCell ?_ ?_ _) | go_size)) g3 (by go_size) s2
    have H3 := Lib.hid h3
    clear h3
    go_wp2_with (with_reducible refine wpList_load_blk rfl _ rfl rfl H3.out HLs.out ?_)
    go_wp2_with fail
    refine (HTA.out _).mono ?_; rintro e w4 ⟨rfl, hw4⟩
    have b4 : Below w.heap.size w w4 := chain (by repeat' (first | (with_reducible exact Below.refl _ _) | (with_reducible assumption) | (with_reducible refine below_drewN ?_ _) | (with_reducible refine Below.alloc ?_ ?_ _) | (with_reducible refine Below.drew ?_) | (with_reducible refine Below.setCell ?_ ?_ _) | go_size)) hw4
    have s4 := b4.size
    rw [HT.out]
    have L4 := H3.out.below hw4
    have cj := L4.cell hjl
    have fj := L4.free j
    have lt4 := L4.lt
    have H4 := Lib.hid L4
    clear L4
    by_cases hc : L[j] = c
    · have hc' : (((L[j]).toNat : Int) == (c.toNat : Int)) = true := by rw [hc]; simp
      clear hc
      go_upto_region 8 with (fail)
      rw [HJ.out]
      go_wp2_with fail
      go_ret
      exact ⟨rfl, by repeat' (first | (with_reducible exact Below.refl _ _) | (with_reducible assumption) | (with_reducible refine below_drewN ?_ _) | (with_reducible refine Below.alloc ?_ ?_ _) | (with_reducible refine Below.drew ?_) | (with_reducible refine Below.setCell ?_ ?_ _) | go_size)⟩
    · have hc' : (((L[j]).toNat : Int) == (c.toNat : Int)) = false := by
        rw [beq_eq_false_iff_ne]
        intro e
        exact hc (UInt8.toNat_inj.1 (by omega))
      have hbs := HB.out hc
      have hV : chV 3 b (bSum L) (L.set j c) = .tuple #[.int .u8 0, sv [], .int .i64 52] := by
        have : chE 3 b (bSum L) (L.set j c) = 52 := if_pos (.inr hbs)
        unfold chV
        rw [this, if_neg (by decide)]
      have HV := Lib.hid hV
      have H5 := Lib.hid (H4.out.set c hjl)
      have H6 := Lib.hid (H5.out.alloc (.cells #[.int .i64 3, .int .i64 b, .int .u64 (bSum L)] 26))
      have HLs2 : Hid ((L.set j c).length = 512) := Lib.hid (by rw [List.length_set]; exact HLs.out)
      clear hc hbs hV
      go_upto_region 8 with (fail)
      rw [HJ.out]
      go_wp2_with (with_reducible refine wpList_load_blk rfl _ rfl rfl H6.out HLs2.out ?_)
      go_wp2_with fail
      refine (check_any 3 b (bSum L) (L.set j c) _ HLs2.out).mono ?_; rintro e w7 ⟨rfl, hw7⟩
      have b7 : Below w.heap.size w w7 := chain (by repeat' (first | (with_reducible exact Below.refl _ _) | (with_reducible assumption) | (with_reducible refine below_drewN ?_ _) | (with_reducible refine Below.alloc ?_ ?_ _) | (with_reducible refine Below.drew ?_) | (with_reducible refine Below.setCell ?_ ?_ _) | go_size)) hw7
      have s7 := b7.size
      rw [HV.out]
      go_wp2_with fail
      go_ret
      exact ⟨rfl, by assumption⟩
  · have hE' : (sealE b l != 0) = true := by rw [bne_iff_ne]; exact hE
    have hL : sealL k b l = zs 512 := if_neg hE
    rw [hL] at SA
    have GA := Lib.hid SA
    have q := fun W : World => run_eq_blk (zs 512) (zs 512) (zs_len _) (zs_len _) W
    have hqq : (zs 512 == zs 512) = true := by simp
    rw [hqq] at q
    clear hE hL SA hLs HLs hqq
    go_enter Try.func4, Try.ntmps4
    go_wp2_with fail
    refine (awake_any _).mono ?_; rintro e w1 ⟨rfl, hw1⟩
    have b1 : Below w.heap.size w w1 := chain (by repeat' (first | (with_reducible exact Below.refl _ _) | (with_reducible assumption) | (with_reducible refine below_drewN ?_ _) | (with_reducible refine Below.alloc ?_ ?_ _) | (with_reducible refine Below.drew ?_) | (with_reducible refine Below.setCell ?_ ?_ _) | go_size)) hw1
    have s1 := b1.size
    go_wp2_with fail
    refine (GA.out _).mono ?_; rintro e w2 ⟨rfl, hw2⟩
    have b2 : Below w.heap.size w w2 := chain (by repeat' (first | (with_reducible exact Below.refl _ _) | (with_reducible assumption) | (with_reducible refine below_drewN ?_ _) | (with_reducible refine Below.alloc ?_ ?_ _) | (with_reducible refine Below.drew ?_) | (with_reducible refine Below.setCell ?_ ?_ _) | go_size)) hw2
    have s2 := b2.size
    have HZ := Lib.hid (Lies.new w2 (zs 512) _ rfl)
    go_wp2_with (with_reducible refine wpList_store_blk (m := zs 512) rfl _ _ rfl rfl rfl HZ.out (zs_len 512) (zs_len 512) ?_)
    intro w3 h3 g3
    have b3 : Below w.heap.size w w3 := below_row (by repeat' (first | (with_reducible exact Below.refl _ _) | (with_reducible assumption) | (with_reducible refine below_drewN ?_ _) | (with_reducible refine Below.alloc ?_ ?_ _) | (with_reducible refine Below.drew ?_) | (with_reducible refine Below.setCell ?_ ?_ _) | go_size)) g3 (by go_size) s2
    have H3 := Lib.hid h3
    clear h3
    go_wp2_with (with_reducible refine wpList_load_blk rfl _ rfl rfl H3.out (zs_len 512) ?_)
    go_ret
    exact ⟨rfl, by repeat' (first | (with_reducible exact Below.refl _ _) | (with_reducible assumption) | (with_reducible refine below_drewN ?_ _) | (with_reducible refine Below.alloc ?_ ?_ _) | (with_reducible refine Below.drew ?_) | (with_reducible refine Below.setCell ?_ ?_ _) | go_size)⟩

theorem other_walk : Walks Try.prog 4 Try.f4 := by
  intro H enc W args ds p base hval hA hz
  rw [Try.params4] at hA hval
  obtain ⟨v0, vs1, d0, ds1, p0, q0, ha0, rfl, rfl, h0, hA⟩ := trodAll_cons hA
  obtain ⟨v1, vs2, d1, ds2, p1, q1, rfl, rfl, rfl, h1, hA⟩ := trodAll_cons hA
  obtain ⟨v2, vs3, d2, ds3, p2, q2, rfl, rfl, rfl, h2, hA⟩ := trodAll_cons hA
  obtain ⟨v3, vs4, d3, ds4, p3, q3, rfl, rfl, rfl, h3, hA⟩ := trodAll_cons hA
  obtain ⟨v4, vs5, d4, ds5, p4, q4, rfl, rfl, rfl, h4, hA⟩ := trodAll_cons hA
  obtain ⟨rfl, rfl, rfl⟩ := trodAll_nil hA
  obtain rfl : args = #[v0, v1, v2, v3, v4] := by cases args; simp_all
  obtain ⟨x0, rfl, _, _, w0⟩ := open_int Try.underlying5 (hval 0 _ v0 rfl rfl) h0
  obtain ⟨x1, rfl, _⟩ := open_int Try.underlying3 (hval 1 _ v1 rfl rfl) h1
  obtain ⟨l, rfl, hl⟩ := open_text (hval 2 _ v2 rfl rfl) h2
  obtain ⟨x3, rfl, _⟩ := open_int Try.underlying3 (hval 3 _ v3 rfl rfl) h3
  obtain ⟨x4, rfl, _, _, w4⟩ := open_int Try.underlying5 (hval 4 _ v4 rfl rfl) h4
  obtain ⟨a0, a1⟩ := bounds_u8 w0
  obtain ⟨c0, c1⟩ := bounds_u8 w4
  have := other_any (UInt8.ofNat x0.toNat) x1 l x3 (UInt8.ofNat x4.toNat) W hl
  rw [show (((UInt8.ofNat x0.toNat).toNat : Nat) : Int) = x0 from by rw [ofNat_toNat]; omega, show (((UInt8.ofNat x4.toNat).toNat : Nat) : Int) = x4 from by rw [ofNat_toNat]; omega] at this
  exact this

theorem BlockOther_holds : Rows.BlockOtherSaid :=
  OpenClaim.holds_of_wide 4 Try.f4 rfl rfl rfl rfl rfl rfl rfl ⟨rfl, rfl, rfl, rfl, rfl⟩ rfl rfl rfl rfl rfl (by kernel_rfl) Try.func4 (by kernel_rfl)
    (of_decide_eq_true (by kernel_rfl)) (by unfold Func.isWrapper; first | (rw [if_pos (by decide +kernel)]; kernel_rfl) | (rw [if_neg (by decide +kernel)]; exact ⟨rfl, rfl⟩))
    (fun os started H enc _ => law_lifted (C := Try.checked) (s := Rows.blockOtherSpec) own started (by kernel_rfl) Try.func4 laidOut rfl rfl Try.underlying4
      (by have h : ∀ u ∈ Try.f4.params.toList, (Try.prog.readableRec u && decide (u < Try.prog.types.size)) = true := List.all_eq_true.1 (by kernel_rfl)
          intro u hu; have := h u hu; rw [Bool.and_eq_true, decide_eq_true_eq] at this; exact this)
      (by intro H l hl; rw [show Try.f4.params.size = 5 from by rw [Try.params4]; rfl] at hl; match l, hl with | [d0, d1, d2, d3, d4], _ => rfl)
      H enc (ChangeSpec.witness6 (enc := enc) (C := Try.checked) false ⟨#[], #[.int .u8 0, .int .i64 0, .string ⟨#[]⟩, .int .i64 0, .int .u8 0], []⟩ 8 (by kernel_rfl) (by kernel_rfl) (by kernel_rfl) (by kernel_rfl)) other_walk)
#print axioms BlockOther_holds
end Go.Proofs.Ytjhgimdpgnnffaa
