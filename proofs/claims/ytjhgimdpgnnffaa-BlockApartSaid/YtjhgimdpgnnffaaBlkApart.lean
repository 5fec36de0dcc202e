/- BlockApart: unlike pointers that may be have unlike bytes, 16 each; unlike kinds, births or bodies have unlike blocks: for every two pointers, kinds, births and bodies the law returns true. Conditions: none. -/
import Derived.Test.YtjhgimdpgnnffaaBlkEnc
import Derived.Test.YtjhgimdpgnnffaaBlkAwake
import Derived.Test.YtjhgimdpgnnffaaBlkArgs
import Derived.Deep.DeepCutAuto
namespace Go.Proofs.Ytjhgimdpgnnffaa
set_option linter.unusedVariables false
set_option linter.unusedSimpArgs false
open Go.ChangeShapes Go.WideShapes Go.ChangeAt Go.RowKit Pl
attribute [local go_sem] ba_toList ba_size zeroValueB

theorem enc_beq {a b s x y z : Int} (h : mayP a b s = true) (k : mayP x y z = true) (hs : 0 ≤ s ∧ s < 18446744073709551616) (hz : 0 ≤ z ∧ z < 18446744073709551616) : (encS a b s == encS x y z) = eqP a b s x y z := by
  rw [Bool.eq_iff_iff, beq_iff_eq]
  unfold eqP
  simp only [Bool.and_eq_true, beq_iff_eq]
  constructor
  · intro e
    obtain ⟨e1, e2, e3⟩ := encS_inj (mayP_in h) (mayP_in k) hs hz e
    exact ⟨⟨e1, e2⟩, e3⟩
  · rintro ⟨⟨rfl, rfl⟩, rfl⟩; rfl
theorem seal_beq {k k' : UInt8} {b b' : Int} {l l' : List UInt8} (h : sealE b l = 0) (h' : sealE b' l' = 0) : (sealL k b l == sealL k' b' l') = (((k.toNat : Int) == (k'.toNat : Int)) && (b == b') && (l == l')) := by
  obtain ⟨_, o1, o2, o3, _⟩ := seal_open (k := k) h
  obtain ⟨_, p1, p2, p3, _⟩ := seal_open (k := k') h'
  rw [Bool.eq_iff_iff, beq_iff_eq]
  simp only [Bool.and_eq_true, beq_iff_eq]
  constructor
  · intro e
    rw [e] at o1 o2 o3
    exact ⟨⟨by rw [← o1, p1], by rw [← o2, p2]⟩, by rw [← o3, p3]⟩
  · rintro ⟨⟨e1, rfl⟩, rfl⟩
    have : k = k' := UInt8.toNat_inj.1 (by omega)
    rw [this]

set_option maxRecDepth 100000 in
set_option maxHeartbeats 6400000 in
theorem apart_any (a b s x y z : Int) (k k' : UInt8) (n n' : Int) (l l' : List UInt8) (w : World) (hs : 0 ≤ s ∧ s < 18446744073709551616) (hz : 0 ≤ z ∧ z < 18446744073709551616) (hl : l.length ≤ maxLen) (hl' : l'.length ≤ maxLen) :
    Calls Try.prog 6 #[ptrV a b s, ptrV x y z, .int .u8 (k.toNat : Int), .int .u8 (k'.toNat : Int), .int .i64 n, .int .i64 n', sv l, sv l'] w fun e w' => e = .returned (.bool true) ∧ Below w.heap.size w w' := by
  unfold maxLen at hl hl'
  by_cases h1 : (1000 : Int) < (l.length : Int)
  · go_enter Try.func6, Try.ntmps6
    go_wp2_with fail
    go_wp2_with fail
    refine (awake_any _).mono ?_; rintro e w1 ⟨rfl, hw1⟩
    have b1 : Below w.heap.size w w1 := chain (by repeat' (first | (with_reducible exact Below.refl _ _) | (with_reducible assumption) | (with_reducible refine below_drewN ?_ _) | (with_reducible refine Below.alloc ?_ ?_ _) | (with_reducible refine Below.drew ?_) | (with_reducible refine Below.setCell ?_ ?_ _) | go_size)) hw1
    have s1 := b1.size
    go_wp2_with fail
    go_ret
    exact ⟨rfl, by assumption⟩
  by_cases h2 : (1000 : Int) < (l'.length : Int)
  · go_enter Try.func6, Try.ntmps6
    go_wp2_with fail
    go_wp2_with fail
    refine (awake_any _).mono ?_; rintro e w1 ⟨rfl, hw1⟩
    have b1 : Below w.heap.size w w1 := chain (by repeat' (first | (with_reducible exact Below.refl _ _) | (with_reducible assumption) | (with_reducible refine below_drewN ?_ _) | (with_reducible refine Below.alloc ?_ ?_ _) | (with_reducible refine Below.drew ?_) | (with_reducible refine Below.setCell ?_ ?_ _) | go_size)) hw1
    have s1 := b1.size
    go_wp2_with fail
    go_ret
    exact ⟨rfl, by assumption⟩
  have EA := fun W : World => encode_any a b s W hs
  have EB := fun W : World => encode_any x y z W hz
  have SA := fun W : World => seal_any k n l W (by omega)
  have SB := fun W : World => seal_any k' n' l' W (by omega)
  have old : ∀ W : World, Below ((w.alloc (.cells #[.int .i64 a, .int .i64 b, .int .u64 s] 26)).alloc (.cells #[.int .i64 x, .int .i64 y, .int .u64 z] 26)).heap.size ((w.alloc (.cells #[.int .i64 a, .int .i64 b, .int .u64 s] 26)).alloc (.cells #[.int .i64 x, .int .i64 y, .int .u64 z] 26)) W →
      (W.cell? ⟨w.heap.size, 0, none⟩ = some (.int .i64 a) ∧ W.cell? ⟨w.heap.size, 1, none⟩ = some (.int .i64 b) ∧ W.cell? ⟨w.heap.size, 2, none⟩ = some (.int .u64 s)) ∧
      (W.cell? ⟨w.heap.size + 1, 0, none⟩ = some (.int .i64 x) ∧ W.cell? ⟨w.heap.size + 1, 1, none⟩ = some (.int .i64 y) ∧ W.cell? ⟨w.heap.size + 1, 2, none⟩ = some (.int .u64 z)) := fun W h =>
    ⟨⟨(h.cell (p := ⟨w.heap.size, 0, none⟩) (by simp; omega)).trans (by simp), (h.cell (p := ⟨w.heap.size, 1, none⟩) (by simp; omega)).trans (by simp), (h.cell (p := ⟨w.heap.size, 2, none⟩) (by simp; omega)).trans (by simp)⟩,
     ⟨(h.cell (p := ⟨w.heap.size + 1, 0, none⟩) (by simp)).trans (by simp), (h.cell (p := ⟨w.heap.size + 1, 1, none⟩) (by simp)).trans (by simp), (h.cell (p := ⟨w.heap.size + 1, 2, none⟩) (by simp)).trans (by simp)⟩⟩
  have OLD := Lib.hid old
  have HA := Lib.hid (sealL_len k n l)
  have HB' := Lib.hid (sealL_len k' n' l')
  have hq := fun W : World => eql_ptr a b s x y z W
  have heq : encOK a b s = 0 → encOK x y z = 0 → (encL a b s == encL x y z) = eqP a b s x y z ∧ ((encL a b s).length : Int) = 16 ∧ ((encL x y z).length : Int) = 16 := by
    intro e1 e2
    unfold encOK at e1 e2
    unfold encL
    cases h : mayP a b s
    · rw [h] at e1; exact absurd e1 (by decide)
    cases h' : mayP x y z
    · rw [h'] at e2; exact absurd e2 (by decide)
    rw [if_pos rfl, if_pos rfl]
    exact ⟨enc_beq h h' hs hz, by rw [encS_len]; rfl, by rw [encS_len]; rfl⟩
  have hse : sealE n l = 0 → sealE n' l' = 0 → (sealL k n l == sealL k' n' l') = (((k.toNat : Int) == (k'.toNat : Int)) && (n == n') && (l == l')) := seal_beq
  have qb := fun W : World => run_eq_blk (sealL k n l) (sealL k' n' l') (sealL_len _ _ _) (sealL_len _ _ _) W
  generalize encL a b s = LA at *
  generalize encL x y z = LB at *
  generalize sealL k n l = BA at *
  generalize sealL k' n' l' = BB at *
  generalize encOK a b s = OA at *
  generalize encOK x y z = OB at *
  generalize sealE n l = PA at *
  generalize sealE n' l' = PB at *
  have HE := Lib.hid heq
  have HSE := Lib.hid hse
  have GEA := Lib.hid EA
  have GEB := Lib.hid EB
  have GSA := Lib.hid SA
  have GSB := Lib.hid SB
  have HQB := Lib.hid qb
  clear EA EB SA SB old heq hse qb
  have tail : ∀ (hE : (OA == 0) = true → (OB == 0) = true → (LA == LB) = eqP a b s x y z ∧ ((LA.length : Int) != 16) = false ∧ ((LB.length : Int) != 16) = false) , Calls Try.prog 6 #[ptrV a b s, ptrV x y z, .int .u8 (k.toNat : Int), .int .u8 (k'.toNat : Int), .int .i64 n, .int .i64 n', sv l, sv l'] w fun e w' => e = .returned (.bool true) ∧ Below w.heap.size w w' := by
    intro hE
    generalize eqP a b s x y z = EQ at hE hq
    have HE := Lib.hid hE
    clear hE
    go_enter Try.func6, Try.ntmps6
    go_wp2_with fail
    refine (awake_any _).mono ?_; rintro e w1 ⟨rfl, hw1⟩
    have b1 : Below w.heap.size w w1 := chain (by repeat' (first | (with_reducible exact Below.refl _ _) | (with_reducible assumption) | (with_reducible refine below_drewN ?_ _) | (with_reducible refine Below.alloc ?_ ?_ _) | (with_reducible refine Below.drew ?_) | (with_reducible refine Below.setCell ?_ ?_ _) | go_size)) hw1
    have s1 := b1.size
    obtain ⟨⟨p0, p1, p2⟩, ⟨q0, q1, q2⟩⟩ := OLD.out w1 hw1
    go_wp2_with fail
    refine (GEA.out _).mono ?_; rintro e w2 ⟨rfl, hw2⟩
    have b2 : Below w.heap.size w w2 := chain (by repeat' (first | (with_reducible exact Below.refl _ _) | (with_reducible assumption) | (with_reducible refine below_drewN ?_ _) | (with_reducible refine Below.alloc ?_ ?_ _) | (with_reducible refine Below.drew ?_) | (with_reducible refine Below.setCell ?_ ?_ _) | go_size)) hw2
    have s2 := b2.size
    have hw12 := hw1.trans (hw2.mono hw1.size)
    clear p0 p1 p2 q0 q1 q2
    obtain ⟨⟨p0, p1, p2⟩, ⟨q0, q1, q2⟩⟩ := OLD.out w2 hw12
    go_wp2_with fail
    refine (GEB.out _).mono ?_; rintro e w3 ⟨rfl, hw3⟩
    have b3 : Below w.heap.size w w3 := chain (by repeat' (first | (with_reducible exact Below.refl _ _) | (with_reducible assumption) | (with_reducible refine below_drewN ?_ _) | (with_reducible refine Below.alloc ?_ ?_ _) | (with_reducible refine Below.drew ?_) | (with_reducible refine Below.setCell ?_ ?_ _) | go_size)) hw3
    have s3 := b3.size
    have hw13 := hw12.trans (hw3.mono hw12.size)
    clear p0 p1 p2 q0 q1 q2
    obtain ⟨⟨p0, p1, p2⟩, ⟨q0, q1, q2⟩⟩ := OLD.out w3 hw13
    go_upto_region 5 with (fail)
    go_cut [72] (fun v wc => v = .bool false ∧ Below w.heap.size w wc)
    case first =>
      cases hA : (OA == 0)
      rotate_left
      cases hB : (OB == 0)
      rotate_left
      obtain ⟨r1, r2, r3⟩ := HE.out hA hB
      all_goals
        go_wp2_with fail
        go_meet
        exact ⟨rfl, b3⟩
    case rest =>
      obtain ⟨rfl, b3'⟩ := hcut
      clear p0 p1 p2 q0 q1 q2
      have s3' := b3'.size
      go_wp2_with fail
      refine (GSA.out _).mono ?_; rintro e w4 ⟨rfl, hw4⟩
      have b4 : Below w.heap.size w w4 := chain b3' hw4
      have s4 := b4.size
      have HZ := Lib.hid (Lies.new w4 (zs 512) _ rfl)
      go_wp2_with (with_reducible refine wpList_store_blk (m := BA) rfl _ _ rfl rfl rfl HZ.out (zs_len 512) HA.out ?_)
      intro w5 h5 g5
      have b5 : Below w.heap.size w w5 := below_row (by repeat' (first | (with_reducible exact Below.refl _ _) | (with_reducible assumption) | (with_reducible refine below_drewN ?_ _) | (with_reducible refine Below.alloc ?_ ?_ _) | (with_reducible refine Below.drew ?_) | (with_reducible refine Below.setCell ?_ ?_ _) | go_size)) g5 (by go_size) s4
      have s5 := b5.size
      have H5 := Lib.hid h5
      clear h5
      go_wp2_with fail
      refine (GSB.out _).mono ?_; rintro e w6 ⟨rfl, hw6⟩
      have b6 : Below w.heap.size w w6 := chain b5 hw6
      have s6 := b6.size
      have HZ6 := Lib.hid (Lies.new w6 (zs 512) _ rfl)
      have hne : w4.heap.size ≠ w6.heap.size := by have := H5.out.lt; have := hw6.size; omega
      have H56 := Lib.hid ((H5.out.below hw6).alloc (.cells (ac (zs 512)) 23))
      have HNE := Lib.hid hne
      clear hne
      go_wp2_with (with_reducible refine wpList_store_blk (m := BB) rfl _ _ rfl rfl rfl HZ6.out (zs_len 512) HB'.out ?_)
      intro w7 h7 g7
      have b7 : Below w.heap.size w w7 := below_row (by repeat' (first | (with_reducible exact Below.refl _ _) | (with_reducible assumption) | (with_reducible refine below_drewN ?_ _) | (with_reducible refine Below.alloc ?_ ?_ _) | (with_reducible refine Below.drew ?_) | (with_reducible refine Below.setCell ?_ ?_ _) | go_size)) g7 (by go_size) s6
      have H7 := Lib.hid h7
      have H57 := Lib.hid (H56.out.but g7 (fun e => HNE.out (Option.some.inj e)))
      clear h7
      by_cases hPA : PA = 0
      · by_cases hPB : PB = 0
        · have hx := HSE.out hPA hPB
          have qb := HQB.out
          rw [hx] at qb
          have c1 : (PA != 0) = false := by rw [hPA]; rfl
          have c2 : (PB != 0) = false := by rw [hPB]; rfl
          clear hx hPA hPB
          go_wp2_with fail
          refine wp_load_blk rfl rfl H57.out HA.out ?_
          go_wp2_with fail
          refine wp_load_blk rfl rfl H7.out HB'.out ?_
          cases d1 : ((k.toNat : Int) == (k'.toNat : Int))
          · simp only [d1, Bool.false_and] at qb
            go_wp2_with fail
            go_ret
            exact ⟨rfl, b7⟩
          cases d2 : (n == n')
          · simp only [d1, d2, Bool.true_and, Bool.false_and] at qb
            go_wp2_with fail
            go_ret
            exact ⟨rfl, b7⟩
          cases d3 : (l == l')
          all_goals
            simp only [d1, d2, d3, Bool.and_true, Bool.and_false, Bool.true_and, Bool.false_and] at qb
            go_wp2_with fail
            go_ret
            exact ⟨rfl, b7⟩
        · have c1 : (PA != 0) = false := by rw [hPA]; rfl
          have c2 : (PB != 0) = true := by rw [bne_iff_ne]; exact hPB
          clear hPA hPB
          go_wp2_with fail
          go_ret
          exact ⟨rfl, b7⟩
      · have c1 : (PA != 0) = true := by rw [bne_iff_ne]; exact hPA
        clear hPA
        go_wp2_with fail
        go_ret
        exact ⟨rfl, b7⟩
  exact tail (fun e1 e2 => by
    obtain ⟨r1, r2, r3⟩ := HE.out (by simpa using e1) (by simpa using e2)
    exact ⟨r1, by simp [r2], by simp [r3]⟩)

theorem apart_walk : Walks Try.prog 6 Try.f6 := by
  intro H enc W args ds p base hval hA hz
  rw [Try.params6] at hA hval
  obtain ⟨v0, vs1, d0, ds1, p0, q0, ha0, rfl, rfl, h0, hA⟩ := trodAll_cons hA
  obtain ⟨v1, vs2, d1, ds2, p1, q1, rfl, rfl, rfl, h1, hA⟩ := trodAll_cons hA
  obtain ⟨v2, vs3, d2, ds3, p2, q2, rfl, rfl, rfl, h2, hA⟩ := trodAll_cons hA
  obtain ⟨v3, vs4, d3, ds4, p3, q3, rfl, rfl, rfl, h3, hA⟩ := trodAll_cons hA
  obtain ⟨v4, vs5, d4, ds5, p4, q4, rfl, rfl, rfl, h4, hA⟩ := trodAll_cons hA
  obtain ⟨v5, vs6, d5, ds6, p5, q5, rfl, rfl, rfl, h5, hA⟩ := trodAll_cons hA
  obtain ⟨v6, vs7, d6, ds7, p6, q6, rfl, rfl, rfl, h6, hA⟩ := trodAll_cons hA
  obtain ⟨v7, vs8, d7, ds8, p7, q7, rfl, rfl, rfl, h7, hA⟩ := trodAll_cons hA
  obtain ⟨rfl, rfl, rfl⟩ := trodAll_nil hA
  obtain rfl : args = #[v0, v1, v2, v3, v4, v5, v6, v7] := by cases args; simp_all
  obtain ⟨a, b, s, rfl, hs⟩ := open_ptr (hval 0 _ v0 rfl rfl) h0
  obtain ⟨x, y, z, rfl, hz'⟩ := open_ptr (hval 1 _ v1 rfl rfl) h1
  obtain ⟨x2, rfl, _, _, w2⟩ := open_int Try.underlying5 (hval 2 _ v2 rfl rfl) h2
  obtain ⟨x3, rfl, _, _, w3⟩ := open_int Try.underlying5 (hval 3 _ v3 rfl rfl) h3
  obtain ⟨x4, rfl, _⟩ := open_int Try.underlying3 (hval 4 _ v4 rfl rfl) h4
  obtain ⟨x5, rfl, _⟩ := open_int Try.underlying3 (hval 5 _ v5 rfl rfl) h5
  obtain ⟨l, rfl, hl⟩ := open_text (hval 6 _ v6 rfl rfl) h6
  obtain ⟨l', rfl, hl'⟩ := open_text (hval 7 _ v7 rfl rfl) h7
  obtain ⟨a0, a1⟩ := bounds_u8 w2
  obtain ⟨c0, c1⟩ := bounds_u8 w3
  have := apart_any a b s x y z (UInt8.ofNat x2.toNat) (UInt8.ofNat x3.toNat) x4 x5 l l' W hs hz' hl hl'
  rw [show (((UInt8.ofNat x2.toNat).toNat : Nat) : Int) = x2 from by rw [ofNat_toNat]; omega, show (((UInt8.ofNat x3.toNat).toNat : Nat) : Int) = x3 from by rw [ofNat_toNat]; omega] at this
  exact this

theorem BlockApart_holds : Rows.BlockApartSaid :=
  OpenClaim.holds_of_wide 6 Try.f6 rfl rfl rfl rfl rfl rfl rfl ⟨rfl, rfl, rfl, rfl, rfl⟩ rfl rfl rfl rfl rfl (by kernel_rfl) Try.func6 (by kernel_rfl)
    (of_decide_eq_true (by kernel_rfl)) (by unfold Func.isWrapper; first | (rw [if_pos (by decide +kernel)]; kernel_rfl) | (rw [if_neg (by decide +kernel)]; exact ⟨rfl, rfl⟩))
    (fun os started H enc _ => law_lifted (C := Try.checked) (s := Rows.blockApartSpec) own started (by kernel_rfl) Try.func6 laidOut rfl rfl Try.underlying4
      (by have h : ∀ u ∈ Try.f6.params.toList, (Try.prog.readableRec u && decide (u < Try.prog.types.size)) = true := List.all_eq_true.1 (by kernel_rfl)
          intro u hu; have := h u hu; rw [Bool.and_eq_true, decide_eq_true_eq] at this; exact this)
      (by intro H l hl; rw [show Try.f6.params.size = 8 from by rw [Try.params6]; rfl] at hl; match l, hl with | [d0, d1, d2, d3, d4, d5, d6, d7], _ => rfl)
      H enc (ChangeSpec.witness6 (enc := enc) (C := Try.checked) false ⟨#[], #[.agg #[.int .i64 0, .int .i64 0, .int .u64 0], .agg #[.int .i64 0, .int .i64 0, .int .u64 0], .int .u8 0, .int .u8 0, .int .i64 0, .int .i64 0, .string ⟨#[]⟩, .string ⟨#[]⟩], []⟩ 8 (by kernel_rfl) (by kernel_rfl) (by kernel_rfl) (by kernel_rfl)) apart_walk)
#print axioms BlockApart_holds
end Go.Proofs.Ytjhgimdpgnnffaa
