/- HandleApart: unlike handles that may be have unlike bytes, 24 each, and one stands ahead just if its first 16 bytes do: for every two handles the law returns true. Conditions: none. -/
import Derived.Test.YtchldgedpncggaaHandleOpen
namespace Go.Proofs.Ytchldgedpncggaa
set_option linter.unusedVariables false
set_option linter.unusedSimpArgs false
open Go.ChangeShapes Go.WideShapes Go.ChangeAt Go.RowKit Pl
attribute [local go_sem] ba_toList ba_size

theorem beq_enc {a b c x y z : Int} (h : mayH a b c = true) (k : mayH x y z = true) : (encB a b c == encB x y z) = eqH a b c x y z := by
  rw [Bool.eq_iff_iff, beq_iff_eq]
  unfold eqH
  rw [decide_eq_true_eq]
  constructor
  · exact enc_inj h k
  · rintro ⟨rfl, rfl, rfl⟩; rfl

set_option maxHeartbeats 3200000 in
theorem apart_any (a b c x y z : Int) (w : World) : Calls Try.prog 8 #[hv a b c, hv x y z] w fun e w' => e = .returned (.bool true) ∧ Below w.heap.size w w' := by
  have x0 := (BoxH.new w a b c 23).alloc (.cells #[.int .i64 x, .int .i64 y, .int .i64 z] 23)
  have y0 := BoxH.new (w.alloc (.cells #[.int .i64 a, .int .i64 b, .int .i64 c] 23)) x y z 23
  simp only [World.size_alloc] at y0
  have EA := fun W : World => encode_any a b c W
  have EB := fun W : World => encode_any x y z W
  have MA := fun W : World => may_any a b c W
  have MB := fun W : World => may_any x y z W
  cases hm : mayH a b c
  · have he : encE a b c = 4 := by unfold encE; rw [hm]; rfl
    simp only [he] at EA
    simp only [hm] at MA
    cases hn : mayH x y z
    all_goals
      have hf : encE x y z = if mayH x y z then 0 else 4 := rfl
      rw [hn] at hf
      simp only [hf] at EB
      simp only [hn] at MB
      simp only [Bool.false_eq_true, if_true, if_false] at EB
      have HA := Lib.hid EA
      have HB := Lib.hid EB
      have HM := Lib.hid MA
      have HN := Lib.hid MB
      clear EA EB MA MB hm hn he hf
      go_enter Try.func8, Try.ntmps8
      go_wp2_with fail
      refine (awake_any _).mono ?_; rintro e w1 ⟨rfl, hw1⟩
      have b1 : Below w.heap.size w w1 := chain (by repeat' (first | (with_reducible exact Below.refl _ _) | (with_reducible assumption) | (with_reducible refine below_drewN ?_ _) | (with_reducible refine Below.alloc ?_ ?_ _) | (with_reducible refine Below.drew ?_) | (with_reducible refine Below.setCell ?_ ?_ _) | go_size)) hw1
      have s1 := b1.size
      obtain ⟨lb, q0, q1, q2⟩ := x0.below hw1
      go_wp2_with fail
      refine (HA.out _).mono ?_; rintro e w2 ⟨rfl, hw2⟩
      have b2 : Below w.heap.size w w2 := chain (by repeat' (first | (with_reducible exact Below.refl _ _) | (with_reducible assumption) | (with_reducible refine below_drewN ?_ _) | (with_reducible refine Below.alloc ?_ ?_ _) | (with_reducible refine Below.drew ?_) | (with_reducible refine Below.setCell ?_ ?_ _) | go_size)) hw2
      have s2 := b2.size
      clear lb q0 q1 q2
      obtain ⟨lb, q0, q1, q2⟩ := (y0.below hw1).below hw2
      go_wp2_with fail
      refine (HB.out _).mono ?_; rintro e w3 ⟨rfl, hw3⟩
      have b3 : Below w.heap.size w w3 := chain (by repeat' (first | (with_reducible exact Below.refl _ _) | (with_reducible assumption) | (with_reducible refine below_drewN ?_ _) | (with_reducible refine Below.alloc ?_ ?_ _) | (with_reducible refine Below.drew ?_) | (with_reducible refine Below.setCell ?_ ?_ _) | go_size)) hw3
      have s3 := b3.size
      clear lb q0 q1 q2
      obtain ⟨lb, q0, q1, q2⟩ := ((x0.below hw1).below hw2).below hw3
      go_wp2_with fail
      refine (HM.out _).mono ?_; rintro e w4 ⟨rfl, hw4⟩
      have b4 : Below w.heap.size w w4 := chain (by repeat' (first | (with_reducible exact Below.refl _ _) | (with_reducible assumption) | (with_reducible refine below_drewN ?_ _) | (with_reducible refine Below.alloc ?_ ?_ _) | (with_reducible refine Below.drew ?_) | (with_reducible refine Below.setCell ?_ ?_ _) | go_size)) hw4
      have s4 := b4.size
      clear lb q0 q1 q2
      obtain ⟨lb, q0, q1, q2⟩ := (((y0.below hw1).below hw2).below hw3).below hw4
      go_wp2_with fail
      refine (HN.out _).mono ?_; rintro e w5 ⟨rfl, hw5⟩
      have b5 : Below w.heap.size w w5 := chain (by repeat' (first | (with_reducible exact Below.refl _ _) | (with_reducible assumption) | (with_reducible refine below_drewN ?_ _) | (with_reducible refine Below.alloc ?_ ?_ _) | (with_reducible refine Below.drew ?_) | (with_reducible refine Below.setCell ?_ ?_ _) | go_size)) hw5
      have s5 := b5.size
      go_wp2_with fail
      go_ret
      exact ⟨rfl, by repeat' (first | (with_reducible exact Below.refl _ _) | (with_reducible assumption) | (with_reducible refine below_drewN ?_ _) | (with_reducible refine Below.alloc ?_ ?_ _) | (with_reducible refine Below.drew ?_) | (with_reducible refine Below.setCell ?_ ?_ _) | go_size)⟩
  · have he : encE a b c = 0 := by unfold encE; rw [hm]; rfl
    simp only [he] at EA
    simp only [hm] at MA
    cases hn : mayH x y z
    · have hf : encE x y z = 4 := by unfold encE; rw [hn]; rfl
      simp only [hf] at EB
      simp only [hn] at MB
      have HA := Lib.hid EA
      have HB := Lib.hid EB
      have HM := Lib.hid MA
      have HN := Lib.hid MB
      clear EA EB MA MB hm hn he hf
      go_enter Try.func8, Try.ntmps8
      go_wp2_with fail
      refine (awake_any _).mono ?_; rintro e w1 ⟨rfl, hw1⟩
      have b1 : Below w.heap.size w w1 := chain (by repeat' (first | (with_reducible exact Below.refl _ _) | (with_reducible assumption) | (with_reducible refine below_drewN ?_ _) | (with_reducible refine Below.alloc ?_ ?_ _) | (with_reducible refine Below.drew ?_) | (with_reducible refine Below.setCell ?_ ?_ _) | go_size)) hw1
      have s1 := b1.size
      obtain ⟨lb, q0, q1, q2⟩ := x0.below hw1
      go_wp2_with fail
      refine (HA.out _).mono ?_; rintro e w2 ⟨rfl, hw2⟩
      have b2 : Below w.heap.size w w2 := chain (by repeat' (first | (with_reducible exact Below.refl _ _) | (with_reducible assumption) | (with_reducible refine below_drewN ?_ _) | (with_reducible refine Below.alloc ?_ ?_ _) | (with_reducible refine Below.drew ?_) | (with_reducible refine Below.setCell ?_ ?_ _) | go_size)) hw2
      have s2 := b2.size
      clear lb q0 q1 q2
      obtain ⟨lb, q0, q1, q2⟩ := (y0.below hw1).below hw2
      go_wp2_with fail
      refine (HB.out _).mono ?_; rintro e w3 ⟨rfl, hw3⟩
      have b3 : Below w.heap.size w w3 := chain (by repeat' (first | (with_reducible exact Below.refl _ _) | (with_reducible assumption) | (with_reducible refine below_drewN ?_ _) | (with_reducible refine Below.alloc ?_ ?_ _) | (with_reducible refine Below.drew ?_) | (with_reducible refine Below.setCell ?_ ?_ _) | go_size)) hw3
      have s3 := b3.size
      clear lb q0 q1 q2
      obtain ⟨lb, q0, q1, q2⟩ := ((x0.below hw1).below hw2).below hw3
      go_wp2_with fail
      refine (HM.out _).mono ?_; rintro e w4 ⟨rfl, hw4⟩
      have b4 : Below w.heap.size w w4 := chain (by repeat' (first | (with_reducible exact Below.refl _ _) | (with_reducible assumption) | (with_reducible refine below_drewN ?_ _) | (with_reducible refine Below.alloc ?_ ?_ _) | (with_reducible refine Below.drew ?_) | (with_reducible refine Below.setCell ?_ ?_ _) | go_size)) hw4
      have s4 := b4.size
      clear lb q0 q1 q2
      obtain ⟨lb, q0, q1, q2⟩ := (((y0.below hw1).below hw2).below hw3).below hw4
      go_wp2_with fail
      refine (HN.out _).mono ?_; rintro e w5 ⟨rfl, hw5⟩
      have b5 : Below w.heap.size w w5 := chain (by repeat' (first | (with_reducible exact Below.refl _ _) | (with_reducible assumption) | (with_reducible refine below_drewN ?_ _) | (with_reducible refine Below.alloc ?_ ?_ _) | (with_reducible refine Below.drew ?_) | (with_reducible refine Below.setCell ?_ ?_ _) | go_size)) hw5
      have s5 := b5.size
      go_wp2_with fail
      go_ret
      exact ⟨rfl, by repeat' (first | (with_reducible exact Below.refl _ _) | (with_reducible assumption) | (with_reducible refine below_drewN ?_ _) | (with_reducible refine Below.alloc ?_ ?_ _) | (with_reducible refine Below.drew ?_) | (with_reducible refine Below.setCell ?_ ?_ _) | go_size)⟩
    · have hf : encE x y z = 0 := by unfold encE; rw [hn]; rfl
      simp only [hf] at EB
      have hEq := beq_enc hm hn
      have hLs := less_bytes hm hn
      have l1 : (((encB a b c).length : Int) == 24) = true := by rw [enc_length hm]; rfl
      have l2 : (((encB x y z).length : Int) == 24) = true := by rw [enc_length hn]; rfl
      have s1 : ∀ W, (Instr.slice 9 (.string ⟨(encB a b c).toArray⟩) none (some (.int .i64 16)) none).run Try.prog W = .ok (sv ((encB a b c).take 16)) W := fun W => slice_sv_h Try.underlying9 _ 16 (by rw [enc_length hm]; omega) W
      have s2 : ∀ W, (Instr.slice 9 (.string ⟨(encB x y z).toArray⟩) none (some (.int .i64 16)) none).run Try.prog W = .ok (sv ((encB x y z).take 16)) W := fun W => slice_sv_h Try.underlying9 _ 16 (by rw [enc_length hn]; omega) W
      have hq := fun W : World => eql_hv a b c x y z W
      have LL := fun W : World => less_any a b c x y z W
      generalize encB a b c = L1 at EA hEq hLs l1 s1
      generalize encB x y z = L2 at EB hEq hLs l2 s2
      generalize lessH a b c x y z = X at hLs LL
      generalize eqH a b c x y z = E at hEq hq
      have HA := Lib.hid EA
      have HB := Lib.hid EB
      have HL := Lib.hid LL
      clear EA EB MA MB hm hn he hf LL
      go_enter Try.func8, Try.ntmps8
      go_wp2_with fail
      refine (awake_any _).mono ?_; rintro e w1 ⟨rfl, hw1⟩
      have b1 : Below w.heap.size w w1 := chain (by repeat' (first | (with_reducible exact Below.refl _ _) | (with_reducible assumption) | (with_reducible refine below_drewN ?_ _) | (with_reducible refine Below.alloc ?_ ?_ _) | (with_reducible refine Below.drew ?_) | (with_reducible refine Below.setCell ?_ ?_ _) | go_size)) hw1
      have s1 := b1.size
      obtain ⟨lb, q0, q1, q2⟩ := x0.below hw1
      go_wp2_with fail
      refine (HA.out _).mono ?_; rintro e w2 ⟨rfl, hw2⟩
      have b2 : Below w.heap.size w w2 := chain (by repeat' (first | (with_reducible exact Below.refl _ _) | (with_reducible assumption) | (with_reducible refine below_drewN ?_ _) | (with_reducible refine Below.alloc ?_ ?_ _) | (with_reducible refine Below.drew ?_) | (with_reducible refine Below.setCell ?_ ?_ _) | go_size)) hw2
      have s2 := b2.size
      clear lb q0 q1 q2
      obtain ⟨lb, q0, q1, q2⟩ := (y0.below hw1).below hw2
      go_wp2_with fail
      refine (HB.out _).mono ?_; rintro e w3 ⟨rfl, hw3⟩
      have b3 : Below w.heap.size w w3 := chain (by repeat' (first | (with_reducible exact Below.refl _ _) | (with_reducible assumption) | (with_reducible refine below_drewN ?_ _) | (with_reducible refine Below.alloc ?_ ?_ _) | (with_reducible refine Below.drew ?_) | (with_reducible refine Below.setCell ?_ ?_ _) | go_size)) hw3
      have s3 := b3.size
      clear lb q0 q1 q2
      obtain ⟨p0, p1, p2⟩ := (((x0.below hw1).below hw2).below hw3).ext
      obtain ⟨q0, q1, q2⟩ := (((y0.below hw1).below hw2).below hw3).ext
      go_wp2_with fail
      refine wp_region_ext (by kernel_rfl) (by kernel_rfl) ?_
      repeat (go_big_quiet_step ((go_at_call 16; exact Ext.of_call (HL.out _))))
      refine wpQuiet_nil ?_
      intro n1
      go_wp2_with fail
      go_ret
      exact ⟨rfl, chain b3 n1.below⟩

theorem apart_walk : Walks Try.prog 8 Try.f8 := by
  intro H enc W args ds p base hval hA _
  rw [Try.params8] at hA hval
  obtain ⟨v0, v1, d0, d1, p0, p1, rfl, rfl, rfl, h0, h1⟩ := trodAll_two hA
  obtain ⟨a0, a1, a2, rfl, _⟩ := open_hv (hval 0 _ v0 rfl rfl) h0
  obtain ⟨b0, b1, b2, rfl, _⟩ := open_hv (hval 1 _ v1 rfl rfl) h1
  exact apart_any a0 a1 a2 b0 b1 b2 W

theorem HandleApart_holds : Rows.HandleApartSaid :=
  OpenClaim.holds_of_wide 8 Try.f8 rfl rfl rfl rfl rfl rfl rfl ⟨rfl, rfl, rfl, rfl, rfl⟩ rfl rfl rfl rfl rfl (by kernel_rfl) Try.func8 (by kernel_rfl)
    (of_decide_eq_true (by kernel_rfl)) (by unfold Func.isWrapper; first | (rw [if_pos (by decide +kernel)]; kernel_rfl) | (rw [if_neg (by decide +kernel)]; exact ⟨rfl, rfl⟩))
    (fun os started H enc _ => law_lifted (C := Try.checked) (s := Rows.handleApartSpec) own started (by kernel_rfl) Try.func8 laidOut rfl rfl Try.underlying4
      (by have h : ∀ u ∈ Try.f8.params.toList, (Try.prog.readableRec u && decide (u < Try.prog.types.size)) = true := List.all_eq_true.1 (by kernel_rfl)
          intro u hu; have := h u hu; rw [Bool.and_eq_true, decide_eq_true_eq] at this; exact this)
      (by intro H l hl; rw [show Try.f8.params.size = 2 from by rw [Try.params8]; rfl] at hl; match l, hl with | [d0, d1], _ => rfl)
      H enc (ChangeSpec.witness6 (enc := enc) (C := Try.checked) false ⟨#[], #[.agg #[.int .i64 0, .int .i64 0, .int .i64 0], .agg #[.int .i64 0, .int .i64 0, .int .i64 0]], []⟩ 8 (by kernel_rfl) (by kernel_rfl) (by kernel_rfl) (by kernel_rfl)) apart_walk)
#print axioms HandleApart_holds
end Go.Proofs.Ytchldgedpncggaa
