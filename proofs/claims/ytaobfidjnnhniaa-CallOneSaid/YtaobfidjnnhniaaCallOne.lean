/- CallOne: a call's bytes are 24 and its Body's, a reply's 12 and its Body's; unlike heads have unlike bytes, and so have unlike answers: for every input the law returns true. Conditions: none. -/
import Derived.Test.YtaobfidjnnhniaaCallEq
namespace Go.Proofs.Ytaobfidjnnhniaa
set_option linter.unusedVariables false
set_option linter.unusedSimpArgs false
open Go.ChangeShapes Go.WideShapes Go.ChangeAt Go.RowKit Pl
attribute [local go_sem] ba_toList ba_size

set_option maxRecDepth 100000 in
set_option maxHeartbeats 16000000 in
theorem one_walk (c x p : Int) (l : List UInt8) (c' x' p' : Int) (l' : List UInt8) (y e : Int) (m : List UInt8) (y' e' : Int) (m' : List UInt8) (w : World)
    (S1 S2 X1 X2 : List UInt8) (E1 E2 F1 F2 : Int) (z1 z2 d1 d2 : Bool) (hb1 : (E1 == 0) = z1) (hb2 : (E2 == 0) = z2) (hd1 : (F1 == 0) = d1) (hd2 : (F2 == 0) = d2)
    (g1 : z1 = true → ((S1.length : Int) != 24 + (l.length : Int)) = false) (g2 : z1 = true → z2 = true → (S1 == S2) = eqD c x p l c' x' p' l')
    (k1 : d1 = true → ((X1.length : Int) != 12 + (m.length : Int)) = false) (k2 : d1 = true → d2 = true → (X1 == X2) = eqA y e m y' e' m')
    (CA : Hid (∀ W : World, Calls Try.prog 9 #[headV c x p l] W fun r w' => r = .returned (.tuple #[sv S1, .int .i64 E1]) ∧ Below W.heap.size W w'))
    (CB : Hid (∀ W : World, Calls Try.prog 9 #[headV c' x' p' l'] W fun r w' => r = .returned (.tuple #[sv S2, .int .i64 E2]) ∧ Below W.heap.size W w'))
    (TA : Hid (∀ W : World, Calls Try.prog 11 #[ansV y e m] W fun r w' => r = .returned (.tuple #[sv X1, .int .i64 F1]) ∧ Below W.heap.size W w'))
    (TB : Hid (∀ W : World, Calls Try.prog 11 #[ansV y' e' m'] W fun r w' => r = .returned (.tuple #[sv X2, .int .i64 F2]) ∧ Below W.heap.size W w'))
    (h1 : (l.length : Int) + (l'.length : Int) ≤ 20000) (h2 : (m.length : Int) + (m'.length : Int) ≤ 20000) :
    Calls Try.prog 6 #[headV c x p l, headV c' x' p' l', ansV y e m, ansV y' e' m'] w fun r w' => r = .returned (.bool true) ∧ Below w.heap.size w w' := by
  have q1 := fun W : World => eql_ref c x p l c' x' p' l' W
  have q2 := fun W : World => eql_rans y e m y' e' m' W
  generalize eqD c x p l c' x' p' l' = EQ at g2 q1
  generalize eqA y e m y' e' m' = AQ at k2 q2
  have D1 := (((BoxD.new w c x p l 23).alloc (.cells #[.int .i64 c', .int .i64 x', .int .i64 p', sv l'] 23)).alloc (.cells #[.int .i64 y, .int .i64 e, sv m] 26)).alloc (.cells #[.int .i64 y', .int .i64 e', sv m'] 26)
  have D2 := ((BoxD.new (w.alloc (.cells #[.int .i64 c, .int .i64 x, .int .i64 p, sv l] 23)) c' x' p' l' 23).alloc (.cells #[.int .i64 y, .int .i64 e, sv m] 26)).alloc (.cells #[.int .i64 y', .int .i64 e', sv m'] 26)
  have A1 := (BoxA.new ((w.alloc (.cells #[.int .i64 c, .int .i64 x, .int .i64 p, sv l] 23)).alloc (.cells #[.int .i64 c', .int .i64 x', .int .i64 p', sv l'] 23)) y e m 26 _ rfl).below ((Below.refl _ _).alloc (Nat.le_refl _) (.cells #[.int .i64 y', .int .i64 e', sv m'] 26))
  have A2 := BoxA.new (((w.alloc (.cells #[.int .i64 c, .int .i64 x, .int .i64 p, sv l] 23)).alloc (.cells #[.int .i64 c', .int .i64 x', .int .i64 p', sv l'] 23)).alloc (.cells #[.int .i64 y, .int .i64 e, sv m] 26)) y' e' m' 26 _ rfl
  simp only [World.size_alloc] at D1 D2 A1 A2
  have t1 : ¬ (20000 : Int) < (l.length : Int) + (l'.length : Int) := by omega
  have t2 : ¬ (20000 : Int) < (m.length : Int) + (m'.length : Int) := by omega
  have HQ1 := Lib.hid q1
  have HQ2 := Lib.hid q2
  clear q1 q2
  go_enter Try.func6, Try.ntmps6
  go_wp2_with fail
  refine (works_any _).mono ?_; rintro e w1 ⟨rfl, hw1⟩
  have b1 : Below w.heap.size w w1 := chain (by repeat' (first | (with_reducible exact Below.refl _ _) | (with_reducible assumption) | (with_reducible refine below_drewN ?_ _) | (with_reducible refine Below.alloc ?_ ?_ _) | (with_reducible refine Below.drew ?_) | (with_reducible refine Below.setCell ?_ ?_ _) | go_size)) hw1
  have s1 := b1.size
  have D1 := D1.step (by repeat' (first | (with_reducible exact Below.refl _ _) | (with_reducible assumption) | (with_reducible refine below_drewN ?_ _) | (with_reducible refine Below.alloc ?_ ?_ _) | (with_reducible refine Below.drew ?_) | (with_reducible refine Below.setCell ?_ ?_ _) | go_size)) hw1
  have D2 := D2.step (by repeat' (first | (with_reducible exact Below.refl _ _) | (with_reducible assumption) | (with_reducible refine below_drewN ?_ _) | (with_reducible refine Below.alloc ?_ ?_ _) | (with_reducible refine Below.drew ?_) | (with_reducible refine Below.setCell ?_ ?_ _) | go_size)) hw1
  have A1 := A1.step (by repeat' (first | (with_reducible exact Below.refl _ _) | (with_reducible assumption) | (with_reducible refine below_drewN ?_ _) | (with_reducible refine Below.alloc ?_ ?_ _) | (with_reducible refine Below.drew ?_) | (with_reducible refine Below.setCell ?_ ?_ _) | go_size)) hw1
  have A2 := A2.step (by repeat' (first | (with_reducible exact Below.refl _ _) | (with_reducible assumption) | (with_reducible refine below_drewN ?_ _) | (with_reducible refine Below.alloc ?_ ?_ _) | (with_reducible refine Below.drew ?_) | (with_reducible refine Below.setCell ?_ ?_ _) | go_size)) hw1
  obtain ⟨la, x0, x1, x2, x3⟩ := id D1
  obtain ⟨lb, y0, y1, y2, y3⟩ := id D2
  obtain ⟨lc, u0, u1, u2⟩ := id A1
  obtain ⟨ld, v0, v1, v2⟩ := id A2
  go_wp2_with fail
  refine (CA.out _).mono ?_; rintro e w2 ⟨rfl, hw2⟩
  have b2 : Below w.heap.size w w2 := chain (by repeat' (first | (with_reducible exact Below.refl _ _) | (with_reducible assumption) | (with_reducible refine below_drewN ?_ _) | (with_reducible refine Below.alloc ?_ ?_ _) | (with_reducible refine Below.drew ?_) | (with_reducible refine Below.setCell ?_ ?_ _) | go_size)) hw2
  have s2 := b2.size
  clear la x0 x1 x2 x3 lb y0 y1 y2 y3 lc u0 u1 u2 ld v0 v1 v2
  obtain ⟨lb, y0, y1, y2, y3⟩ := D2.below hw2
  go_wp2_with fail
  refine (CB.out _).mono ?_; rintro e w3 ⟨rfl, hw3⟩
  have b3 : Below w.heap.size w w3 := chain (by repeat' (first | (with_reducible exact Below.refl _ _) | (with_reducible assumption) | (with_reducible refine below_drewN ?_ _) | (with_reducible refine Below.alloc ?_ ?_ _) | (with_reducible refine Below.drew ?_) | (with_reducible refine Below.setCell ?_ ?_ _) | go_size)) hw3
  have s3 := b3.size
  clear lb y0 y1 y2 y3
  obtain ⟨la, x0, x1, x2, x3⟩ := (D1.below hw2).below hw3
  obtain ⟨lb, y0, y1, y2, y3⟩ := (D2.below hw2).below hw3
  obtain ⟨lc, u0, u1, u2⟩ := (A1.below hw2).below hw3
  have R1 := HQ1.out
  cases z1 <;> cases z2
  all_goals
    try have g1 := g1 rfl
    try have g2 := g2 rfl
    try have g2 := g2 rfl
    go_wp2_with fail
    refine (TA.out _).mono ?_; rintro e w4 ⟨rfl, hw4⟩
    have b4 : Below w.heap.size w w4 := chain (by repeat' (first | (with_reducible exact Below.refl _ _) | (with_reducible assumption) | (with_reducible refine below_drewN ?_ _) | (with_reducible refine Below.alloc ?_ ?_ _) | (with_reducible refine Below.drew ?_) | (with_reducible refine Below.setCell ?_ ?_ _) | go_size)) hw4
    have s4 := b4.size
    clear la x0 x1 x2 x3 lb y0 y1 y2 y3 lc u0 u1 u2 R1
    obtain ⟨ld, v0, v1, v2⟩ := ((A2.below hw2).below hw3).below hw4
    go_wp2_with fail
    refine (TB.out _).mono ?_; rintro e w5 ⟨rfl, hw5⟩
    have b5 : Below w.heap.size w w5 := chain (by repeat' (first | (with_reducible exact Below.refl _ _) | (with_reducible assumption) | (with_reducible refine below_drewN ?_ _) | (with_reducible refine Below.alloc ?_ ?_ _) | (with_reducible refine Below.drew ?_) | (with_reducible refine Below.setCell ?_ ?_ _) | go_size)) hw5
    have s5 := b5.size
    clear ld v0 v1 v2
    obtain ⟨lc, u0, u1, u2⟩ := (((A1.below hw2).below hw3).below hw4).below hw5
    obtain ⟨ld, v0, v1, v2⟩ := (((A2.below hw2).below hw3).below hw4).below hw5
    have R2 := HQ2.out
    cases d1 <;> cases d2
    all_goals
      try have k1 := k1 rfl
      try have k2 := k2 rfl
      try have k2 := k2 rfl
      go_wp2_with fail
      go_ret
      exact ⟨rfl, by assumption⟩

set_option maxHeartbeats 3200000 in
theorem one_any (c x p : Int) (l : List UInt8) (c' x' p' : Int) (l' : List UInt8) (y e : Int) (m : List UInt8) (y' e' : Int) (m' : List UInt8) (w : World)
    (hl : l.length ≤ 140737488351232) (hl' : l'.length ≤ 140737488351232) (hm : m.length ≤ 140737488351232) (hm' : m'.length ≤ 140737488351232) :
    Calls Try.prog 6 #[headV c x p l, headV c' x' p' l', ansV y e m, ansV y' e' m'] w fun r w' => r = .returned (.bool true) ∧ Below w.heap.size w w' := by
  by_cases hg : (l.length : Int) + (l'.length : Int) ≤ 20000 ∧ (m.length : Int) + (m'.length : Int) ≤ 20000
  · refine one_walk c x p l c' x' p' l' y e m y' e' m' w (callS c x p l) (callS c' x' p' l') (tellS y e m) (tellS y' e' m') _ _ _ _ _ _ _ _ rfl rfl rfl rfl ?_ ?_ ?_ ?_
      (Lib.hid fun W => cWrite_any c x p l W (by omega)) (Lib.hid fun W => cWrite_any c' x' p' l' W (by omega)) (Lib.hid fun W => tell_any y e m W (by omega)) (Lib.hid fun W => tell_any y' e' m' W (by omega)) hg.1 hg.2
    · intro h
      rw [beq_iff_eq] at h
      rw [(callE_ok h).2.2.2.2.2, callB_len, bne_eq_false_iff_eq]
      omega
    · intro h h'
      rw [beq_iff_eq] at h h'
      exact callB_inj h h'
    · intro h
      rw [beq_iff_eq] at h
      rw [(tellE_ok h).2, tellB_len, bne_eq_false_iff_eq]
      omega
    · intro h h'
      rw [beq_iff_eq] at h h'
      exact tellB_inj h h'
  · have D1 := (((BoxD.new w c x p l 23).alloc (.cells #[.int .i64 c', .int .i64 x', .int .i64 p', sv l'] 23)).alloc (.cells #[.int .i64 y, .int .i64 e, sv m] 26)).alloc (.cells #[.int .i64 y', .int .i64 e', sv m'] 26)
    have D2 := ((BoxD.new (w.alloc (.cells #[.int .i64 c, .int .i64 x, .int .i64 p, sv l] 23)) c' x' p' l' 23).alloc (.cells #[.int .i64 y, .int .i64 e, sv m] 26)).alloc (.cells #[.int .i64 y', .int .i64 e', sv m'] 26)
    have A1 := (BoxA.new ((w.alloc (.cells #[.int .i64 c, .int .i64 x, .int .i64 p, sv l] 23)).alloc (.cells #[.int .i64 c', .int .i64 x', .int .i64 p', sv l'] 23)) y e m 26 _ rfl).below ((Below.refl _ _).alloc (Nat.le_refl _) (.cells #[.int .i64 y', .int .i64 e', sv m'] 26))
    have A2 := BoxA.new (((w.alloc (.cells #[.int .i64 c, .int .i64 x, .int .i64 p, sv l] 23)).alloc (.cells #[.int .i64 c', .int .i64 x', .int .i64 p', sv l'] 23)).alloc (.cells #[.int .i64 y, .int .i64 e, sv m] 26)) y' e' m' 26 _ rfl
    simp only [World.size_alloc] at D1 D2 A1 A2
    by_cases t1 : (20000 : Int) < (l.length : Int) + (l'.length : Int)
    all_goals
      try have t2 : (20000 : Int) < (m.length : Int) + (m'.length : Int) := by omega
      clear hg
      go_enter Try.func6, Try.ntmps6
      go_wp2_with fail
      refine (works_any _).mono ?_; rintro e w1 ⟨rfl, hw1⟩
      have b1 : Below w.heap.size w w1 := chain (by repeat' (first | (with_reducible exact Below.refl _ _) | (with_reducible assumption) | (with_reducible refine below_drewN ?_ _) | (with_reducible refine Below.alloc ?_ ?_ _) | (with_reducible refine Below.drew ?_) | (with_reducible refine Below.setCell ?_ ?_ _) | go_size)) hw1
      have s1 := b1.size
      have D1 := D1.step (by repeat' (first | (with_reducible exact Below.refl _ _) | (with_reducible assumption) | (with_reducible refine below_drewN ?_ _) | (with_reducible refine Below.alloc ?_ ?_ _) | (with_reducible refine Below.drew ?_) | (with_reducible refine Below.setCell ?_ ?_ _) | go_size)) hw1
      have D2 := D2.step (by repeat' (first | (with_reducible exact Below.refl _ _) | (with_reducible assumption) | (with_reducible refine below_drewN ?_ _) | (with_reducible refine Below.alloc ?_ ?_ _) | (with_reducible refine Below.drew ?_) | (with_reducible refine Below.setCell ?_ ?_ _) | go_size)) hw1
      have A1 := A1.step (by repeat' (first | (with_reducible exact Below.refl _ _) | (with_reducible assumption) | (with_reducible refine below_drewN ?_ _) | (with_reducible refine Below.alloc ?_ ?_ _) | (with_reducible refine Below.drew ?_) | (with_reducible refine Below.setCell ?_ ?_ _) | go_size)) hw1
      have A2 := A2.step (by repeat' (first | (with_reducible exact Below.refl _ _) | (with_reducible assumption) | (with_reducible refine below_drewN ?_ _) | (with_reducible refine Below.alloc ?_ ?_ _) | (with_reducible refine Below.drew ?_) | (with_reducible refine Below.setCell ?_ ?_ _) | go_size)) hw1
      obtain ⟨la, x0, x1, x2, x3⟩ := id D1
      obtain ⟨lb, y0, y1, y2, y3⟩ := id D2
      obtain ⟨lc, u0, u1, u2⟩ := id A1
      obtain ⟨ld, v0, v1, v2⟩ := id A2
      go_wp2_with fail
      refine (works_any _).mono ?_; rintro e w2 ⟨rfl, hw2⟩
      have b2 : Below w.heap.size w w2 := chain (by repeat' (first | (with_reducible exact Below.refl _ _) | (with_reducible assumption) | (with_reducible refine below_drewN ?_ _) | (with_reducible refine Below.alloc ?_ ?_ _) | (with_reducible refine Below.drew ?_) | (with_reducible refine Below.setCell ?_ ?_ _) | go_size)) hw2
      have s2 := b2.size
      go_wp2_with fail
      go_ret
      exact ⟨rfl, by assumption⟩

theorem one_law : Walks Try.prog 6 Try.f6 := by
  intro H enc W args ds p base hval hA hz
  rw [Try.params6] at hA hval hz
  obtain ⟨v0, v1, v2, v3, d0, d1, d2, d3, p0, p1, p2, p3, rfl, rfl, rfl, h0, h1, h2, h3⟩ := trodAll_four hA
  obtain ⟨a0, a1, a2, l, rfl, _, _, _, hl⟩ := open_headW (hval 0 _ v0 rfl rfl) h0
  obtain ⟨b0, b1, b2, l', rfl, _, _, _, hl'⟩ := open_headW (hval 1 _ v1 rfl rfl) h1
  obtain ⟨c0, c1, m, rfl, _, _, hm⟩ := open_ansW (hval 2 _ v2 rfl rfl) h2
  obtain ⟨e0, e1, m', rfl, _, _, hm'⟩ := open_ansW (hval 3 _ v3 rfl rfl) h3
  exact one_any a0 a1 a2 l b0 b1 b2 l' c0 c1 m e0 e1 m' W (sized_of hz (j := 0) rfl rfl hl) (sized_of hz (j := 1) rfl rfl hl') (sized_of hz (j := 2) rfl rfl hm) (sized_of hz (j := 3) rfl rfl hm')

theorem CallOne_holds : Rows.CallOneSaid :=
  OpenClaim.holds_of_wide 6 Try.f6 rfl rfl rfl rfl rfl rfl rfl ⟨rfl, rfl, rfl, rfl, rfl⟩ rfl rfl rfl rfl rfl (by kernel_rfl) Try.func6 (by kernel_rfl)
    (of_decide_eq_true (by kernel_rfl)) (by unfold Func.isWrapper; first | (rw [if_pos (by decide +kernel)]; kernel_rfl) | (rw [if_neg (by decide +kernel)]; exact ⟨rfl, rfl⟩))
    (fun os started H enc _ => law_lifted (C := Try.checked) (s := Rows.callOneSpec) own started (by kernel_rfl) Try.func6 laidOut rfl rfl Try.underlying4
      (by have h : ∀ u ∈ Try.f6.params.toList, (Try.prog.readableRec u && decide (u < Try.prog.types.size)) = true := List.all_eq_true.1 (by kernel_rfl)
          intro u hu; have := h u hu; rw [Bool.and_eq_true, decide_eq_true_eq] at this; exact this)
      (by intro H l hl; rw [show Try.f6.params.size = 4 from by rw [Try.params6]; rfl] at hl; match l, hl with | [d0, d1, d2, d3], _ => rfl)
      H enc (ChangeSpec.witness6 (enc := enc) (C := Try.checked) false ⟨#[], #[.agg #[.int .i64 0, .int .i64 0, .int .i64 0, .string ⟨#[]⟩], .agg #[.int .i64 0, .int .i64 0, .int .i64 0, .string ⟨#[]⟩], .agg #[.int .i64 0, .int .i64 0, .string ⟨#[]⟩], .agg #[.int .i64 0, .int .i64 0, .string ⟨#[]⟩]], []⟩ 8 (by kernel_rfl) (by kernel_rfl) (by kernel_rfl) (by kernel_rfl)) one_law)
#print axioms CallOne_holds
end Go.Proofs.Ytaobfidjnnhniaa
