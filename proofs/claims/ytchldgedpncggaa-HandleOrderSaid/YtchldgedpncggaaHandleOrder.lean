/- HandleOrder: of two handles one stands ahead just if they are not the same, and it is handed on: for every three handles the law returns true. Conditions: none. -/
import Derived.Test.YtchldgedpncggaaHandleOpen
namespace Go.Proofs.Ytchldgedpncggaa
set_option linter.unusedVariables false
set_option linter.unusedSimpArgs false
open Go.ChangeShapes Go.WideShapes Go.ChangeAt Go.RowKit Pl

set_option maxHeartbeats 1600000 in
theorem order_core (a b c x y z p q r : Int) (w : World) (X Y Z V E : Bool)
    (CX : ∀ w, Calls Try.prog 16 #[hv a b c, hv x y z] w fun e w' => e = .returned (.bool X) ∧ Below w.heap.size w w')
    (CY : ∀ w, Calls Try.prog 16 #[hv x y z, hv a b c] w fun e w' => e = .returned (.bool Y) ∧ Below w.heap.size w w')
    (CZ : ∀ w, Calls Try.prog 16 #[hv x y z, hv p q r] w fun e w' => e = .returned (.bool Z) ∧ Below w.heap.size w w')
    (CV : ∀ w, Calls Try.prog 16 #[hv a b c, hv p q r] w fun e w' => e = .returned (.bool V) ∧ Below w.heap.size w w')
    (hE : eqH a b c x y z = E) (f1 : (X || Y) = !E) (f2 : (X && Y) = false) (f3 : X = true → Z = true → V = true) :
    Calls Try.prog 7 #[hv a b c, hv x y z, hv p q r] w fun e w' => e = .returned (.bool true) ∧ Below w.heap.size w w' := by
  have HX := Lib.hid CX
  have HY := Lib.hid CY
  have HZ := Lib.hid CZ
  have HV := Lib.hid CV
  clear CX CY CZ CV
  have hne := fun w : World => neq_hv a b c x y z w
  rw [hE] at hne
  clear hE
  have b0 := ((BoxH.new w a b c 23).alloc (.cells #[.int .i64 x, .int .i64 y, .int .i64 z] 23)).alloc (.cells #[.int .i64 p, .int .i64 q, .int .i64 r] 23)
  have b1 := (BoxH.new (w.alloc (.cells #[.int .i64 a, .int .i64 b, .int .i64 c] 23)) x y z 23).alloc (.cells #[.int .i64 p, .int .i64 q, .int .i64 r] 23)
  have b2 := BoxH.new ((w.alloc (.cells #[.int .i64 a, .int .i64 b, .int .i64 c] 23)).alloc (.cells #[.int .i64 x, .int .i64 y, .int .i64 z] 23)) p q r 23
  simp only [World.size_alloc] at b1 b2
  cases X <;> cases Y <;> cases E <;> simp at f1 f2
  all_goals
    go_enter Try.func7, Try.ntmps7
    go_wp2_with fail
    refine (awake_any _).mono ?_; rintro e w1 ⟨rfl, hw1⟩
    have hs1 := hw1.size
    simp only [World.size_alloc] at hs1
    replace b0 := b0.below hw1
    replace b1 := b1.below hw1
    replace b2 := b2.below hw1
    obtain ⟨p0, p1, p2⟩ := b0.ext
    obtain ⟨q0, q1, q2⟩ := b1.ext
    obtain ⟨r0, r1, r2⟩ := b2.ext
    go_wp2_with fail
    refine wp_region_ext (by kernel_rfl) (by kernel_rfl) ?_
    repeat (go_big_quiet_step ((first | (go_at_call 16; with_reducible exact Ext.of_call (HX.out _)) | (go_at_call 16; with_reducible exact Ext.of_call (HY.out _)))))
    refine wpQuiet_nil ?_
    intro n1
    clear p0 p1 p2 q0 q1 q2 r0 r1 r2
    have hn1 := n1.below.size
    replace b0 := b0.below n1.below
    replace b1 := b1.below n1.below
    replace b2 := b2.below n1.below
    have B0 := Lib.hid b0
    have B1 := Lib.hid b1
    have B2 := Lib.hid b2
    obtain ⟨lb0, p0, p1, p2⟩ := b0
    obtain ⟨lb1, q0, q1, q2⟩ := b1
    obtain ⟨lb2, r0, r1, r2⟩ := b2
    have hall : Below w.heap.size w n1.W := Below.trans (by go_grown) ((hw1.mono (by simp; omega)).trans (n1.below.mono (by omega)))
  · go_wp2_with fail
    go_ret
    exact ⟨rfl, hall⟩
  · go_wp2_with fail
    go_ret
    exact ⟨rfl, hall⟩
  · cases Z
    · go_wp2_with fail
      refine (HZ.out _).mono ?_; rintro e w3 ⟨rfl, hw3⟩
      obtain ⟨_, s0, s1, s2⟩ := B0.out.below hw3
      obtain ⟨_, t0, t1, t2⟩ := B2.out.below hw3
      go_wp2_with fail
      go_ret
      exact ⟨rfl, hall.trans (hw3.mono (by omega))⟩
    · obtain rfl : V = true := by simpa using f3
      go_wp2_with fail
      refine (HZ.out _).mono ?_; rintro e w3 ⟨rfl, hw3⟩
      obtain ⟨_, s0, s1, s2⟩ := B0.out.below hw3
      obtain ⟨_, t0, t1, t2⟩ := B2.out.below hw3
      have hs3 := hw3.size
      go_wp2_with fail
      refine (HV.out _).mono ?_; rintro e w4 ⟨rfl, hw4⟩
      go_wp2_with fail
      go_ret
      exact ⟨rfl, hall.trans ((hw3.mono (by omega)).trans (hw4.mono (by omega)))⟩

theorem order_any (a b c x y z p q r : Int) (w : World) : Calls Try.prog 7 #[hv a b c, hv x y z, hv p q r] w fun e w' => e = .returned (.bool true) ∧ Below w.heap.size w w' := by
  refine order_core a b c x y z p q r w _ _ _ _ _ (fun w => less_any _ _ _ _ _ _ w) (fun w => less_any _ _ _ _ _ _ w) (fun w => less_any _ _ _ _ _ _ w) (fun w => less_any _ _ _ _ _ _ w) rfl ?_ ?_ ?_
  · exact less_or a b c x y z
  · exact less_and a b c x y z
  · exact fun h k => less_trans h k

theorem order_walk : Walks Try.prog 7 Try.f7 := by
  intro H enc W args ds p base hval hA _
  rw [Try.params7] at hA hval
  obtain ⟨v0, v1, v2, d0, d1, d2, p0, p1, p2, rfl, rfl, rfl, h0, h1, h2⟩ := trodAll_three hA
  obtain ⟨a0, a1, a2, rfl, _⟩ := open_hv (hval 0 _ v0 rfl rfl) h0
  obtain ⟨b0, b1, b2, rfl, _⟩ := open_hv (hval 1 _ v1 rfl rfl) h1
  obtain ⟨c0, c1, c2, rfl, _⟩ := open_hv (hval 2 _ v2 rfl rfl) h2
  exact order_any a0 a1 a2 b0 b1 b2 c0 c1 c2 W

theorem HandleOrder_holds : Rows.HandleOrderSaid :=
  OpenClaim.holds_of_wide 7 Try.f7 rfl rfl rfl rfl rfl rfl rfl ⟨rfl, rfl, rfl, rfl, rfl⟩ rfl rfl rfl rfl rfl (by kernel_rfl) Try.func7 (by kernel_rfl)
    (of_decide_eq_true (by kernel_rfl)) (by unfold Func.isWrapper; first | (rw [if_pos (by decide +kernel)]; kernel_rfl) | (rw [if_neg (by decide +kernel)]; exact ⟨rfl, rfl⟩))
    (fun os started H enc _ => law_lifted (C := Try.checked) (s := Rows.handleOrderSpec) own started (by kernel_rfl) Try.func7 laidOut rfl rfl Try.underlying4
      (by have h : ∀ u ∈ Try.f7.params.toList, (Try.prog.readableRec u && decide (u < Try.prog.types.size)) = true := List.all_eq_true.1 (by kernel_rfl)
          intro u hu; have := h u hu; rw [Bool.and_eq_true, decide_eq_true_eq] at this; exact this)
      (by intro H l hl; rw [show Try.f7.params.size = 3 from by rw [Try.params7]; rfl] at hl; match l, hl with | [d0, d1, d2], _ => rfl)
      H enc (ChangeSpec.witness6 (enc := enc) (C := Try.checked) false ⟨#[], #[.agg #[.int .i64 0, .int .i64 0, .int .i64 0], .agg #[.int .i64 0, .int .i64 0, .int .i64 0], .agg #[.int .i64 0, .int .i64 0, .int .i64 0]], []⟩ 8 (by kernel_rfl) (by kernel_rfl) (by kernel_rfl) (by kernel_rfl)) order_walk)
#print axioms HandleOrder_holds
end Go.Proofs.Ytchldgedpncggaa
