/- HandleBytes: whether any handle may be, its bytes, the handle of any bytes, and which of two stands ahead, are the document's: for every two handles and every text the law returns true. Conditions: none. -/
import Derived.Test.YtchldgedpncggaaHandleOpen
namespace Go.Proofs.Ytchldgedpncggaa
set_option linter.unusedVariables false
set_option linter.unusedSimpArgs false
open Go.ChangeShapes Go.WideShapes Go.ChangeAt Go.RowKit Pl
attribute [local go_sem] ba_toList ba_size

set_option maxHeartbeats 3200000 in
theorem bytes_any (a b c x y z : Int) (l : List UInt8) (w : World) : Calls Try.prog 3 #[hv a b c, hv x y z, sv l] w fun e w' => e = .returned (.bool true) ∧ Below w.heap.size w w' := by
  have x0 := (BoxH.new w a b c 23).alloc (.cells #[.int .i64 x, .int .i64 y, .int .i64 z] 23)
  have y0 := BoxH.new (w.alloc (.cells #[.int .i64 a, .int .i64 b, .int .i64 c] 23)) x y z 23
  simp only [World.size_alloc] at y0
  by_cases hl : 1000 < l.length
  · have hl' : (1000 : Int) < (l.length : Int) := by omega
    go_enter Try.func3, Try.ntmps3
    go_wp2_with fail
    refine (awake_any _).mono ?_; rintro e w1 ⟨rfl, hw1⟩
    have b1 : Below w.heap.size w w1 := chain (by repeat' (first | (with_reducible exact Below.refl _ _) | (with_reducible assumption) | (with_reducible refine below_drewN ?_ _) | (with_reducible refine Below.alloc ?_ ?_ _) | (with_reducible refine Below.drew ?_) | (with_reducible refine Below.setCell ?_ ?_ _) | go_size)) hw1
    have s1 := b1.size
    go_wp2_with fail
    go_ret
    exact ⟨rfl, b1⟩
  · have hl' : ¬ (1000 : Int) < (l.length : Int) := by omega
    have E1 := fun W : World => encode_any a b c W
    have E2 := fun W : World => encodeR_any a b c W
    have D1 := fun W : World => decode_any l W
    have D2 := fun W : World => decodeR_any l W
    have M1 := fun W : World => may_any a b c W
    have M2 := fun W : World => mayR_any a b c W
    have L1 := fun W : World => less_any a b c x y z W
    have L2 := fun W : World => lessR_any a b c x y z W
    generalize encB a b c = T at E1 E2
    generalize encE a b c = e0 at E1 E2
    generalize decA l 4 = d4 at D1 D2
    generalize decA l 8 = d8 at D1 D2
    generalize decA l 12 = d12 at D1 D2
    generalize decE l = e1 at D1 D2
    generalize mayH a b c = m at M1 M2
    generalize lessH a b c x y z = X at L1 L2
    have hq : ∀ W : World, (binOp BinOp.eql 23 (.agg #[.int .i64 d4, .int .i64 d8, .int .i64 d12]) (.agg #[.int .i64 d4, .int .i64 d8, .int .i64 d12])).run Try.prog W = .ok (.bool true) W := fun W => by
      rw [eql_hv]; simp [eqH]
    have HE1 := Lib.hid E1
    have HE2 := Lib.hid E2
    have HD1 := Lib.hid D1
    have HD2 := Lib.hid D2
    have HM1 := Lib.hid M1
    have HM2 := Lib.hid M2
    have HL1 := Lib.hid L1
    have HL2 := Lib.hid L2
    clear E1 E2 D1 D2 M1 M2 L1 L2
    go_enter Try.func3, Try.ntmps3
    go_wp2_with fail
    obtain ⟨lb, q0, q1, q2⟩ := x0
    have x0 : BoxH ((w.alloc (.cells #[.int .i64 a, .int .i64 b, .int .i64 c] 23)).alloc (.cells #[.int .i64 x, .int .i64 y, .int .i64 z] 23)) w.heap.size a b c := ⟨lb, q0, q1, q2⟩
    go_wp2_with fail
    refine (HE1.out _).mono ?_; rintro e w1 ⟨rfl, hw1⟩
    have b1 : Below w.heap.size w w1 := chain (by repeat' (first | (with_reducible exact Below.refl _ _) | (with_reducible assumption) | (with_reducible refine below_drewN ?_ _) | (with_reducible refine Below.alloc ?_ ?_ _) | (with_reducible refine Below.drew ?_) | (with_reducible refine Below.setCell ?_ ?_ _) | go_size)) hw1
    have s1 := b1.size
    clear lb q0 q1 q2
    obtain ⟨lb, q0, q1, q2⟩ := x0.below hw1
    go_wp2_with fail
    refine (HE2.out _).mono ?_; rintro e w2 ⟨rfl, hw2⟩
    have b2 : Below w.heap.size w w2 := chain (by repeat' (first | (with_reducible exact Below.refl _ _) | (with_reducible assumption) | (with_reducible refine below_drewN ?_ _) | (with_reducible refine Below.alloc ?_ ?_ _) | (with_reducible refine Below.drew ?_) | (with_reducible refine Below.setCell ?_ ?_ _) | go_size)) hw2
    have s2 := b2.size
    clear lb q0 q1 q2
    go_wp2_with fail
    refine (HD1.out _).mono ?_; rintro e w3 ⟨rfl, hw3⟩
    have b3 : Below w.heap.size w w3 := chain (by repeat' (first | (with_reducible exact Below.refl _ _) | (with_reducible assumption) | (with_reducible refine below_drewN ?_ _) | (with_reducible refine Below.alloc ?_ ?_ _) | (with_reducible refine Below.drew ?_) | (with_reducible refine Below.setCell ?_ ?_ _) | go_size)) hw3
    have s3 := b3.size
    have z3 := BoxH.new w3 d4 d8 d12 23
    go_wp2_with fail
    refine (HD2.out _).mono ?_; rintro e w4 ⟨rfl, hw4⟩
    have b4 : Below w.heap.size w w4 := chain (by repeat' (first | (with_reducible exact Below.refl _ _) | (with_reducible assumption) | (with_reducible refine below_drewN ?_ _) | (with_reducible refine Below.alloc ?_ ?_ _) | (with_reducible refine Below.drew ?_) | (with_reducible refine Below.setCell ?_ ?_ _) | go_size)) hw4
    have s4 := b4.size
    have z4 := (z3.below hw4).alloc (.cells #[.int .i64 d4, .int .i64 d8, .int .i64 d12] 23)
    have u4 := BoxH.new w4 d4 d8 d12 23
    have x4 := (((((x0.below hw1).below hw2).below hw3).alloc (.cells #[.int .i64 d4, .int .i64 d8, .int .i64 d12] 23)).below hw4).alloc (.cells #[.int .i64 d4, .int .i64 d8, .int .i64 d12] 23)
    have y4 := (((((y0.below hw1).below hw2).below hw3).alloc (.cells #[.int .i64 d4, .int .i64 d8, .int .i64 d12] 23)).below hw4).alloc (.cells #[.int .i64 d4, .int .i64 d8, .int .i64 d12] 23)
    obtain ⟨p0, p1, p2⟩ := x4.ext
    obtain ⟨q0, q1, q2⟩ := y4.ext
    obtain ⟨r0, r1, r2⟩ := z4.ext
    obtain ⟨t0, t1, t2⟩ := u4.ext
    go_wp2_with fail
    refine wp_region_ext (by kernel_rfl) (by kernel_rfl) ?_
    repeat (go_big_quiet_step ((first | (go_at_call 14; exact Ext.of_call (HM1.out _)) | (go_at_call 15; exact Ext.of_call (HM2.out _)) | (go_at_call 16; exact Ext.of_call (HL1.out _)) | (go_at_call 17; exact Ext.of_call (HL2.out _)) | (go_at_call 9; exact Ext.of_call (awake_any _)))))
    refine wpQuiet_nil ?_
    intro n1
    go_wp2_with fail
    go_ret
    exact ⟨rfl, chain (X := w4.alloc (.cells #[.int .i64 d4, .int .i64 d8, .int .i64 d12] 23)) (by repeat' (first | (with_reducible exact Below.refl _ _) | (with_reducible assumption) | (with_reducible refine below_drewN ?_ _) | (with_reducible refine Below.alloc ?_ ?_ _) | (with_reducible refine Below.drew ?_) | (with_reducible refine Below.setCell ?_ ?_ _) | go_size)) n1.below⟩

theorem bytes_walk : Walks Try.prog 3 Try.f3 := by
  intro H enc W args ds p base hval hA _
  rw [Try.params3] at hA hval
  obtain ⟨v0, v1, v2, d0, d1, d2, p0, p1, p2, rfl, rfl, rfl, h0, h1, h2⟩ := trodAll_three hA
  obtain ⟨a0, a1, a2, rfl, _⟩ := open_hv (hval 0 _ v0 rfl rfl) h0
  obtain ⟨b0, b1, b2, rfl, _⟩ := open_hv (hval 1 _ v1 rfl rfl) h1
  obtain ⟨l, rfl, _⟩ := open_sv (hval 2 _ v2 rfl rfl) h2
  exact bytes_any a0 a1 a2 b0 b1 b2 l W

theorem HandleBytes_holds : Rows.HandleBytesSaid :=
  OpenClaim.holds_of_wide 3 Try.f3 rfl rfl rfl rfl rfl rfl rfl ⟨rfl, rfl, rfl, rfl, rfl⟩ rfl rfl rfl rfl rfl (by kernel_rfl) Try.func3 (by kernel_rfl)
    (of_decide_eq_true (by kernel_rfl)) (by unfold Func.isWrapper; first | (rw [if_pos (by decide +kernel)]; kernel_rfl) | (rw [if_neg (by decide +kernel)]; exact ⟨rfl, rfl⟩))
    (fun os started H enc _ => law_lifted (C := Try.checked) (s := Rows.handleBytesSpec) own started (by kernel_rfl) Try.func3 laidOut rfl rfl Try.underlying4
      (by have h : ∀ u ∈ Try.f3.params.toList, (Try.prog.readableRec u && decide (u < Try.prog.types.size)) = true := List.all_eq_true.1 (by kernel_rfl)
          intro u hu; have := h u hu; rw [Bool.and_eq_true, decide_eq_true_eq] at this; exact this)
      (by intro H l hl; rw [show Try.f3.params.size = 3 from by rw [Try.params3]; rfl] at hl; match l, hl with | [d0, d1, d2], _ => rfl)
      H enc (ChangeSpec.witness6 (enc := enc) (C := Try.checked) false ⟨#[], #[.agg #[.int .i64 0, .int .i64 0, .int .i64 0], .agg #[.int .i64 0, .int .i64 0, .int .i64 0], .string ⟨#[]⟩], []⟩ 8 (by kernel_rfl) (by kernel_rfl) (by kernel_rfl) (by kernel_rfl)) bytes_walk)
#print axioms HandleBytes_holds
end Go.Proofs.Ytchldgedpncggaa
