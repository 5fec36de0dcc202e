/- CallReads: the head, and the answer, of any bytes are the document's, or the refusal: for every input the law returns true. Conditions: none. -/
import Derived.Test.YtaobfidjnnhniaaCallRefHear
import Derived.Test.YtaobfidjnnhniaaOpenBytes
namespace Go.Proofs.Ytaobfidjnnhniaa
set_option linter.unusedVariables false
set_option linter.unusedSimpArgs false
open Go.ChangeShapes Go.WideShapes Go.ChangeAt Go.RowKit Pl
attribute [local go_sem] ba_toList ba_size

set_option maxHeartbeats 3200000 in
theorem reads_any (s : List UInt8) (w : World) (hl : s.length ≤ maxLen) :
    Calls Try.prog 4 #[sv s] w fun r w' => r = .returned (.bool true) ∧ Below w.heap.size w w' := by
  unfold maxLen at hl
  by_cases h1 : (10000 : Int) < (s.length : Int)
  · go_enter Try.func4, Try.ntmps4
    go_wp2_with fail
    go_ret
    exact ⟨rfl, by repeat' (first | (with_reducible exact Below.refl _ _) | (with_reducible assumption) | (with_reducible refine below_drewN ?_ _) | (with_reducible refine Below.alloc ?_ ?_ _) | (with_reducible refine Below.drew ?_) | (with_reducible refine Below.setCell ?_ ?_ _) | go_size)⟩
  have hl1 : s.length ≤ 10000 := by omega
  go_enter Try.func4, Try.ntmps4
  go_wp2_with fail
  refine (read_any s _ (by omega)).mono ?_; rintro e w1 ⟨rfl, hw1⟩
  have b1 : Below w.heap.size w w1 := chain (by repeat' (first | (with_reducible exact Below.refl _ _) | (with_reducible assumption) | (with_reducible refine below_drewN ?_ _) | (with_reducible refine Below.alloc ?_ ?_ _) | (with_reducible refine Below.drew ?_) | (with_reducible refine Below.setCell ?_ ?_ _) | go_size)) hw1
  have s1 := b1.size
  have D1 := BoxD.new w1 (readC s) (readX s) (readP s) (readB s) 29
  have GD1 := Lib.hid D1
  clear D1
  go_wp2_with fail
  refine (refRead_any s _ hl1).mono ?_; rintro e w2 ⟨rfl, hw2⟩
  have b2 : Below w.heap.size w w2 := chain (by repeat' (first | (with_reducible exact Below.refl _ _) | (with_reducible assumption) | (with_reducible refine below_drewN ?_ _) | (with_reducible refine Below.alloc ?_ ?_ _) | (with_reducible refine Below.drew ?_) | (with_reducible refine Below.setCell ?_ ?_ _) | go_size)) hw2
  have s2 := b2.size
  have D2 := BoxD.new w2 (readC s) (readX s) (readP s) (readB s) 23
  have GD2 := Lib.hid D2
  clear D2
  go_wp2_with fail
  refine (hear_any s _ hl1).mono ?_; rintro e w3 ⟨rfl, hw3⟩
  have b3 : Below w.heap.size w w3 := chain (by repeat' (first | (with_reducible exact Below.refl _ _) | (with_reducible assumption) | (with_reducible refine below_drewN ?_ _) | (with_reducible refine Below.alloc ?_ ?_ _) | (with_reducible refine Below.drew ?_) | (with_reducible refine Below.setCell ?_ ?_ _) | go_size)) hw3
  have s3 := b3.size
  have A1 := BoxA.new w3 (hearX s) (hearK s) (hearB s) 32 w3.heap.size rfl
  have GA1 := Lib.hid A1
  clear A1
  go_wp2_with fail
  refine (refHear_any s _ hl1).mono ?_; rintro e w4 ⟨rfl, hw4⟩
  have b4 : Below w.heap.size w w4 := chain (by repeat' (first | (with_reducible exact Below.refl _ _) | (with_reducible assumption) | (with_reducible refine below_drewN ?_ _) | (with_reducible refine Below.alloc ?_ ?_ _) | (with_reducible refine Below.drew ?_) | (with_reducible refine Below.setCell ?_ ?_ _) | go_size)) hw4
  have s4 := b4.size
  have e1 := (GD1.out.below hw2).alloc (.cells #[.int .i64 (readC s), .int .i64 (readX s), .int .i64 (readP s), sv (readB s)] 23)
  have e2 := GD2.out.below hw3
  have E1 := (e1.below hw3).alloc (.cells #[.int .i64 (hearX s), .int .i64 (hearK s), sv (hearB s)] 32)
  have E2 := e2.alloc (.cells #[.int .i64 (hearX s), .int .i64 (hearK s), sv (hearB s)] 32)
  have F1 := E1.below hw4
  have F2 := E2.below hw4
  have F3 := GA1.out.below hw4
  clear e1 e2 E1 E2
  obtain ⟨l1, a0, a1, a2, a3⟩ := F1
  obtain ⟨l2, c0, c1, c2, c3⟩ := F2
  obtain ⟨l3, d0, d1, d2⟩ := F3
  go_wp2_with fail

  go_ret
  exact ⟨rfl, by repeat' (first | (with_reducible exact Below.refl _ _) | (with_reducible assumption) | (with_reducible refine below_drewN ?_ _) | (with_reducible refine Below.alloc ?_ ?_ _) | (with_reducible refine Below.drew ?_) | (with_reducible refine Below.setCell ?_ ?_ _) | go_size)⟩

theorem reads_walk : Walks Try.prog 4 Try.f4 := by
  intro H enc W args ds p base hval hA _
  rw [Try.params4] at hA hval
  obtain ⟨v0, d0, rfl, rfl, h0⟩ := trodAll_one hA
  obtain ⟨l, rfl, hl⟩ := open_text (hval 0 _ v0 rfl rfl) h0
  exact reads_any l W hl

theorem CallReads_holds : Rows.CallReadsSaid :=
  OpenClaim.holds_of_wide 4 Try.f4 rfl rfl rfl rfl rfl rfl rfl ⟨rfl, rfl, rfl, rfl, rfl⟩ rfl rfl rfl rfl rfl (by kernel_rfl) Try.func4 (by kernel_rfl)
    (of_decide_eq_true (by kernel_rfl)) (by unfold Func.isWrapper; first | (rw [if_pos (by decide +kernel)]; kernel_rfl) | (rw [if_neg (by decide +kernel)]; exact ⟨rfl, rfl⟩))
    (fun os started H enc _ => law_lifted (C := Try.checked) (s := Rows.callReadsSpec) own started (by kernel_rfl) Try.func4 laidOut rfl rfl Try.underlying4
      (by have h : ∀ u ∈ Try.f4.params.toList, (Try.prog.readableRec u && decide (u < Try.prog.types.size)) = true := List.all_eq_true.1 (by kernel_rfl)
          intro u hu; have := h u hu; rw [Bool.and_eq_true, decide_eq_true_eq] at this; exact this)
      (by intro H l hl; rw [show Try.f4.params.size = 1 from by rw [Try.params4]; rfl] at hl; match l, hl with | [d0], _ => rfl)
      H enc (ChangeSpec.witness6 (enc := enc) (C := Try.checked) false ⟨#[], #[.string ⟨#[]⟩], []⟩ 8 (by kernel_rfl) (by kernel_rfl) (by kernel_rfl) (by kernel_rfl)) reads_walk)
#print axioms CallReads_holds
end Go.Proofs.Ytaobfidjnnhniaa
