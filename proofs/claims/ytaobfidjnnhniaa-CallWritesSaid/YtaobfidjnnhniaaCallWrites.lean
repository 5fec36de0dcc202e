/- CallWrites: the bytes of any head and any answer are the document's, or the refusal: for every input the law returns true. Conditions: none. -/
import Derived.Test.YtaobfidjnnhniaaCallOpen
namespace Go.Proofs.Ytaobfidjnnhniaa
set_option linter.unusedVariables false
set_option linter.unusedSimpArgs false
open Go.ChangeShapes Go.WideShapes Go.ChangeAt Go.RowKit Pl
attribute [local go_sem] ba_toList ba_size

set_option maxHeartbeats 3200000 in
theorem writes_any (c x p y e : Int) (l m : List UInt8) (w : World) (hl : l.length ≤ maxLen) (hm : m.length ≤ maxLen) :
    Calls Try.prog 3 #[headV c x p l, ansV y e m] w fun r w' => r = .returned (.bool true) ∧ Below w.heap.size w w' := by
  unfold maxLen at hl hm
  by_cases h1 : (10000 : Int) < (l.length : Int)
  · go_enter Try.func3, Try.ntmps3
    go_wp2_with fail
    go_ret
    exact ⟨rfl, by repeat' (first | (with_reducible exact Below.refl _ _) | (with_reducible assumption) | (with_reducible refine below_drewN ?_ _) | (with_reducible refine Below.alloc ?_ ?_ _) | (with_reducible refine Below.drew ?_) | (with_reducible refine Below.setCell ?_ ?_ _) | go_size)⟩
  by_cases h2 : (10000 : Int) < (m.length : Int)
  · go_enter Try.func3, Try.ntmps3
    go_wp2_with fail
    go_ret
    exact ⟨rfl, by repeat' (first | (with_reducible exact Below.refl _ _) | (with_reducible assumption) | (with_reducible refine below_drewN ?_ _) | (with_reducible refine Below.alloc ?_ ?_ _) | (with_reducible refine Below.drew ?_) | (with_reducible refine Below.setCell ?_ ?_ _) | go_size)⟩
  have hl1 : l.length ≤ 10000 := by omega
  have hm1 : m.length ≤ 10000 := by omega
  have D0 := (BoxD.new w c x p l 23).alloc (.cells #[.int .i64 y, .int .i64 e, sv m] 26)
  have A0 := BoxA.new (w.alloc (.cells #[.int .i64 c, .int .i64 x, .int .i64 p, sv l] 23)) y e m 26 (w.heap.size + 1) (by simp)
  have GD := Lib.hid D0
  have GA := Lib.hid A0
  clear D0 A0
  go_enter Try.func3, Try.ntmps3
  go_wp2_with fail
  refine (cWrite_any c x p l _ (by omega)).mono ?_; rintro e w1 ⟨rfl, hw1⟩
  have b1 : Below w.heap.size w w1 := chain (by repeat' (first | (with_reducible exact Below.refl _ _) | (with_reducible assumption) | (with_reducible refine below_drewN ?_ _) | (with_reducible refine Below.alloc ?_ ?_ _) | (with_reducible refine Below.drew ?_) | (with_reducible refine Below.setCell ?_ ?_ _) | go_size)) hw1
  have s1 := b1.size
  have hw1' := hw1
  obtain ⟨_, d0, d1, d2, d3⟩ := GD.out.below hw1
  go_wp2_with fail
  refine (refWrite_any c x p l _ hl1).mono ?_; rintro e w2 ⟨rfl, hw2⟩
  have b2 : Below w.heap.size w w2 := chain (by repeat' (first | (with_reducible exact Below.refl _ _) | (with_reducible assumption) | (with_reducible refine below_drewN ?_ _) | (with_reducible refine Below.alloc ?_ ?_ _) | (with_reducible refine Below.drew ?_) | (with_reducible refine Below.setCell ?_ ?_ _) | go_size)) hw2
  have s2 := b2.size
  clear d0 d1 d2 d3
  have c2 := chain hw1 hw2
  obtain ⟨_, a0, a1, a2⟩ := GA.out.below c2
  go_wp2_with fail
  refine (tell_any y e m _ hm1).mono ?_; rintro e w3 ⟨rfl, hw3⟩
  have b3 : Below w.heap.size w w3 := chain (by repeat' (first | (with_reducible exact Below.refl _ _) | (with_reducible assumption) | (with_reducible refine below_drewN ?_ _) | (with_reducible refine Below.alloc ?_ ?_ _) | (with_reducible refine Below.drew ?_) | (with_reducible refine Below.setCell ?_ ?_ _) | go_size)) hw3
  have s3 := b3.size
  clear a0 a1 a2
  have c3 := chain c2 hw3
  obtain ⟨_, a0, a1, a2⟩ := GA.out.below c3
  go_wp2_with fail
  refine (refTell_any y e m _ hm1).mono ?_; rintro e w4 ⟨rfl, hw4⟩
  have b4 : Below w.heap.size w w4 := chain (by repeat' (first | (with_reducible exact Below.refl _ _) | (with_reducible assumption) | (with_reducible refine below_drewN ?_ _) | (with_reducible refine Below.alloc ?_ ?_ _) | (with_reducible refine Below.drew ?_) | (with_reducible refine Below.setCell ?_ ?_ _) | go_size)) hw4
  have s4 := b4.size
  clear a0 a1 a2
  go_wp2_with fail
  go_ret
  exact ⟨rfl, b4⟩

theorem writes_walk : Walks Try.prog 3 Try.f3 := by
  intro H enc W args ds p base hval hA _
  rw [Try.params3] at hA hval
  obtain ⟨v0, v1, d0, d1, p0, p1, rfl, rfl, rfl, h0, h1⟩ := trodAll_two hA
  obtain ⟨a0, a1, a2, l, rfl, _, _, _, hl⟩ := open_head (hval 0 _ v0 rfl rfl) h0
  obtain ⟨b0, b1, m, rfl, _, _, hm⟩ := open_ans (hval 1 _ v1 rfl rfl) h1
  exact writes_any a0 a1 a2 b0 b1 l m W hl hm

theorem CallWrites_holds : Rows.CallWritesSaid :=
  OpenClaim.holds_of_wide 3 Try.f3 rfl rfl rfl rfl rfl rfl rfl ⟨rfl, rfl, rfl, rfl, rfl⟩ rfl rfl rfl rfl rfl (by kernel_rfl) Try.func3 (by kernel_rfl)
    (of_decide_eq_true (by kernel_rfl)) (by unfold Func.isWrapper; first | (rw [if_pos (by decide +kernel)]; kernel_rfl) | (rw [if_neg (by decide +kernel)]; exact ⟨rfl, rfl⟩))
    (fun os started H enc _ => law_lifted (C := Try.checked) (s := Rows.callWritesSpec) own started (by kernel_rfl) Try.func3 laidOut rfl rfl Try.underlying4
      (by have h : ∀ u ∈ Try.f3.params.toList, (Try.prog.readableRec u && decide (u < Try.prog.types.size)) = true := List.all_eq_true.1 (by kernel_rfl)
          intro u hu; have := h u hu; rw [Bool.and_eq_true, decide_eq_true_eq] at this; exact this)
      (by intro H l hl; rw [show Try.f3.params.size = 2 from by rw [Try.params3]; rfl] at hl; match l, hl with | [d0, d1], _ => rfl)
      H enc (ChangeSpec.witness6 (enc := enc) (C := Try.checked) false ⟨#[], #[.agg #[.int .i64 0, .int .i64 0, .int .i64 0, .string ⟨#[]⟩], .agg #[.int .i64 0, .int .i64 0, .string ⟨#[]⟩]], []⟩ 8 (by kernel_rfl) (by kernel_rfl) (by kernel_rfl) (by kernel_rfl)) writes_walk)
#print axioms CallWrites_holds
end Go.Proofs.Ytaobfidjnnhniaa
