/- Which pointers may be: block.may, jettyref08.May. -/
import Derived.Test.YtjhgimdpgnnffaaBlkOther
namespace Go.Proofs.Ytjhgimdpgnnffaa
set_option linter.unusedVariables false
set_option linter.unusedSimpArgs false
open Go.ChangeShapes Go.WideShapes Go.ChangeAt Go.RowKit Pl
attribute [local go_sem] ba_toList ba_size

def mayP (a b s : Int) : Bool := if a = 0 then ((b == 0) && (s == 0)) else (decide (0 < a) && decide (a < 8192) && decide (0 ≤ b) && decide (b ≤ 2147483647))

set_option maxHeartbeats 1600000 in
theorem bmay_any (a b s : Int) (w : World) : Calls Try.prog 29 #[ptrV a b s] w fun e w' => e = .returned (.bool (mayP a b s)) ∧ Below w.heap.size w w' := by
  by_cases ha : a = 0
  · subst ha
    have hm : mayP 0 b s = ((b == 0) && (s == 0)) := if_pos rfl
    rw [hm]
    clear hm
    cases hb : (b == 0) <;> cases hs : (s == 0)
    all_goals
      go_enter Try.func29, Try.ntmps29
      go_wp2_with fail
      go_ret
      exact ⟨rfl, by repeat' (first | (with_reducible exact Below.refl _ _) | (with_reducible assumption) | (with_reducible refine below_drewN ?_ _) | (with_reducible refine Below.alloc ?_ ?_ _) | (with_reducible refine Below.drew ?_) | (with_reducible refine Below.setCell ?_ ?_ _) | go_size)⟩
  · have ha' : (a == 0) = false := by rw [beq_eq_false_iff_ne]; exact ha
    have hm : mayP a b s = (decide (0 < a) && decide (a < 8192) && decide (0 ≤ b) && decide (b ≤ 2147483647)) := if_neg ha
    rw [hm]
    clear hm ha
    by_cases h1 : 0 < a
    · by_cases h2 : a < 8192
      · by_cases h3 : 0 ≤ b
        · by_cases h4 : b ≤ 2147483647
          all_goals
            simp only [h1, h2, h3, h4, decide_true, decide_false, Bool.and_true, Bool.and_false, Bool.false_and, Bool.true_and]
            go_enter Try.func29, Try.ntmps29
            go_wp2_with fail
            go_ret
            exact ⟨rfl, by repeat' (first | (with_reducible exact Below.refl _ _) | (with_reducible assumption) | (with_reducible refine below_drewN ?_ _) | (with_reducible refine Below.alloc ?_ ?_ _) | (with_reducible refine Below.drew ?_) | (with_reducible refine Below.setCell ?_ ?_ _) | go_size)⟩
        · simp only [h1, h2, h3, decide_true, decide_false, Bool.and_true, Bool.and_false, Bool.false_and, Bool.true_and]
          go_enter Try.func29, Try.ntmps29
          go_wp2_with fail
          go_ret
          exact ⟨rfl, by repeat' (first | (with_reducible exact Below.refl _ _) | (with_reducible assumption) | (with_reducible refine below_drewN ?_ _) | (with_reducible refine Below.alloc ?_ ?_ _) | (with_reducible refine Below.drew ?_) | (with_reducible refine Below.setCell ?_ ?_ _) | go_size)⟩
      · simp only [h1, h2, decide_true, decide_false, Bool.and_true, Bool.and_false, Bool.false_and, Bool.true_and]
        go_enter Try.func29, Try.ntmps29
        go_wp2_with fail
        go_ret
        exact ⟨rfl, by repeat' (first | (with_reducible exact Below.refl _ _) | (with_reducible assumption) | (with_reducible refine below_drewN ?_ _) | (with_reducible refine Below.alloc ?_ ?_ _) | (with_reducible refine Below.drew ?_) | (with_reducible refine Below.setCell ?_ ?_ _) | go_size)⟩
    · simp only [h1, decide_true, decide_false, Bool.and_true, Bool.and_false, Bool.false_and, Bool.true_and]
      go_enter Try.func29, Try.ntmps29
      go_wp2_with fail
      go_ret
      exact ⟨rfl, by repeat' (first | (with_reducible exact Below.refl _ _) | (with_reducible assumption) | (with_reducible refine below_drewN ?_ _) | (with_reducible refine Below.alloc ?_ ?_ _) | (with_reducible refine Below.drew ?_) | (with_reducible refine Below.setCell ?_ ?_ _) | go_size)⟩
end Go.Proofs.Ytjhgimdpgnnffaa
