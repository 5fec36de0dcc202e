/- What numbers, May and Encode of handles compute (walks). Conditions: bounds of machine numbers. -/
import Derived.Test.YtchldgedpncggaaHandleMay
namespace Go.Proofs.Ytchldgedpncggaa
set_option linter.unusedVariables false
set_option linter.unusedSimpArgs false
open Go.RowKit Pl

theorem numbers_any (a b c : Int) (w : World) :
    Calls Try.prog 20 #[hv a b c] w fun e w' => e = .returned (.agg #[.int .i64 1, .int .i64 a, .int .i64 b, .int .i64 c]) ∧ Below w.heap.size w w' := by
  unfold hv
  go_enter Try.func20, Try.ntmps20
  go_wp2
  go_returns
  exact ⟨rfl, by go_grown⟩

theorem idx4 (x0 x1 x2 x3 : Int) (k : Nat) (hk : k < 4) (w : World) :
    (Instr.index 40 (.agg #[.int .i64 x0, .int .i64 x1, .int .i64 x2, .int .i64 x3]) (.int .i64 (k : Int))).run Try.prog w = .ok (.int .i64 ([x0, x1, x2, x3].getD k 0)) w := by
  obtain rfl | rfl | rfl | rfl : k = 0 ∨ k = 1 ∨ k = 2 ∨ k = 3 := by omega
  all_goals kernel_rfl

theorem all_snoc (l : List Int) (k : Nat) (h : k < l.length) : (l.take (k + 1)).all countB = ((l.take k).all countB && countB (l.getD k 0)) := by
  rw [take_snoc l k h, List.all_append]
  simp [List.getD, h]

set_option maxHeartbeats 400000 in
theorem may_any (a b c : Int) (w : World) : Calls Try.prog 14 #[hv a b c] w fun e w' => e = .returned (.bool (mayH a b c)) ∧ Below w.heap.size w w' := by
  have hp : ∀ v, v = mayH a b c → (Ending.returned (.bool v) = .returned (.bool (mayH a b c))) := fun v h => by rw [h]
  have hall : mayH a b c = (decide (1 ≤ b) && [1, a, b, c].all countB) := by
    rw [Bool.eq_iff_iff]; simp [mayH, countB]; omega
  have HA := Lib.hid hall
  clear hall
  unfold hv
  go_enter Try.func14, Try.ntmps14
  go_wp2_with fail
  refine (numbers_any _ _ _ _).mono ?_; rintro e w1 ⟨rfl, hb1⟩
  go_wp2_with fail
  go_loop [3, 11] (fun v i => ∃ k : Nat, k ≤ 4 ∧ i = .int .i64 k ∧ v = .bool (decide (1 ≤ b) && ([1, a, b, c].take k).all countB)) (fun _ i => 4 - (intOf i).toNat)
  case atStart => exact ⟨0, Nat.zero_le _, rfl, by simp⟩
  case round =>
    obtain ⟨k, hk, rfl, rfl⟩ := hrel
    by_cases hlt : k < 4
    · have hi := idx4 1 a b c k hlt
      have hs := all_snoc [1, a, b, c] k (by simpa using hlt)
      generalize hx : [1, a, b, c].getD k 0 = x at hi hs
      generalize hacc : (decide (1 ≤ b) && ([1, a, b, c].take k).all countB) = acc
      have hs' : (decide (1 ≤ b) && ([1, a, b, c].take (k + 1)).all countB) = (acc && countB x) := by rw [hs, ← Bool.and_assoc, hacc]
      have HS := Lib.hid hs'
      clear hs hs' hx hacc
      cases acc
      · go_wp2
        go_round
        case rel => exact ⟨k + 1, by omega, by go_num, by rw [HS.out]; simp⟩
        case measure => simp [intOf]; omega
      · by_cases h1 : 0 ≤ x
        · by_cases h2 : x ≤ 2147483647
          · go_wp2
            go_round
            case rel => exact ⟨k + 1, by omega, by go_num, by rw [HS.out]; simp [countB, h1, h2]⟩
            case measure => simp [intOf]; omega
          · go_wp2
            go_round
            case rel => exact ⟨k + 1, by omega, by go_num, by rw [HS.out]; simp [countB, h2]⟩
            case measure => simp [intOf]; omega
        · go_wp2
          go_round
          case rel => exact ⟨k + 1, by omega, by go_num, by rw [HS.out]; simp [countB]; omega⟩
          case measure => simp [intOf]; omega
    · obtain rfl : k = 4 := by omega
      go_wp2
      go_ret
      exact ⟨hp _ (by rw [HA.out]; simp), Below.trans (by go_grown) (hb1.mono (by simp))⟩
end Go.Proofs.Ytchldgedpncggaa
