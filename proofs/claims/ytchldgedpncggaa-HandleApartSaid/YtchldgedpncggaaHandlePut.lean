/- What handle.put, sum, numbers, May, Less compute (walks). Conditions: bounds of machine numbers. -/
import Derived.Test.YtchldgedpncggaaLib
import Derived.Test.YtchldgedpncggaaHandlePlain
namespace Go.Proofs.Ytchldgedpncggaa
set_option linter.unusedVariables false
set_option linter.unusedSimpArgs false
open Go.RowKit Pl

set_option maxHeartbeats 400000 in
theorem put_any (w : World) (base : Nat) (v : Value) (n : Nat) (xs : List Value) (x m : Nat) (hx : x < 18446744073709551616) (hm : m ≤ 8) (hn : n ≤ 1000000)
    (hown : w.ownsRow base 5 1 v n xs) (hb : base ≤ w.heap.size) :
    Calls Try.prog 21 #[v, .int .u64 (x : Int), .int .i64 (m : Int)] w fun e w' => ∃ v', e = .returned v' ∧ w'.ownsRow base 5 1 v' (n + m) (xs ++ bc (be m x)) ∧ Below base w w' := by
  obtain ⟨i0, hi, hz0, hz1, hz2⟩ := info_parts info_u8
  go_enter Try.func21, Try.ntmps21
  go_wp2
  go_loopw [0, 9] (fun v' i wr => ∃ k : Nat, k ≤ m ∧ i = .int .i64 k ∧ wr.ownsRow base 5 1 v' (n + k) (xs ++ bc ((be m x).take k)) ∧ Below base w wr) (fun _ i _ => m - (intOf i).toNat)
  case atStart => exact ⟨0, Nat.zero_le _, rfl, by simpa [bc] using hown, Below.refl _ _⟩
  case round =>
    obtain ⟨k, hk, rfl, hownr, hbel⟩ := hrel
    have hbs := hbel.size
    by_cases hlt : k < m
    · go_wp2_with (at_builtin; refine wpList_push rfl _ _ 33 rfl Try.underlying33 hi hz0 hz1 hz2 rfl rfl rfl hownr rfl ?_ ?_ (by omega) ?_)
      · unfold maxLen; omega
      · omega
      · intro v1 w1 hown1 _ hb1
        go_wp2
        go_roundw
        case rel =>
          refine ⟨k + 1, hlt, by go_num, ?_, hbel.trans hb1⟩
          rw [take_be x m k hlt, bc_append, ← Nat.add_assoc]
          simp only [bc, List.map_cons, List.map_nil, byte_int] at hown1 ⊢
          exact hown1
        case measure => simp [intOf]; omega
    · obtain rfl : k = m := by omega
      go_wp2
      go_ret
      exact ⟨_, rfl, by rw [List.take_of_length_le (by simp)] at hownr; exact hownr, hbel⟩

/-- A handle as a value. -/
abbrev hv (a b c : Int) : Value := .agg #[.int .i64 a, .int .i64 b, .int .i64 c]

theorem less_any (a b c x y z : Int) (w : World) :
    Calls Try.prog 16 #[hv a b c, hv x y z] w fun e w' => e = .returned (.bool (lessH a b c x y z)) ∧ Below w.heap.size w w' := by
  have hp : ∀ v, v = lessH a b c x y z → (Ending.returned (.bool v) = .returned (.bool (lessH a b c x y z))) := fun v h => by rw [h]
  unfold hv
  by_cases h1 : a = x
  · subst h1
    by_cases h2 : b = y
    · subst h2
      by_cases h3 : c = z
      · subst h3
        go_enter Try.func16, Try.ntmps16
        go_wp2
        go_ret
        exact ⟨hp _ (by simp [lessH]), by go_grown⟩
      · go_enter Try.func16, Try.ntmps16
        go_wp2
        all_goals go_ret
        all_goals exact ⟨hp _ (by simp [lessH]), by go_grown⟩
    · go_enter Try.func16, Try.ntmps16
      go_wp2
      all_goals go_ret
      all_goals exact ⟨hp _ (by simp [lessH, h2]), by go_grown⟩
  · go_enter Try.func16, Try.ntmps16
    go_wp2
    all_goals go_ret
    all_goals exact ⟨hp _ (by simp [lessH, h1]), by go_grown⟩
end Go.Proofs.Ytchldgedpncggaa
