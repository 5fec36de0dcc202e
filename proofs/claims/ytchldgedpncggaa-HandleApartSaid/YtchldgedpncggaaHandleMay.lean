/- What May, numbers, sum, Less of the references compute (walks). Conditions: bounds of machine numbers. -/
import Derived.Test.YtchldgedpncggaaHandlePut
namespace Go.Proofs.Ytchldgedpncggaa
set_option linter.unusedVariables false
set_option linter.unusedSimpArgs false
open Go.RowKit Pl

theorem lessR_any (a b c x y z : Int) (w : World) :
    Calls Try.prog 17 #[hv a b c, hv x y z] w fun e w' => e = .returned (.bool (lessH a b c x y z)) ∧ Below w.heap.size w w' := by
  have hp : ∀ v, v = lessH a b c x y z → (Ending.returned (.bool v) = .returned (.bool (lessH a b c x y z))) := fun v h => by rw [h]
  unfold hv
  by_cases h1 : a = x
  · subst h1
    by_cases h2 : b = y
    · subst h2
      go_enter Try.func17, Try.ntmps17
      go_wp2
      all_goals go_ret
      all_goals exact ⟨hp _ (by simp [lessH]), by go_grown⟩
    · go_enter Try.func17, Try.ntmps17
      go_wp2
      all_goals go_ret
      all_goals exact ⟨hp _ (by simp [lessH, h2]), by go_grown⟩
  · go_enter Try.func17, Try.ntmps17
    go_wp2
    all_goals go_ret
    all_goals exact ⟨hp _ (by simp [lessH, h1]), by go_grown⟩

def countB (n : Int) : Bool := decide (0 ≤ n ∧ n ≤ 2147483647)
theorem count_any (n : Int) (w : World) : Calls Try.prog 25 #[.int .i64 n] w fun e w' => e = .returned (.bool (countB n)) ∧ w = w' := by
  have hp : ∀ v, v = countB n → (Ending.returned (.bool v) = .returned (.bool (countB n))) := fun v h => by rw [h]
  by_cases h1 : 0 ≤ n
  · go_enter Try.func25, Try.ntmps25
    go_wp2
    all_goals go_ret
    all_goals exact ⟨hp _ (by simp [countB]; try omega), rfl⟩
  · go_enter Try.func25, Try.ntmps25
    go_wp2
    all_goals go_ret
    all_goals exact ⟨hp _ (by simp [countB]; try omega), rfl⟩

theorem count_yes (n : Int) (w : World) (h : 0 ≤ n ∧ n ≤ 2147483647) : Calls Try.prog 25 #[.int .i64 n] w fun e w' => e = .returned (.bool true) ∧ w = w' :=
  (count_any n w).mono fun e w' ⟨he, hw⟩ => ⟨by rw [he]; simp [countB, h], hw⟩
theorem count_no (n : Int) (w : World) (h : ¬ (0 ≤ n ∧ n ≤ 2147483647)) : Calls Try.prog 25 #[.int .i64 n] w fun e w' => e = .returned (.bool false) ∧ w = w' :=
  (count_any n w).mono fun e w' ⟨he, hw⟩ => ⟨by rw [he]; simp only [countB, decide_eq_false h], hw⟩

theorem mayR_any (a b c : Int) (w : World) : Calls Try.prog 15 #[hv a b c] w fun e w' => e = .returned (.bool (mayH a b c)) ∧ Below w.heap.size w w' := by
  have hp : ∀ v, v = mayH a b c → (Ending.returned (.bool v) = .returned (.bool (mayH a b c))) := fun v h => by rw [h]
  unfold hv
  have fin : ∀ h : Bool, (mayH a b c = h) → mayH a b c = h := fun _ h => h
  by_cases h1 : 0 ≤ a ∧ a ≤ 2147483647
  · by_cases h2 : 0 ≤ b ∧ b ≤ 2147483647
    · by_cases h4 : 1 ≤ b
      · by_cases h3 : 0 ≤ c ∧ c ≤ 2147483647
        · have hr : true = mayH a b c := by simp [mayH]; omega
          have H := Lib.hid hr
          clear hr
          go_enter Try.func15, Try.ntmps15
          go_wp2_with fail
          refine (count_yes _ _ h1).mono ?_; rintro e w' ⟨rfl, rfl⟩
          go_wp2_with fail
          refine (count_yes _ _ h2).mono ?_; rintro e w' ⟨rfl, rfl⟩
          go_wp2_with fail
          refine (count_yes _ _ h3).mono ?_; rintro e w' ⟨rfl, rfl⟩
          go_wp2_with fail
          go_ret
          exact ⟨hp _ H.out, by go_grown⟩
        · have hr : false = mayH a b c := by simp [mayH]; omega
          have H := Lib.hid hr
          clear hr
          go_enter Try.func15, Try.ntmps15
          go_wp2_with fail
          refine (count_yes _ _ h1).mono ?_; rintro e w' ⟨rfl, rfl⟩
          go_wp2_with fail
          refine (count_yes _ _ h2).mono ?_; rintro e w' ⟨rfl, rfl⟩
          go_wp2_with fail
          refine (count_no _ _ h3).mono ?_; rintro e w' ⟨rfl, rfl⟩
          go_wp2_with fail
          go_ret
          exact ⟨hp _ H.out, by go_grown⟩
      · have hr : false = mayH a b c := by simp [mayH]; omega
        have H := Lib.hid hr
        clear hr
        go_enter Try.func15, Try.ntmps15
        go_wp2_with fail
        refine (count_yes _ _ h1).mono ?_; rintro e w' ⟨rfl, rfl⟩
        go_wp2_with fail
        refine (count_yes _ _ h2).mono ?_; rintro e w' ⟨rfl, rfl⟩
        go_wp2_with fail
        go_ret
        exact ⟨hp _ H.out, by go_grown⟩
    · have hr : false = mayH a b c := by simp [mayH]; omega
      have H := Lib.hid hr
      clear hr
      go_enter Try.func15, Try.ntmps15
      go_wp2_with fail
      refine (count_yes _ _ h1).mono ?_; rintro e w' ⟨rfl, rfl⟩
      go_wp2_with fail
      refine (count_no _ _ h2).mono ?_; rintro e w' ⟨rfl, rfl⟩
      go_wp2_with fail
      go_ret
      exact ⟨hp _ H.out, by go_grown⟩
  · have hr : false = mayH a b c := by simp [mayH]; omega
    have H := Lib.hid hr
    clear hr
    go_enter Try.func15, Try.ntmps15
    go_wp2_with fail
    refine (count_no _ _ h1).mono ?_; rintro e w' ⟨rfl, rfl⟩
    go_wp2_with fail
    go_ret
    exact ⟨hp _ H.out, by go_grown⟩

theorem fnv_snoc (l : List UInt8) (c : UInt8) (u : Nat) : fnv u (l ++ [c]) = ((fnv u l ^^^ c.toNat) * 1099511628211) % 18446744073709551616 := by
  rw [fnv_append]; rfl

theorem fnv_step (u : Nat) (c : UInt8) (hu : u < 18446744073709551616) :
    IntKind.u64.wrap (bits BinOp.xor IntKind.u64 (u : Int) (IntKind.u64.wrap (c.toNat : Int)) * 1099511628211) = (((u ^^^ c.toNat) * 1099511628211 % 18446744073709551616 : Nat) : Int) := by
  have hc := c.toNat_lt
  have e1 : IntKind.u64.wrap (c.toNat : Int) = (c.toNat : Int) := IntWalk.u64_in _ (by omega)
  have hx : u ^^^ c.toNat < 2 ^ 64 := Nat.xor_lt_two_pow (by omega) (by omega)
  have e2 : bits BinOp.xor IntKind.u64 (u : Int) (c.toNat : Int) = ((u ^^^ c.toNat : Nat) : Int) := by
    show IntKind.u64.wrap ((BitVec.ofInt 64 (u : Int) ^^^ BitVec.ofInt 64 (c.toNat : Int)).toNat : Int) = _
    rw [BitVec.toNat_xor, BitVec.ofInt_natCast, BitVec.ofInt_natCast, BitVec.toNat_ofNat, BitVec.toNat_ofNat, Nat.mod_eq_of_lt (by omega), Nat.mod_eq_of_lt (by omega), IntKind.wrap_u64]
    omega
  rw [e1, e2, IntKind.wrap_u64]
  omega

theorem take_snoc {α : Type} (l : List α) (k : Nat) (h : k < l.length) : l.take (k + 1) = l.take k ++ [l[k]] := by
  rw [List.take_succ_eq_append_getElem h]

set_option maxHeartbeats 400000 in
theorem sum_any (v : Value) (l : List UInt8) (w : World) (hv : BytesV w v l) : Calls Try.prog 22 #[v] w fun e w' => e = .returned (.int .u64 (fnv fnv0 l : Int)) ∧ w = w' := by
  have hmax := hv.len
  unfold maxLen at hmax
  obtain ⟨A, c, rfl, hl, hc, hn, hr⟩ := hv
  go_enter Try.func22, Try.ntmps22
  go_wp2
  go_loop [3, 8] (fun u i => ∃ k : Nat, k ≤ l.length ∧ i = .int .i64 k ∧ u = .int .u64 (fnv fnv0 (l.take k) : Int)) (fun _ i => l.length - (intOf i).toNat)
  case atStart => exact ⟨0, Nat.zero_le _, rfl, rfl⟩
  case round =>
    obtain ⟨k, hk, rfl, rfl⟩ := hrel
    by_cases hlt : k < l.length
    · obtain ⟨b, off, rfl, _, hcell⟩ := hr (by omega)
      have hck := hcell k hlt
      clear hcell hr
      go_wp2
      go_round
      case rel =>
        refine ⟨k + 1, hlt, by go_num, ?_⟩
        rw [fnv_step _ _ (fnv_lt _ (by decide)), take_snoc l k hlt, fnv_snoc]
      case measure => simp [intOf]; omega
    · obtain rfl : k = l.length := by omega
      go_wp2
      go_ret
      exact ⟨by simp, rfl⟩
end Go.Proofs.Ytchldgedpncggaa
