/- What the writers of xdr compute, further on (walks). Conditions: bounds of machine numbers; the sums of the lengths are at most 2^46. -/
import Derived.Test.YtnfibmoajimolaaXdrWrite
namespace Go.Proofs.Ytnfibmoajimolaa
set_option linter.unusedVariables false
set_option linter.unusedSimpArgs false
open Go.RowKit Pl

theorem Long_any (v : Value) (l : List UInt8) (n : Int) (w : World) (hl : BytesV w v l) (h0 : 0 ≤ n) (hn : n < 18446744073709551616) (hsum : l.length + 8 ≤ 140737488355328) :
    Calls Try.prog 10 #[v, .int .u64 n] w fun e w' => ∃ v', e = .returned v' ∧ RowB w' w.heap.size v' (l ++ be 8 n.toNat) ∧ Below w.heap.size w w' := by
  have e8 : be 8 n.toNat = be 4 (n / 4294967296).toNat ++ be 4 (n % 4294967296).toNat := by
    obtain ⟨n, rfl⟩ := Int.eq_ofNat_of_zero_le h0
    rw [be8]
    rfl
  rw [e8]
  clear e8
  go_enter Try.func10, Try.ntmps10
  go_wp2_with fail
  refine (Word_any _ l _ _ hl (by omega) (by omega) (by omega)).mono ?_; rintro e w1 ⟨v1, rfl, hr1, hw1⟩
  go_wp2_with fail
  refine (Word_any _ (l ++ be 4 (n / 4294967296).toNat) _ _ hr1.bytes (by omega) (by omega) (by simp; omega)).mono ?_; rintro e w2 ⟨v2, rfl, hr2, hw2⟩
  go_wp2_with fail
  go_ret
  refine ⟨_, rfl, ?_, hw1.trans (hw2.mono hw1.size)⟩
  rw [← List.append_assoc]
  exact hr2.mono hw1.size

theorem Int_any (v : Value) (l : List UInt8) (n : Int) (w : World) (hl : BytesV w v l) (hsum : l.length + 8 ≤ 140737488355328) :
    Calls Try.prog 11 #[v, .int .i64 n] w fun e w' => ∃ v', e = .returned v' ∧ RowB w' w.heap.size v' (l ++ be 8 (IntKind.u64.wrap n).toNat) ∧ Below w.heap.size w w' := by
  go_enter Try.func11, Try.ntmps11
  go_wp2_with fail
  refine (Long_any _ l _ _ hl (wrap_u64_nonneg n) (by rw [IntKind.wrap_u64]; omega) hsum).mono ?_; rintro e w1 ⟨v1, rfl, hr1, hw1⟩
  go_wp2_with fail
  go_ret
  exact ⟨_, rfl, hr1, hw1⟩

theorem Flag_any (v : Value) (l : List UInt8) (b : Bool) (w : World) (hl : BytesV w v l) (hsum : l.length + 4 ≤ 140737488355328) :
    Calls Try.prog 12 #[v, .bool b] w fun e w' => ∃ v', e = .returned v' ∧ RowB w' w.heap.size v' (l ++ be 4 b.toNat) ∧ Below w.heap.size w w' := by
  cases b
  · go_enter Try.func12, Try.ntmps12
    go_wp2_with fail
    refine (Word_any _ l _ _ hl (by omega) (by omega) hsum).mono ?_; rintro e w1 ⟨v1, rfl, hr1, hw1⟩
    go_wp2_with fail
    go_ret
    exact ⟨_, rfl, hr1, hw1⟩
  · go_enter Try.func12, Try.ntmps12
    go_wp2_with fail
    refine (Word_any _ l _ _ hl (by omega) (by omega) hsum).mono ?_; rintro e w1 ⟨v1, rfl, hr1, hw1⟩
    go_wp2_with fail
    go_ret
    exact ⟨_, rfl, hr1, hw1⟩
end Go.Proofs.Ytnfibmoajimolaa
