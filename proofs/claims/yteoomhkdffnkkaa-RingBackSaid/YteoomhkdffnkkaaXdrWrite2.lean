/- What the writers of xdr compute, further on (walks). Conditions: bounds of machine numbers; the sums of the lengths are at most 2^46. -/
import Derived.Test.YteoomhkdffnkkaaXdrWrite
namespace Go.Proofs.Yteoomhkdffnkkaa
set_option linter.unusedVariables false
set_option linter.unusedSimpArgs false
open Go.RowKit Pl

theorem Long_any (v : Value) (l : List UInt8) (n : Int) (w : World) (hl : BytesV w v l) (h0 : 0 ≤ n) (hn : n < 18446744073709551616) (hsum : l.length + 8 ≤ 140737488355328) :
    Calls Try.prog 39 #[v, .int .u64 n] w fun e w' => ∃ v', e = .returned v' ∧ RowB w' w.heap.size v' (l ++ be 8 n.toNat) ∧ Below w.heap.size w w' := by
  have e8 : be 8 n.toNat = be 4 (n / 4294967296).toNat ++ be 4 (n % 4294967296).toNat := by
    obtain ⟨n, rfl⟩ := Int.eq_ofNat_of_zero_le h0
    rw [be8]
    rfl
  rw [e8]
  clear e8
  go_enter Try.func39, Try.ntmps39
  go_wp2_with fail
  refine (Word_any _ l _ _ hl (by omega) (by omega) (by omega)).mono ?_; rintro e w1 ⟨v1, rfl, hr1, hw1⟩
  go_wp2_with fail
  refine (Word_any _ (l ++ be 4 (n / 4294967296).toNat) _ _ hr1.bytes (by omega) (by omega) (by simp; omega)).mono ?_; rintro e w2 ⟨v2, rfl, hr2, hw2⟩
  go_wp2_with fail
  go_ret
  refine ⟨_, rfl, ?_, hw1.trans (hw2.mono hw1.size)⟩
  rw [← List.append_assoc]
  exact hr2.mono hw1.size

end Go.Proofs.Yteoomhkdffnkkaa
