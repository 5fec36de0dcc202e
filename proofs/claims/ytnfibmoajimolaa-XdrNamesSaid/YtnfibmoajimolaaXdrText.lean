/- What Text of xdr computes (walk). Conditions: bounds of machine numbers; the sums of the lengths are at most 2^46. -/
import Derived.Test.YtnfibmoajimolaaXdrWrite3
namespace Go.Proofs.Ytnfibmoajimolaa
set_option linter.unusedVariables false
set_option linter.unusedSimpArgs false
open Go.RowKit Pl
attribute [local go_sem] ba_size

/-- A text as words, its length ahead. -/
def textB (l : List UInt8) : List UInt8 := be 4 l.length ++ fixB l

theorem be4_u32 (n : Nat) : be 4 (IntKind.u32.wrap (n : Int)).toNat = be 4 n := by
  have : (IntKind.u32.wrap (n : Int)).toNat = n % 256 ^ 4 := by rw [IntKind.wrap_u32]; omega
  rw [this, be_mod]

theorem Text_any (v : Value) (l k : List UInt8) (w : World) (hl : BytesV w v l) (hsum : l.length + k.length + 16 ≤ 140737488355328) :
    Calls Try.prog 13 #[v, sv k] w fun e w' => ∃ v', e = .returned v' ∧ BytesV w' v' (l ++ textB k) ∧ Below w.heap.size w w' := by
  go_enter Try.func13, Try.ntmps13
  go_wp2_with fail
  refine (Word_any _ l _ _ hl (wrap_u32_nonneg _) (by rw [IntKind.wrap_u32]; omega) (by omega)).mono ?_; rintro e w1 ⟨v1, rfl, hr1, hw1⟩
  rw [be4_u32] at hr1
  go_wp2_with fail
  refine (Fixed_any _ (l ++ be 4 k.length) k _ hr1.bytes (by simp; omega)).mono ?_; rintro e w2 ⟨v2, rfl, hr2, hw2⟩
  go_wp2_with fail
  go_ret
  refine ⟨_, rfl, ?_, chain hw1 hw2⟩
  unfold textB
  rw [← List.append_assoc]
  exact hr2
end Go.Proofs.Ytnfibmoajimolaa
