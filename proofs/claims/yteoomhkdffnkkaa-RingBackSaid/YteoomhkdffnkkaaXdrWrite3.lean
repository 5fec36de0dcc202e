/- What the writers of texts of xdr compute (walks). Conditions: bounds of machine numbers; the sums of the lengths are at most 2^46. -/
import Derived.Test.YteoomhkdffnkkaaXdrWrite
namespace Go.Proofs.Yteoomhkdffnkkaa
set_option linter.unusedVariables false
set_option linter.unusedSimpArgs false
open Go.RowKit Pl
attribute [local go_sem] ba_size

/-- How many 00s make whole words. -/
def padN (n : Nat) : Nat := (4 - n % 4) % 4
def zeros (n : Nat) : List UInt8 := List.replicate n 0
/-- A text as words. -/
def fixB (l : List UInt8) : List UInt8 := l ++ zeros (padN l.length)
theorem padN_lt (n : Nat) : padN n < 4 := by unfold padN; omega
@[simp] theorem zeros_length (n : Nat) : (zeros n).length = n := by simp [zeros]

end Go.Proofs.Yteoomhkdffnkkaa
