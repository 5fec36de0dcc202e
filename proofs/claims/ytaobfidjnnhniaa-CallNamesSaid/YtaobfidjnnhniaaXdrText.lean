/- What Text of xdr computes (walk). Conditions: bounds of machine numbers; the sums of the lengths are at most 2^46. -/
import Derived.Test.YtaobfidjnnhniaaXdrWrite3
namespace Go.Proofs.Ytaobfidjnnhniaa
set_option linter.unusedVariables false
set_option linter.unusedSimpArgs false
open Go.RowKit Pl
attribute [local go_sem] ba_size

/-- A text as words, its length ahead. -/
def textB (l : List UInt8) : List UInt8 := be 4 l.length ++ fixB l

theorem be4_u32 (n : Nat) : be 4 (IntKind.u32.wrap (n : Int)).toNat = be 4 n := by
  have : (IntKind.u32.wrap (n : Int)).toNat = n % 256 ^ 4 := by rw [IntKind.wrap_u32]; omega
  rw [this, be_mod]

end Go.Proofs.Ytaobfidjnnhniaa
