/- Four bytes of a number, and '|' on numbers (plain). Conditions: none. -/
import Derived.Test.YtaobfidjnnhniaaLib
import Derived.Test.YtaobfidjnnhniaaBytes
namespace Go.Proofs.Ytaobfidjnnhniaa
set_option linter.unusedVariables false
set_option linter.unusedSimpArgs false
open Go.RowKit Pl

theorem be4 (n : Nat) : be 4 n = [UInt8.ofNat (n / 16777216), UInt8.ofNat (n / 65536), UInt8.ofNat (n / 256), UInt8.ofNat n] := by
  simp [be]
theorem b_int (n : Nat) : ((UInt8.ofNat n).toNat : Int) = (n : Int) % 256 := by rw [ofNat_toNat]; rfl

theorem nat_or (x y k : Nat) (hy : y < 2 ^ k) (hx : x % 2 ^ k = 0) : x ||| y = x + y := by
  have h := Nat.two_pow_add_eq_or_of_lt hy (x / 2 ^ k)
  have : 2 ^ k * (x / 2 ^ k) = x := by have := Nat.div_add_mod x (2 ^ k); omega
  rw [this] at h
  exact h.symm
end Go.Proofs.Ytaobfidjnnhniaa
