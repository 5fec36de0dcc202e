/- Pointers as 16 bytes (plain): what Encode of blocks gives, and Decode takes. Conditions: none. -/
import Derived.Test.YtjhgimdpgnnffaaBlkMay
namespace Go.Proofs.Ytjhgimdpgnnffaa
set_option linter.unusedVariables false
set_option linter.unusedSimpArgs false
open Go.RowKit Pl

def encS (a b s : Int) : List UInt8 := be 4 a.toNat ++ be 4 b.toNat ++ be 4 (s.toNat / 4294967296) ++ be 4 (s.toNat % 4294967296)
def encOK (a b s : Int) : Int := if mayP a b s = true then 0 else 4
def encL (a b s : Int) : List UInt8 := if mayP a b s = true then encS a b s else []
def q4 (l : List UInt8) (j : Nat) : Nat := unbe 0 ((l.drop j).take 4)
def dP (l : List UInt8) : Int × Int × Int := ((q4 l 0 : Int), (q4 l 4 : Int), ((q4 l 8 * 4294967296 + q4 l 12 : Nat) : Int))
def decP (l : List UInt8) : Bool := (l.length == 16) && mayP (q4 l 0) (q4 l 4) ((q4 l 8 * 4294967296 + q4 l 12 : Nat) : Int)
def decV (l : List UInt8) : Value := if decP l = true then .tuple #[ptrV (q4 l 0) (q4 l 4) ((q4 l 8 * 4294967296 + q4 l 12 : Nat) : Int), .int .i64 0] else .tuple #[ptrV 0 0 0, .int .i64 4]

theorem mayP_in {a b s : Int} (h : mayP a b s = true) : 0 ≤ a ∧ a < 8192 ∧ 0 ≤ b ∧ b ≤ 2147483647 := by
  unfold mayP at h
  by_cases ha : a = 0
  · rw [if_pos ha] at h
    simp at h
    omega
  · rw [if_neg ha] at h
    simp at h
    omega
theorem encS_len (a b s : Int) : (encS a b s).length = 16 := by simp [encS]
theorem q4_lt {l : List UInt8} {j : Nat} (h : j + 4 ≤ l.length) : q4 l j < 4294967296 := by
  have := unbe_lt ((l.drop j).take 4) 0
  rw [show ((l.drop j).take 4).length = 4 from by simp; omega] at this
  unfold q4
  omega
theorem encS_inj {a b s x y z : Int} (ha : 0 ≤ a ∧ a < 8192 ∧ 0 ≤ b ∧ b ≤ 2147483647) (hx : 0 ≤ x ∧ x < 8192 ∧ 0 ≤ y ∧ y ≤ 2147483647) (hs : 0 ≤ s ∧ s < 18446744073709551616) (hz : 0 ≤ z ∧ z < 18446744073709551616)
    (h : encS a b s = encS x y z) : a = x ∧ b = y ∧ s = z := by
  unfold encS at h
  obtain ⟨h, h4⟩ := List.append_inj h (by simp)
  obtain ⟨h, h3⟩ := List.append_inj h (by simp)
  obtain ⟨h1, h2⟩ := List.append_inj h (by simp)
  have e1 := be_inj (by omega) (by omega) h1
  have e2 := be_inj (by omega) (by omega) h2
  have e3 := be_inj (by omega) (by omega) h3
  have e4 := be_inj (by omega) (by omega) h4
  omega
theorem be_q4 {l : List UInt8} {j : Nat} (h : j + 4 ≤ l.length) : be 4 (q4 l j) = (l.drop j).take 4 := be_unbe _ 4 (by simp; omega) 0
theorem enc_dec {l : List UInt8} (h : l.length = 16) : encS (q4 l 0) (q4 l 4) ((q4 l 8 * 4294967296 + q4 l 12 : Nat) : Int) = l := by
  have h12 := q4_lt (l := l) (j := 12) (by omega)
  unfold encS
  rw [Int.toNat_natCast, Int.toNat_natCast, Int.toNat_natCast, show (q4 l 8 * 4294967296 + q4 l 12) / 4294967296 = q4 l 8 from by omega, show (q4 l 8 * 4294967296 + q4 l 12) % 4294967296 = q4 l 12 from by omega,
    be_q4 (by omega), be_q4 (by omega), be_q4 (by omega), be_q4 (by omega)]
  match l, h with
  | [x0, x1, x2, x3, x4, x5, x6, x7, x8, x9, x10, x11, x12, x13, x14, x15], _ => rfl
end Go.Proofs.Ytjhgimdpgnnffaa
