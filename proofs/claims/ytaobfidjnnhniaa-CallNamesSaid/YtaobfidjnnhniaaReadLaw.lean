/- What is written is read: plain laws. -/
import Derived.Test.YtaobfidjnnhniaaRead3
import Derived.Test.YtaobfidjnnhniaaXdrText
namespace Go.Proofs.Ytaobfidjnnhniaa
set_option linter.unusedVariables false
set_option linter.unusedSimpArgs false
open Go.ChangeShapes Go.WideShapes Go.ChangeAt Go.RowKit Pl

theorem wordR_app {l : List UInt8} (h : l.length = 4) (r : List UInt8) : wordR (some (l ++ r)) = (unbe 0 l, some r) := by
  have : wordR (some (l ++ r)) = (unbe 0 ((l ++ r).take 4), some ((l ++ r).drop 4)) := if_pos (by simp; omega)
  rw [this, List.take_left' h, List.drop_left' h]
theorem wordR_be (x : Nat) (r : List UInt8) : wordR (some (be 4 x ++ r)) = (x % 4294967296, some r) := by
  rw [wordR_app (be_length 4 x), unbe_be]
  simp
theorem longR_be (x : Nat) (r : List UInt8) : longR (some (be 8 x ++ r)) = (x % 18446744073709551616, some r) := by
  unfold longR
  rw [be8, List.append_assoc, wordR_be]
  simp only [wordR_be]
  congr 1
  omega
theorem flagR_be (b : Bool) (r : List UInt8) : flagR (some (be 4 b.toNat ++ r)) = (b, some r) := by
  unfold flagR
  rw [wordR_be]
  cases b <;> rfl
theorem zero_zeros (n : Nat) : zero? (zeros n) = true := by
  unfold zero? zeros
  rw [List.all_eq_true]
  intro x hx
  rw [List.eq_of_mem_replicate hx]
  rfl
theorem fixR_fix (m r : List UInt8) : fixR m.length (some (fixB m ++ r)) = (m, some r) := by
  unfold fixB
  rw [List.append_assoc]
  have h1 : (m ++ (zeros (padN m.length) ++ r)).drop m.length = zeros (padN m.length) ++ r := List.drop_left' rfl
  have h2 : (zeros (padN m.length) ++ r).take (padN m.length) = zeros (padN m.length) := List.take_left' (by simp)
  have h3 : (m ++ (zeros (padN m.length) ++ r)).drop (m.length + padN m.length) = r := by
    rw [← List.append_assoc]; exact List.drop_left' (by simp)
  have h4 : (m ++ (zeros (padN m.length) ++ r)).take m.length = m := List.take_left' rfl
  have : fixR m.length (some (m ++ (zeros (padN m.length) ++ r))) = ((m ++ (zeros (padN m.length) ++ r)).take (m.length : Int).toNat, some ((m ++ (zeros (padN m.length) ++ r)).drop ((m.length : Int).toNat + padN (m.length : Int).toNat))) := by
    refine if_pos ⟨by omega, ?_, ?_⟩
    · simp only [Int.toNat_natCast]; simp
    · simp only [Int.toNat_natCast]; rw [h1, h2]; exact zero_zeros _
  rw [this]
  simp only [Int.toNat_natCast]
  rw [h3, h4]
theorem countR_be (x : Nat) (hx : x < 4294967296) (m : Int) (hm : (x : Int) ≤ m) (r : List UInt8) : countR m (some (be 4 x ++ r)) = (x, some r) := by
  unfold countR
  rw [wordR_be, Nat.mod_eq_of_lt hx]
  exact if_neg (by omega)
theorem textR_text (k r : List UInt8) (hk : k.length < 4294967296) : textR k.length (some (textB k ++ r)) = (k, some r) := by
  unfold textR textB
  rw [List.append_assoc, countR_be _ hk _ (by omega)]
  exact fixR_fix k r
theorem fixB_mod (k : List UInt8) : (fixB k).length % 4 = 0 := by unfold fixB padN; simp; omega
theorem textB_mod (k : List UInt8) : (textB k).length % 4 = 0 := by unfold textB; have := fixB_mod k; simp; omega
end Go.Proofs.Ytaobfidjnnhniaa
