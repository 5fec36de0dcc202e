/- What the writers of texts of xdr compute (walks). Conditions: bounds of machine numbers; the sums of the lengths are at most 2^46. -/
import Derived.Test.YtaobfidjnnhniaaXdrWrite
namespace Go.Proofs.Ytaobfidjnnhniaa
set_option linter.unusedVariables false
set_option linter.unusedSimpArgs false
open Go.RowKit Pl
attribute [local go_sem] ba_size

/-- How many 00s make whole words. -/
def padN (n : Nat) : Nat := (4 - n % 4) % 4
def zeros (n : Nat) : List UInt8 := List.replicate n 0
/-- A text as words. -/
def fixB (l : List UInt8) : List UInt8 := l ++ zeros (padN l.length)
theorem padN_lt (n : Nat) : padN n < 4 := by unfold padN; omega
@[simp] theorem zeros_length (n : Nat) : (zeros n).length = n := by simp [zeros]

theorem pad_any (n : Nat) (w : World) (hn : n ≤ 9223372036854775807) : Calls Try.prog 37 #[.int .i64 (n : Int)] w fun e w' => e = .returned (.int .i64 (padN n : Int)) ∧ w = w' := by
  have hp : (4 - (n : Int) % 4) % 4 = (padN n : Int) := by unfold padN; omega
  have HP := Lib.hid hp
  clear hp
  go_enter Try.func37, Try.ntmps37
  go_wp2
  go_ret
  exact ⟨ret_int HP.out, rfl⟩

theorem Fixed_any (v : Value) (l k : List UInt8) (w : World) (hl : BytesV w v l) (hsum : l.length + k.length + 8 ≤ 140737488355328) :
    Calls Try.prog 23 #[v, sv k] w fun e w' => ∃ v', e = .returned v' ∧ BytesV w' v' (l ++ fixB k) ∧ Below w.heap.size w w' := by
  have hkm : k.length ≤ 9223372036854775807 := by omega
  go_enter Try.func23, Try.ntmps23
  go_wp2_with (with_reducible refine wpList_bytes_of_string rfl _ rfl Try.underlying9 Try.underlying58 Try.underlying5 rfl ?_ ?_)
  · unfold maxLen; omega
  intro v1 w1 hr1 hw1 hz1
  have b1 : Below w.heap.size w w1 := Below.trans (by repeat' (first | (with_reducible exact Below.refl _ _) | (with_reducible assumption) | (with_reducible refine below_drewN ?_ _) | (with_reducible refine Below.alloc ?_ ?_ _) | (with_reducible refine Below.drew ?_) | (with_reducible refine Below.setCell ?_ ?_ _) | go_size)) (hw1.mono (by omega))
  have hbox : ∀ j, j < 4 → w1.cell? ⟨w.heap.size, j, none⟩ = some (.int .u8 0) := by
    intro j hj
    rw [hw1.cell (p := ⟨w.heap.size, j, none⟩) (by simp)]
    obtain rfl | rfl | rfl | rfl : j = 0 ∨ j = 1 ∨ j = 2 ∨ j = 3 := by omega
    all_goals simp
  have hwz : w.heap.size < w1.heap.size := by omega
  clear hz1
  go_wp2_with fail
  refine (put_any _ _ l k _ (hl.below b1) hr1.bytes (by omega)).mono ?_; rintro e w2 ⟨v2, rfl, hv2, hw2, hrow2⟩
  go_wp2_with fail
  refine (pad_any k.length _ hkm).mono ?_; rintro e w3 ⟨rfl, rfl⟩
  have hpl := padN_lt k.length
  have hpl' : (padN k.length : Int) ≤ 4 := by omega
  go_wp2_with fail
  have hz : BytesV w2 (.slice (some ⟨w.heap.size, 0, none⟩) (padN k.length) 4) (zeros (padN k.length)) := by
    refine ⟨_, 4, by rw [zeros_length], by rw [zeros_length]; omega, by unfold maxLen; omega, (fun h => by cases h), fun _ => ⟨w.heap.size, 0, rfl, Nat.lt_of_lt_of_le hwz hw2.size, fun j hj => ?_⟩⟩
    rw [zeros_length] at hj
    rw [Nat.zero_add, hw2.cell (p := ⟨w.heap.size, j, none⟩) hwz, hbox j (by omega)]
    simp [zeros]
  refine (put_any _ _ (l ++ k) (zeros (padN k.length)) _ hv2 hz (by simp; omega)).mono ?_; rintro e w4 ⟨v4, rfl, hv4, hw4, hrow4⟩
  have b2 : Below w.heap.size w w2 := chain b1 hw2
  have b4 : Below w.heap.size w w4 := chain b2 hw4
  have H4 := Lib.hid hrow4
  have H2 := Lib.hid hrow2
  have HZ := Lib.hid hz
  clear hrow4 hrow2 hz hbox
  go_wp2_with fail
  go_ret
  rw [List.append_assoc] at hv4
  exact ⟨_, rfl, hv4, b4⟩
end Go.Proofs.Ytaobfidjnnhniaa
