/- What Encode of handles computes (walk). Conditions: bounds of machine numbers. -/
import Derived.Test.YtchldgedpncggaaHandleEnc
namespace Go.Proofs.Ytchldgedpncggaa
set_option linter.unusedVariables false
set_option linter.unusedSimpArgs false
open Go.RowKit Pl

/-- A string, as a value. -/
abbrev sv (l : List UInt8) : Value := .string ⟨l.toArray⟩

theorem getD_mem4 (x0 x1 x2 x3 : Int) (k : Nat) (hk : k < 4) (P : Int → Prop) (h0 : P x0) (h1 : P x1) (h2 : P x2) (h3 : P x3) : P ([x0, x1, x2, x3].getD k 0) := by
  obtain rfl | rfl | rfl | rfl : k = 0 ∨ k = 1 ∨ k = 2 ∨ k = 3 := by omega
  · exact h0
  · exact h1
  · exact h2
  · exact h3

theorem nbs_snoc (l : List Int) (k : Nat) (h : k < l.length) : nbs (l.take (k + 1)) = nbs (l.take k) ++ be 4 (l.getD k 0).toNat := by
  rw [take_snoc l k h, nbs_append]
  simp [nbs, List.getD, h]

set_option maxHeartbeats 400000 in
theorem encode_no (a b c : Int) (w : World) (h : mayH a b c = false) : Calls Try.prog 10 #[hv a b c] w fun e w' => e = .returned (.tuple #[sv [], .int .i64 4]) ∧ Below w.heap.size w w' := by
  have H := Lib.hid h
  unfold hv
  go_enter Try.func10, Try.ntmps10
  go_wp2_with fail
  refine (may_any a b c _).mono ?_; rintro e w1 ⟨rfl, hb1⟩
  go_wp2_with fail
  go_ret2
  exact ⟨rfl, Below.trans (by go_grown) (hb1.mono (by simp))⟩

set_option maxHeartbeats 800000 in
theorem encode_yes (a b c : Int) (w : World) (h : mayH a b c = true) : Calls Try.prog 10 #[hv a b c] w fun e w' => e = .returned (.tuple #[sv (hBytes a.toNat b.toNat c.toNat), .int .i64 0]) ∧ Below w.heap.size w w' := by
  obtain ⟨ha0, ha1, hb0, hb1, hc0, hc1⟩ := mayH_iff.1 h
  unfold hv
  go_enter Try.func10, Try.ntmps10
  go_wp2_with fail
  refine (may_any a b c _).mono ?_; rintro e w1 ⟨rfl, hw1⟩
  have hs1 : w.heap.size + 1 ≤ w1.heap.size := by have := hw1.size; simpa using this
  have hcell : ∀ j, j < 3 → w1.cell? ⟨w.heap.size, j, none⟩ = (w.alloc (.cells #[.int .i64 a, .int .i64 b, .int .i64 c] 23)).cell? ⟨w.heap.size, j, none⟩ := fun j _ => hw1.cell (p := ⟨w.heap.size, j, none⟩) (by simp)
  have c0 : w1.cell? ⟨w.heap.size, 0, none⟩ = some (.int .i64 a) := (hcell 0 (by omega)).trans (by simp)
  have c1 : w1.cell? ⟨w.heap.size, 1, none⟩ = some (.int .i64 b) := (hcell 1 (by omega)).trans (by simp)
  have c2 : w1.cell? ⟨w.heap.size, 2, none⟩ = some (.int .i64 c) := (hcell 2 (by omega)).trans (by simp)
  clear hcell
  go_wp2_with fail
  refine (numbers_any a b c _).mono ?_; rintro e w2 ⟨rfl, hw2⟩
  go_wp2_with fail
  go_loopw [4, 12] (fun v i wr => ∃ k : Nat, k ≤ 4 ∧ i = .int .i64 k ∧ wr.ownsRow w2.heap.size 5 1 v (4 * k) (bc (nbs ([1, a, b, c].take k))) ∧ Below w2.heap.size w2 wr) (fun _ i _ => 4 - (intOf i).toNat)
  case atStart => exact ⟨0, Nat.zero_le _, rfl, World.ownsRow_nil _ _ _ _, Below.refl _ _⟩
  case round =>
    obtain ⟨k, hk, rfl, hown, hbel⟩ := hrel
    have hbs := hbel.size
    by_cases hlt : k < 4
    · have hi := idx4 1 a b c k hlt
      have hx := getD_mem4 1 a b c k hlt (fun x => 0 ≤ x ∧ x ≤ 2147483647) (by omega) (by omega) (by omega) (by omega)
      have hs := nbs_snoc [1, a, b, c] k (by simpa using hlt)
      generalize [1, a, b, c].getD k 0 = x at hi hx hs
      obtain ⟨hx0, hx1⟩ := hx
      obtain ⟨x, rfl⟩ := Int.eq_ofNat_of_zero_le hx0
      have HS := Lib.hid hs
      clear hs
      go_wp2_with fail
      refine (put_any _ w2.heap.size _ (4 * k) _ x 4 (by omega) (by omega) (by omega) hown hbs).mono ?_; rintro e w3 ⟨v3, rfl, hown3, hb3⟩
      go_wp2_with fail
      go_roundw
      case rel =>
        refine ⟨k + 1, by omega, by go_num, ?_, hbel.trans hb3⟩
        rw [HS.out, bc_append]
        exact hown3
      case measure => simp [intOf]; omega
    · obtain rfl : k = 4 := by omega
      have hown4 : wr.ownsRow w2.heap.size 5 1 u4 16 (bc (h16 a.toNat b.toNat c.toNat)) := by
        have := hown
        rw [show [1, a, b, c].take 4 = [1, a, b, c] from rfl, nbs_h16] at this
        exact this
      clear hown
      go_wp2_with fail
      refine (sum_any _ _ _ (BytesV.of_own hown4)).mono ?_; rintro e w3 ⟨rfl, rfl⟩
      go_wp2_with fail
      refine (put_any _ w2.heap.size _ 16 _ _ 8 (fnv_lt _ (by decide)) (by omega) (by omega) hown4 hbs).mono ?_; rintro e w4 ⟨v4, rfl, hown5, hb5⟩
      rw [← bc_append] at hown5
      have hcv := (BytesV.of_own hown5).string (P := Try.prog) Try.underlying33 Try.underlying5 Try.underlying9
      go_wp2_with fail
      go_ret2
      refine ⟨rfl, Below.trans (Below.trans (by go_grown) (hw1.mono (by simp))) (Below.trans (hw2.mono ?_) ((hbel.trans hb5).mono ?_))⟩
      · omega
      · have := hw2.size; omega
end Go.Proofs.Ytchldgedpncggaa
