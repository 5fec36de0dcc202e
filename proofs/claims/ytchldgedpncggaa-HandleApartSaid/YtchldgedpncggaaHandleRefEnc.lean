/- What the reference's Encode computes (walk). Conditions: bounds of machine numbers. -/
import Derived.Test.YtchldgedpncggaaHandleRef
namespace Go.Proofs.Ytchldgedpncggaa
set_option linter.unusedVariables false
set_option linter.unusedSimpArgs false
open Go.RowKit Pl
attribute [local go_sem] ba_app

theorem word_int (n : Int) (w : World) (h0 : 0 ≤ n) (hn : n < 9223372036854775808) : Calls Try.prog 23 #[.int .i64 n] w fun e w' => e = .returned (sv (be 4 n.toNat)) ∧ Below w.heap.size w w' := by
  obtain ⟨k, rfl⟩ := Int.eq_ofNat_of_zero_le h0
  rw [Int.toNat_natCast]
  exact word_any k w (by omega)

set_option maxHeartbeats 400000 in
theorem encodeR_no (a b c : Int) (w : World) (h : mayH a b c = false) : Calls Try.prog 11 #[hv a b c] w fun e w' => e = .returned (.tuple #[sv [], .int .i64 4]) ∧ Below w.heap.size w w' := by
  have H := Lib.hid h
  unfold hv
  go_enter Try.func11, Try.ntmps11
  go_wp2_with fail
  refine (mayR_any a b c _).mono ?_; rintro e w1 ⟨rfl, hb1⟩
  go_wp2_with fail
  go_ret2
  exact ⟨rfl, Below.trans (by go_grown) (hb1.mono (by simp))⟩

set_option maxHeartbeats 1600000 in
theorem encodeR_yes (a b c : Int) (w : World) (h : mayH a b c = true) : Calls Try.prog 11 #[hv a b c] w fun e w' => e = .returned (.tuple #[sv (hBytes a.toNat b.toNat c.toNat), .int .i64 0]) ∧ Below w.heap.size w w' := by
  obtain ⟨ha0, ha1, hb0, hb1, hc0, hc1⟩ := mayH_iff.1 h
  unfold hv
  go_enter Try.func11, Try.ntmps11
  go_wp2_with fail
  refine (mayR_any a b c _).mono ?_; rintro e w1 ⟨rfl, hw1⟩
  have hs1 : w.heap.size + 1 ≤ w1.heap.size := by have := hw1.size; simpa using this
  have hcell : ∀ j, j < 3 → w1.cell? ⟨w.heap.size, j, none⟩ = (w.alloc (.cells #[.int .i64 a, .int .i64 b, .int .i64 c] 23)).cell? ⟨w.heap.size, j, none⟩ := fun j _ => hw1.cell (p := ⟨w.heap.size, j, none⟩) (by simp)
  have c0 : ∀ n : Ext w1, n.W.cell? ⟨w.heap.size, 0, none⟩ = some (.int .i64 a) := Ext.cell ((hcell 0 (by omega)).trans (by simp)) (by simp; omega)
  have c1 : ∀ n : Ext w1, n.W.cell? ⟨w.heap.size, 1, none⟩ = some (.int .i64 b) := Ext.cell ((hcell 1 (by omega)).trans (by simp)) (by simp; omega)
  have c2 : ∀ n : Ext w1, n.W.cell? ⟨w.heap.size, 2, none⟩ = some (.int .i64 c) := Ext.cell ((hcell 2 (by omega)).trans (by simp)) (by simp; omega)
  clear hcell
  go_wp2_with fail
  refine wp_region_ext (by kernel_rfl) (by kernel_rfl) ?_
  repeat (go_big_quiet_step ((go_at_call 23; exact Ext.of_call (word_int _ _ (by omega) (by omega)))))
  refine wpQuiet_nil ?_
  intro n1
  rw [show be 4 1 ++ (be 4 a.toNat ++ (be 4 b.toNat ++ be 4 c.toNat)) = h16 a.toNat b.toNat c.toNat from rfl]
  have hL : (h16 a.toNat b.toNat c.toNat).length ≤ 16 := by rw [h16_length]; omega
  generalize hLe : h16 a.toNat b.toNat c.toNat = L at hL
  have HL := Lib.hid hLe
  clear hLe
  go_wp2_with fail
  go_loop [5, 6] (fun u i => ∃ k : Nat, k ≤ L.length ∧ i = .int .i64 k ∧ u = .int .u64 (fnv fnv0 (L.take k) : Int)) (fun _ i => L.length - (intOf i).toNat)
  case atStart => exact ⟨0, Nat.zero_le _, rfl, rfl⟩
  case round =>
    obtain ⟨k, hk, rfl, rfl⟩ := hrel
    by_cases hlt : k < L.length
    · go_wp2_with fail
      go_round
      case rel =>
        refine ⟨k + 1, hlt, by go_num, ?_⟩
        rw [take_snoc L k hlt, fnv_snoc, ← fnv_step _ _ (fnv_lt _ (by decide))]
        rfl
      case measure => simp [intOf]; omega
    · obtain rfl : k = L.length := by omega
      rw [List.take_length]
      have hF := fnv_lt L (u := fnv0) (by decide)
      have e8 := be8 (fnv fnv0 L)
      have eh : hBytes a.toNat b.toNat c.toNat = L ++ be 8 (fnv fnv0 L) := by unfold hBytes; rw [HL.out]
      rw [e8] at eh
      have EH := Lib.hid eh
      clear eh e8
      generalize fnv fnv0 L = F at hF EH
      go_wp2_with fail
      refine (word_int _ _ (by omega) (by omega)).mono ?_; rintro e w3 ⟨rfl, hw3⟩
      go_wp2_with fail
      refine (word_int _ _ (by omega) (by omega)).mono ?_; rintro e w4 ⟨rfl, hw4⟩
      go_wp2_with fail
      go_ret2
      refine ⟨?_, ?_⟩
      · rw [EH.out]
        rfl
      · exact Below.trans (Below.trans (by go_grown) (hw1.mono (by simp))) ((n1.below.mono (by omega)).trans ((hw3.mono (by have := n1.below.size; omega)).trans (hw4.mono (by have := n1.below.size; have := hw3.size; omega))))
end Go.Proofs.Ytchldgedpncggaa
