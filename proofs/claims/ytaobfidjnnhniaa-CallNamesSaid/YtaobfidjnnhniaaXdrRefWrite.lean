/- What the reference's writers of xdr compute (walks). Conditions: bounds of machine numbers; the sums of the lengths are at most 2^46. -/
import Derived.Test.YtaobfidjnnhniaaXdrText
namespace Go.Proofs.Ytaobfidjnnhniaa
set_option linter.unusedVariables false
set_option linter.unusedSimpArgs false
open Go.RowKit Pl

set_option maxHeartbeats 1600000 in
theorem refWord_any (v : Value) (l : List UInt8) (n : Nat) (w : World) (hl : BytesV w v l) (hn : n < 4294967296) (hsum : l.length + 4 ≤ 140737488355328) :
    Calls Try.prog 25 #[v, .int .u32 (n : Int)] w fun e w' => ∃ v', e = .returned v' ∧ BytesV w' v' (l ++ be 4 n) ∧ Below w.heap.size w w' := by
  obtain ⟨i0, hi, hz0, hz1, hz2⟩ := info_parts info_u8
  have hl0 := hl.alloc (.cells #[] 5)
  obtain ⟨A, c, rfl, hl1, hl2, hl3, hl4⟩ := hl
  have HL := Lib.hid hl0
  clear hl0 hl4 hl3
  go_enter Try.func25, Try.ntmps25
  go_wp2_with (with_reducible refine wpList_append_fresh rfl _ _ rfl Try.underlying58 hi hz0 hz1 hz2 rfl rfl rfl (heap_alloc_new w _) (Nat.le_refl _) HL.out (by omega) ?_)
  intro v1 w1 hown1 hw1
  have b1 : Below w.heap.size w w1 := Below.trans (by repeat' (first | (with_reducible exact Below.refl _ _) | (with_reducible assumption) | (with_reducible refine below_drewN ?_ _) | (with_reducible refine Below.alloc ?_ ?_ _) | (with_reducible refine Below.drew ?_) | (with_reducible refine Below.setCell ?_ ?_ _) | go_size)) (hw1.mono (by simp))
  have s1 := b1.size
  go_wp2_with fail
  go_loopw [5, 6] (fun v i wr => ∃ r : Nat, r ≤ 4 ∧ i = .int .i64 (3 - (r : Int)) ∧ wr.ownsRow w.heap.size 5 1 v (l.length + r) (bc (l ++ (be 4 n).take r)) ∧ Below w.heap.size w wr) (fun _ i _ => (intOf i + 1).toNat)
  case atStart => exact ⟨0, Nat.zero_le _, rfl, by simpa using hown1, b1⟩
  case round =>
    obtain ⟨r, hr, rfl, hown, hbel⟩ := hrel
    have hbs := hbel.size
    by_cases hlt : r < 4
    · go_wp2_with fail
      obtain ⟨wo, rfl⟩ : ∃ wo : World, wo = wr := ⟨_, rfl⟩
      go_loop [7, 8] (fun k j => ∃ q : Nat, q ≤ 3 - r ∧ j = .int .i64 (q : Int) ∧ k = .int .u32 ((n / 256 ^ q : Nat) : Int)) (fun _ j => (4 - intOf j).toNat)
      case atStart => exact ⟨0, Nat.zero_le _, rfl, by simp⟩
      case round =>
        obtain ⟨q, hq, rfl, rfl⟩ := hrel
        have hdv : n / 256 ^ q < 4294967296 := Nat.lt_of_le_of_lt (Nat.div_le_self _ _) hn
        by_cases hqt : q < 3 - r
        · have e : n / 256 ^ (q + 1) = n / 256 ^ q / 256 := by rw [Nat.pow_succ, Nat.div_div_eq_div_mul]
          have E := Lib.hid e
          clear e
          generalize n / 256 ^ q = x at hdv E
          go_wp2_with fail
          go_round
          case rel => exact ⟨q + 1, by omega, by go_num, by rw [E.out]; rfl⟩
          case measure => simp [intOf]; omega
        · have hq3 : q = 3 - r := by omega
          have ht := take_be n 4 r hlt
          have e : 4 - 1 - r = q := by omega
          rw [e] at ht
          have hb : (((UInt8.ofNat (n / 256 ^ q)).toNat : Nat) : Int) = ((n / 256 ^ q : Nat) : Int) % 256 := by rw [ofNat_toNat]; rfl
          generalize n / 256 ^ q = x at hdv ht hb
          have HT := Lib.hid ht
          have HB := Lib.hid hb
          have HQ := Lib.hid hq3
          clear ht hb hq3 e
          go_wp2_with (at_builtin; refine wpList_push rfl _ _ 58 rfl Try.underlying58 hi hz0 hz1 hz2 rfl rfl rfl hown rfl ?_ ?_ (by omega) ?_)
          · unfold maxLen; omega
          · omega
          · intro v2 w2 hown2 _ hw2
            go_wp2_with fail
            go_roundw
            case rel =>
              refine ⟨r + 1, hlt, by go_num, ?_, hbel.trans hw2⟩
              rw [HT.out, ← List.append_assoc, bc_append]
              simp only [bc, List.map_cons, List.map_nil, HB.out] at hown2 ⊢
              exact hown2
            case measure => simp [intOf]; omega
    · obtain rfl : r = 4 := by omega
      go_wp2_with fail
      go_ret
      rw [List.take_of_length_le (by simp)] at hown
      exact ⟨_, rfl, BytesV.of_own hown, hbel⟩
end Go.Proofs.Ytaobfidjnnhniaa
