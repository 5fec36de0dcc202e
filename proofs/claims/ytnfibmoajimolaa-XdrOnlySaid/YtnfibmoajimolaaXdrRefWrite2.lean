/- What the reference's writers of xdr compute, further on (walks). Conditions: bounds of machine numbers; the sums of the lengths are at most 2^46. -/
import Derived.Test.YtnfibmoajimolaaXdrRefWrite
import Derived.Lib.AppendStr
namespace Go.Proofs.Ytnfibmoajimolaa
set_option linter.unusedVariables false
set_option linter.unusedSimpArgs false
open Go.RowKit Pl
attribute [local go_sem] ba_size

theorem refWord_int (v : Value) (l : List UInt8) (n : Int) (w : World) (hl : BytesV w v l) (h0 : 0 ≤ n) (hn : n < 4294967296) (hsum : l.length + 4 ≤ 140737488355328) :
    Calls Try.prog 15 #[v, .int .u32 n] w fun e w' => ∃ v', e = .returned v' ∧ BytesV w' v' (l ++ be 4 n.toNat) ∧ Below w.heap.size w w' := by
  obtain ⟨n, rfl⟩ := Int.eq_ofNat_of_zero_le h0
  exact refWord_any v l n w hl (by omega) hsum

theorem refLong_any (v : Value) (l : List UInt8) (n : Int) (w : World) (hl : BytesV w v l) (h0 : 0 ≤ n) (hn : n < 18446744073709551616) (hsum : l.length + 8 ≤ 140737488355328) :
    Calls Try.prog 16 #[v, .int .u64 n] w fun e w' => ∃ v', e = .returned v' ∧ BytesV w' v' (l ++ be 8 n.toNat) ∧ Below w.heap.size w w' := by
  have e8 : be 8 n.toNat = be 4 (n / 4294967296).toNat ++ be 4 (n % 4294967296).toNat := by
    obtain ⟨n, rfl⟩ := Int.eq_ofNat_of_zero_le h0
    rw [be8]
    rfl
  rw [e8]
  clear e8
  go_enter Try.func16, Try.ntmps16
  go_wp2_with fail
  refine (refWord_int _ l _ _ hl (by omega) (by omega) (by omega)).mono ?_; rintro e w1 ⟨v1, rfl, hr1, hw1⟩
  go_wp2_with fail
  refine (refWord_int _ (l ++ be 4 (n / 4294967296).toNat) _ _ hr1 (by omega) (by omega) (by simp; omega)).mono ?_; rintro e w2 ⟨v2, rfl, hr2, hw2⟩
  go_wp2_with fail
  go_ret
  refine ⟨_, rfl, ?_, hw1.trans (hw2.mono hw1.size)⟩
  rw [← List.append_assoc]
  exact hr2

theorem refInt_any (v : Value) (l : List UInt8) (n : Int) (w : World) (hl : BytesV w v l) (hsum : l.length + 8 ≤ 140737488355328) :
    Calls Try.prog 17 #[v, .int .i64 n] w fun e w' => ∃ v', e = .returned v' ∧ BytesV w' v' (l ++ be 8 (IntKind.u64.wrap n).toNat) ∧ Below w.heap.size w w' := by
  go_enter Try.func17, Try.ntmps17
  go_wp2_with fail
  refine (refLong_any _ l _ _ hl (wrap_u64_nonneg n) (by rw [IntKind.wrap_u64]; omega) hsum).mono ?_; rintro e w1 ⟨v1, rfl, hr1, hw1⟩
  go_wp2_with fail
  go_ret
  exact ⟨_, rfl, hr1, hw1⟩

theorem refFlag_any (v : Value) (l : List UInt8) (b : Bool) (w : World) (hl : BytesV w v l) (hsum : l.length + 4 ≤ 140737488355328) :
    Calls Try.prog 18 #[v, .bool b] w fun e w' => ∃ v', e = .returned v' ∧ BytesV w' v' (l ++ be 4 b.toNat) ∧ Below w.heap.size w w' := by
  cases b
  · go_enter Try.func18, Try.ntmps18
    go_wp2_with fail
    refine (refWord_int _ l _ _ hl (by omega) (by omega) hsum).mono ?_; rintro e w1 ⟨v1, rfl, hr1, hw1⟩
    go_wp2_with fail
    go_ret
    exact ⟨_, rfl, hr1, hw1⟩
  · go_enter Try.func18, Try.ntmps18
    go_wp2_with fail
    refine (refWord_int _ l _ _ hl (by omega) (by omega) hsum).mono ?_; rintro e w1 ⟨v1, rfl, hr1, hw1⟩
    go_wp2_with fail
    go_ret
    exact ⟨_, rfl, hr1, hw1⟩

theorem zeros_succ (n : Nat) : zeros (n + 1) = zeros n ++ [0] := by
  unfold zeros; rw [List.replicate_succ']

set_option maxHeartbeats 1600000 in
theorem refFixed_any (v : Value) (l k : List UInt8) (w : World) (hl : BytesV w v l) (hsum : l.length + k.length + 8 ≤ 140737488355328) :
    Calls Try.prog 20 #[v, sv k] w fun e w' => ∃ v', e = .returned v' ∧ BytesV w' v' (l ++ fixB k) ∧ Below w.heap.size w w' := by
  obtain ⟨i0, hi, hz0, hz1, hz2⟩ := info_parts info_u8
  have hl0 := hl.alloc (.cells #[] 5)
  obtain ⟨A, c, rfl, hl1, hl2, hl3, hl4⟩ := hl
  have HL := Lib.hid hl0
  clear hl0 hl4 hl3
  have hkm : k.length ≤ 9223372036854775000 := by omega
  have hks : (Lib.strCells ⟨k.toArray⟩) = bc k := rfl
  go_enter Try.func20, Try.ntmps20
  go_wp2_with (with_reducible refine wpList_append_fresh rfl _ _ rfl Try.underlying22 hi hz0 hz1 hz2 rfl rfl rfl (heap_alloc_new w _) (Nat.le_refl _) HL.out (by omega) ?_)
  intro v1 w1 hown1 hw1
  have b1 : Below w.heap.size w w1 := Below.trans (by repeat' (first | (with_reducible exact Below.refl _ _) | (with_reducible assumption) | (with_reducible refine below_drewN ?_ _) | (with_reducible refine Below.alloc ?_ ?_ _) | (with_reducible refine Below.drew ?_) | (with_reducible refine Below.setCell ?_ ?_ _) | go_size)) (hw1.mono (by simp))
  have s1 := b1.size
  go_wp2_with (at_builtin; refine Lib.wpList_append_own_string (w := w1) rfl _ _ 22 9 rfl w.heap.size 5 i0 Try.underlying22 Try.underlying9 hi hz0 hz1 hz2 v1 l.length (bc l) rfl hown1 ⟨k.toArray⟩ rfl ?_ ?_ s1 ?_)
  · rw [ba_size]; unfold maxLen; omega
  · rw [ba_size]; omega
  intro v2 w2 hown2 hgr2 _
  rw [← bc_append] at hown2
  have b2 : Below w.heap.size w w2 := b1.grown hgr2 s1 (fun k hk => (hown1.lt k hk).1)
  have s2 := b2.size
  clear hgr2 hks
  go_wp2_with fail
  go_loopw [5, 6] (fun v i wr => ∃ r : Nat, r ≤ padN k.length ∧ i = .int .i64 ((k.length + r : Nat) : Int) ∧ wr.ownsRow w.heap.size 5 1 v (l.length + k.length + r) (bc (l ++ k ++ zeros r)) ∧ Below w.heap.size w wr)
    (fun _ i _ => (((k.length + padN k.length : Nat) : Int) - intOf i).toNat)
  case atStart => exact ⟨0, Nat.zero_le _, rfl, by simpa [zeros] using hown2, b2⟩
  case round =>
    obtain ⟨r, hr, rfl, hown, hbel⟩ := hrel
    have hbs := hbel.size
    have hp4 := padN_lt k.length
    by_cases hlt : r < padN k.length
    · have h1 : (((k.length + r : Nat) : Int) % 4 != 0) = true := by
        rw [bne_iff_ne]; unfold padN at hlt; omega
      have hb : ((k.length + r : Nat) : Int) ≤ 9223372036854775100 := by omega
      generalize hy : k.length + r = y at h1 hb
      have HY := Lib.hid hy
      clear hy
      go_wp2_with (at_builtin; refine wpList_push rfl _ _ 22 rfl Try.underlying22 hi hz0 hz1 hz2 rfl rfl rfl hown rfl ?_ ?_ (by omega) ?_)
      · unfold maxLen; omega
      · omega
      · intro v3 w3 hown3 _ hw3
        go_wp2_with fail
        go_roundw
        case rel =>
          refine ⟨r + 1, hlt, ?_, ?_, hbel.trans hw3⟩
          · have := HY.out; rw [show k.length + (r + 1) = y + 1 from by omega]; go_num
          · rw [zeros_succ, ← List.append_assoc, bc_append, List.append_assoc l k]
            exact hown3
        case measure => have := HY.out; simp [intOf]; omega
    · obtain rfl : r = padN k.length := by omega
      have h1 : (((k.length + padN k.length : Nat) : Int) % 4 != 0) = false := by
        rw [bne_eq_false_iff_eq]; unfold padN; omega
      have hv := BytesV.of_own hown
      have hb : ((k.length + padN k.length : Nat) : Int) ≤ 9223372036854775100 := by omega
      generalize k.length + padN k.length = y at h1 hb
      go_wp2_with fail
      go_ret
      refine ⟨_, rfl, ?_, hbel⟩
      unfold fixB
      rw [← List.append_assoc]
      exact hv

theorem refText_any (v : Value) (l k : List UInt8) (w : World) (hl : BytesV w v l) (hsum : l.length + k.length + 16 ≤ 140737488355328) :
    Calls Try.prog 19 #[v, sv k] w fun e w' => ∃ v', e = .returned v' ∧ BytesV w' v' (l ++ textB k) ∧ Below w.heap.size w w' := by
  go_enter Try.func19, Try.ntmps19
  go_wp2_with fail
  refine (refWord_int _ l _ _ hl (wrap_u32_nonneg _) (by rw [IntKind.wrap_u32]; omega) (by omega)).mono ?_; rintro e w1 ⟨v1, rfl, hr1, hw1⟩
  rw [be4_u32] at hr1
  go_wp2_with fail
  refine (refFixed_any _ (l ++ be 4 k.length) k _ hr1 (by simp; omega)).mono ?_; rintro e w2 ⟨v2, rfl, hr2, hw2⟩
  go_wp2_with fail
  go_ret
  refine ⟨_, rfl, ?_, chain hw1 hw2⟩
  unfold textB
  rw [← List.append_assoc]
  exact hr2
end Go.Proofs.Ytnfibmoajimolaa
