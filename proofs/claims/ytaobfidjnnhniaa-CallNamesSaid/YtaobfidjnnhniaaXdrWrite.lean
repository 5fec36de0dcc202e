/- What the writers of xdr compute (walks). Conditions: bounds of machine numbers; the sums of the lengths are at most 2^46. -/
import Derived.Test.YtaobfidjnnhniaaSlices
import Derived.Test.YtaobfidjnnhniaaBe
namespace Go.Proofs.Ytaobfidjnnhniaa
set_option linter.unusedVariables false
set_option linter.unusedSimpArgs false
open Go.RowKit Pl


theorem xword_any (n : Nat) (w : World) (hn : n < 4294967296) : Calls Try.prog 35 #[.int .u32 (n : Int)] w fun e w' => e = .returned (.agg (bc (be 4 n)).toArray) ∧ Below w.heap.size w w' := by
  have hb : (bc (be 4 n)).toArray = (#[.int .u8 ((n : Int) / 16777216), .int .u8 ((n : Int) / 65536 % 256), .int .u8 ((n : Int) / 256 % 256), .int .u8 ((n : Int) % 256)] : Array Value) := by
    rw [be4]
    have e : ((n / 16777216 : Nat) : Int) % 256 = (n : Int) / 16777216 := by omega
    simp only [bc, List.map_cons, List.map_nil, b_int, e]
    rfl
  have HB := Lib.hid hb
  clear hb
  go_enter Try.func35, Try.ntmps35
  go_wp2
  go_returns
  rw [HB.out]
  exact ⟨rfl, by go_grown⟩

set_option maxHeartbeats 400000 in
theorem put_any (v m : Value) (l k : List UInt8) (w : World) (hl : BytesV w v l) (hk : BytesV w m k) (hsum : l.length + k.length ≤ 140737488355328) :
    Calls Try.prog 36 #[v, m] w fun e w' => ∃ v', e = .returned v' ∧ BytesV w' v' (l ++ k) ∧ Below w.heap.size w w' ∧ (k ≠ [] → RowB w' w.heap.size v' (l ++ k)) := by
  obtain ⟨i0, hi, hz0, hz1, hz2⟩ := info_parts info_u8
  have hl0 := hl
  have hk0 := hk
  obtain ⟨A, c, rfl, hl1, hl2, hl3, hl4⟩ := hl
  obtain ⟨B, d, rfl, hk1, hk2, hk3, hk4⟩ := hk
  have hl' : BytesV w (.slice A l.length l.length) l := ⟨A, l.length, rfl, Nat.le_refl _, by unfold maxLen; omega, fun h => by have := hl3 h; omega, hl4⟩
  have HL := Lib.hid hl'
  have HK := Lib.hid hk0
  unfold maxLen at hl2
  clear hl0 hl' hk0 hl3 hl4 hk3 hk4
  go_enter Try.func36, Try.ntmps36
  go_wp2_with (with_reducible refine wpList_append_cat rfl _ _ rfl Try.underlying58 hi hz0 hz1 hz2 rfl rfl rfl rfl HL.out HK.out hsum ?_)
  intro v' w' h1 h2 h3
  have H3 := Lib.hid h3
  clear h3
  go_wp2_with fail
  go_ret
  exact ⟨_, rfl, h1, h2, H3.out⟩

theorem bytesV_block (w : World) (l : List UInt8) (t : TypeId) (hl : l.length ≤ maxLen) : BytesV (w.alloc (.cells (bc l).toArray t)) (.slice (some ⟨w.heap.size, 0, none⟩) l.length l.length) l :=
  (rowB_new w _ t l l.length (Nat.le_refl _) hl (fun k hk => by rw [List.getElem?_toArray, bc_get _ _ hk])).bytes

theorem be_ne (k n : Nat) (h : 0 < k) : be k n ≠ [] := by
  intro e
  have := congrArg List.length e
  rw [be_length] at this
  simp at this
  omega

set_option maxHeartbeats 400000 in
theorem Word_any (v : Value) (l : List UInt8) (n : Int) (w : World) (hl : BytesV w v l) (h0 : 0 ≤ n) (hn : n < 4294967296) (hsum : l.length + 4 ≤ 140737488355328) :
    Calls Try.prog 22 #[v, .int .u32 n] w fun e w' => ∃ v', e = .returned v' ∧ RowB w' w.heap.size v' (l ++ be 4 n.toNat) ∧ Below w.heap.size w w' := by
  obtain ⟨n, rfl⟩ := Int.eq_ofNat_of_zero_le h0
  rw [Int.toNat_natCast]
  obtain ⟨x0, x1, x2, x3, hx⟩ : ∃ x0 x1 x2 x3, be 4 n = [x0, x1, x2, x3] := ⟨_, _, _, _, be4 n⟩
  have XW := fun W : World => xword_any n W (by omega)
  rw [hx]
  rw [hx] at XW
  simp only [bc, List.map_cons, List.map_nil] at XW
  have X := Lib.hid XW
  clear XW hx
  go_enter Try.func22, Try.ntmps22
  go_wp2_with fail
  refine (X.out _).mono ?_; rintro e w1 ⟨rfl, hw1⟩
  go_wp2_with fail
  have hbv := bytesV_block w1 [x0, x1, x2, x3] 69 (by unfold maxLen; simp)
  have hb1 : Below w.heap.size w (w1.alloc (.cells (bc [x0, x1, x2, x3]).toArray 69)) := hw1.alloc hw1.size _
  refine (put_any _ _ l [x0, x1, x2, x3] _ (hl.below hb1) hbv (by simp; omega)).mono ?_; rintro e w2 ⟨v2, rfl, _, hw2, hrow⟩
  have hrow' := hrow (by simp)
  clear hrow
  go_wp2_with fail
  go_ret
  refine ⟨_, rfl, ?_, chain hb1 hw2⟩
  obtain ⟨g, c, h1, h2, h3⟩ := hrow'
  exact ⟨g, c, h1, by have := hb1.size; omega, h3⟩
end Go.Proofs.Ytaobfidjnnhniaa
