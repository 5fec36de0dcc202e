/- Roots: jettyref06.Long, ring.Seal, jettyref09.Seal, the places. Conditions: bounds of machine numbers. -/
import Derived.Test.YteoomhkdffnkkaaBlkRefOpen
import Derived.Test.YteoomhkdffnkkaaXdrWrite2
namespace Go.Proofs.Yteoomhkdffnkkaa
set_option linter.unusedVariables false
set_option linter.unusedSimpArgs false
open Go.ChangeShapes Go.WideShapes Go.ChangeAt Go.RowKit Pl
attribute [local go_sem] ba_toList ba_size zeroValueB
set_option maxRecDepth 100000

/-- A root, as a value. -/
abbrev rootV (t : Int) (l : List UInt8) : Value := .agg #[.int .i64 t, sv l]
def rSum (l : List UInt8) : List UInt8 := be 8 (fnv fnv0 l)
def rsE (t : Int) (l : List UInt8) : Int := if t < 1 ∨ 2147483647 < t then 1 else if 492 < l.length then 40 else 0
def rsL (t : Int) (l : List UInt8) : List UInt8 := if rsE t l = 0 then sealL 3 t (rSum l ++ l) else zs 512
theorem rsL_len (t : Int) (l : List UInt8) : (rsL t l).length = 512 := by
  unfold rsL
  by_cases h : rsE t l = 0
  · rw [if_pos h]; exact sealL_len _ _ _
  · rw [if_neg h]; simp
theorem rsE_ok {t : Int} {l : List UInt8} (h : rsE t l = 0) : 1 ≤ t ∧ t ≤ 2147483647 ∧ l.length ≤ 492 := by
  unfold rsE at h
  by_cases h1 : t < 1 ∨ 2147483647 < t
  · rw [if_pos h1] at h; omega
  · rw [if_neg h1] at h
    by_cases h2 : 492 < l.length
    · rw [if_pos h2] at h; omega
    · omega
theorem rSum_len (l : List UInt8) : (rSum l).length = 8 := be_length _ _
theorem sealE_of {t : Int} {l : List UInt8} (h : rsE t l = 0) : sealE t (rSum l ++ l) = 0 := by
  obtain ⟨h0, h1, h2⟩ := rsE_ok h
  unfold sealE
  rw [if_neg (by omega), if_neg (by rw [List.length_append, rSum_len]; omega)]

/-- jettyref06.Long. -/
theorem shr_byte (n k : Nat) (hn : n < 18446744073709551616) (hk : k < 8) : IntKind.u8.wrap ((n : Int) / 2 ^ (56 - 8 * k)) = (((be 8 n)[k]'(by rw [be_length]; exact hk)).toNat : Int) := by
  rw [IntKind.wrap_u8]
  have e : (be 8 n)[k]'(by rw [be_length]; exact hk) = UInt8.ofNat (n / 256 ^ (7 - k)) := by
    obtain rfl | rfl | rfl | rfl | rfl | rfl | rfl | rfl : k = 0 ∨ k = 1 ∨ k = 2 ∨ k = 3 ∨ k = 4 ∨ k = 5 ∨ k = 6 ∨ k = 7 := by omega
    all_goals rfl
  rw [e, byte_int, show 56 - 8 * k = 8 * (7 - k) from by omega]

/-- In block g lie just these bytes (a slice's row). -/
def Row8 (w : World) (g : Nat) (l : List UInt8) : Prop := w.heap[g]? = some (.cells (ac l) 5 (0, 0))
theorem Row8.set {w : World} {g : Nat} {l : List UInt8} (h : Row8 w g l) {j : Nat} (x : UInt8) : Row8 (w.setCell ⟨g, j, none⟩ (.int .u8 (x.toNat : Int))) g (l.set j x) := by
  have := heap_setCell_same w g j (ac l) 5 (.int .u8 (x.toNat : Int)) h
  refine this.trans ?_
  congr 3
  unfold ac
  simp [bc, List.map_set]
theorem be8_set (n : Nat) (q : Nat) (hq : q < 8) : ((be 8 n).take q ++ zs (8 - q)).set q ((be 8 n)[q]'(by rw [be_length]; exact hq)) = (be 8 n).take (q + 1) ++ zs (8 - (q + 1)) := by
  have hl : (be 8 n).length = 8 := be_length _ _
  have hm : min q (be 8 n).length = q := by omega
  rw [List.set_append_right _ _ (by simp; omega), List.length_take, hm, Nat.sub_self, List.take_succ_eq_append_getElem (by omega), List.append_assoc]
  congr 1
  unfold zs
  rw [show 8 - q = (8 - (q + 1)) + 1 from by omega, List.replicate_succ]
  rfl
theorem mk8 : ∀ w : World, (Instr.makeSlice 54 (.int .i64 8) (.int .i64 8)).run Try.prog w = .ok (.slice (some ⟨w.heap.size, 0, none⟩) 8 8) (w.alloc (.cells (ac (zs 8)) 5)) := fun _ => by kernel_rfl

set_option maxHeartbeats 3200000 in
theorem flong_any (n : Nat) (w : World) (hn : n < 18446744073709551616) : Calls Try.prog 42 #[.int .u64 (n : Int)] w fun e w' => e = .returned (sv (be 8 n)) ∧ Below w.heap.size w w' := by
  have hmk := mk8
  have hR : Row8 (w.alloc (.cells (ac (zs 8)) 5)) w.heap.size (zs 8) := heap_alloc_new w _
  have HR := Lib.hid hR
  clear hR
  go_enter Try.func42, Try.ntmps42
  go_wp2_with fail
  go_loopw [4] (fun i W => ∃ q : Nat, q ≤ 8 ∧ i = .int .i64 q ∧ Row8 W w.heap.size ((be 8 n).take q ++ zs (8 - q)) ∧ Below w.heap.size w W) (fun i _ => 8 - (intOf i).toNat)
  case atStart => exact ⟨0, by omega, rfl, HR.out, by repeat' (first | (with_reducible exact Below.refl _ _) | (with_reducible assumption) | (with_reducible refine below_drewN ?_ _) | (with_reducible refine Below.alloc ?_ ?_ _) | (with_reducible refine Below.drew ?_) | (with_reducible refine Below.setCell ?_ ?_ _) | go_size)⟩
  case round =>
    obtain ⟨q, hq, rfl, hRq, bW⟩ := hrel
    by_cases hlt : q < 8
    · have hcell := cell_of_row _ _ q _ _ _ hRq
      have hlen : ((be 8 n).take q ++ zs (8 - q)).length = 8 := by simp; omega
      rw [ac_get _ q (by omega)] at hcell
      have hf := frozen_of_row _ _ q _ _ hRq
      have hnew := hRq.set (j := q) ((be 8 n)[q]'(by rw [be_length]; exact hlt))
      rw [be8_set n q hlt, ← shr_byte n q hn hlt] at hnew
      have HN := Lib.hid hnew
      generalize ((((be 8 n).take q ++ zs (8 - q))[q]'(by omega)).toNat : Int) = old at hcell
      clear hRq hnew hlen
      have lW : w.heap.size ≤ wr.heap.size := bW.size
      rcases (by omega : q = 0 ∨ q = 1 ∨ q = 2 ∨ q = 3 ∨ q = 4 ∨ q = 5 ∨ q = 6 ∨ q = 7) with rfl | rfl | rfl | rfl | rfl | rfl | rfl | rfl
      · go_wp2_with fail
        have h := HN.out
        rw [show IntKind.u8.wrap ((n : Int) / 2 ^ (56 - 8 * 0)) = (n : Int) / 72057594037927936 from by rw [IntKind.wrap_u8]; omega] at h
        exact ⟨⟨1, by omega, rfl, h, bW.setCell (Nat.le_refl _) _⟩, by simp [intOf]⟩
      · go_wp2_with fail
        have h := HN.out
        rw [show IntKind.u8.wrap ((n : Int) / 2 ^ (56 - 8 * 1)) = (n : Int) / 281474976710656 % 256 from by rw [IntKind.wrap_u8]; omega] at h
        exact ⟨⟨2, by omega, rfl, h, bW.setCell (Nat.le_refl _) _⟩, by simp [intOf]⟩
      · go_wp2_with fail
        have h := HN.out
        rw [show IntKind.u8.wrap ((n : Int) / 2 ^ (56 - 8 * 2)) = (n : Int) / 1099511627776 % 256 from by rw [IntKind.wrap_u8]; omega] at h
        exact ⟨⟨3, by omega, rfl, h, bW.setCell (Nat.le_refl _) _⟩, by simp [intOf]⟩
      · go_wp2_with fail
        have h := HN.out
        rw [show IntKind.u8.wrap ((n : Int) / 2 ^ (56 - 8 * 3)) = (n : Int) / 4294967296 % 256 from by rw [IntKind.wrap_u8]; omega] at h
        exact ⟨⟨4, by omega, rfl, h, bW.setCell (Nat.le_refl _) _⟩, by simp [intOf]⟩
      · go_wp2_with fail
        have h := HN.out
        rw [show IntKind.u8.wrap ((n : Int) / 2 ^ (56 - 8 * 4)) = (n : Int) / 16777216 % 256 from by rw [IntKind.wrap_u8]; omega] at h
        exact ⟨⟨5, by omega, rfl, h, bW.setCell (Nat.le_refl _) _⟩, by simp [intOf]⟩
      · go_wp2_with fail
        have h := HN.out
        rw [show IntKind.u8.wrap ((n : Int) / 2 ^ (56 - 8 * 5)) = (n : Int) / 65536 % 256 from by rw [IntKind.wrap_u8]; omega] at h
        exact ⟨⟨6, by omega, rfl, h, bW.setCell (Nat.le_refl _) _⟩, by simp [intOf]⟩
      · go_wp2_with fail
        have h := HN.out
        rw [show IntKind.u8.wrap ((n : Int) / 2 ^ (56 - 8 * 6)) = (n : Int) / 256 % 256 from by rw [IntKind.wrap_u8]; omega] at h
        exact ⟨⟨7, by omega, rfl, h, bW.setCell (Nat.le_refl _) _⟩, by simp [intOf]⟩
      · go_wp2_with fail
        have h := HN.out
        rw [show IntKind.u8.wrap ((n : Int) / 2 ^ (56 - 8 * 7)) = (n : Int) % 256 from by rw [IntKind.wrap_u8]; omega] at h
        exact ⟨⟨8, by omega, rfl, h, bW.setCell (Nat.le_refl _) _⟩, by simp [intOf]⟩
    · obtain rfl : q = 8 := by omega
      have hb : BytesV wr (.slice (some ⟨w.heap.size, 0, none⟩) 8 8) (be 8 n) := by
        rw [List.take_of_length_le (by simp)] at hRq
        have hRq : Row8 wr w.heap.size (be 8 n) := by simpa [zs] using hRq
        exact ⟨_, 8, by rw [be_length], by rw [be_length]; omega, by unfold maxLen; omega, (fun h => by cases h), fun _ => ⟨w.heap.size, 0, rfl, (Array.getElem?_eq_some_iff.1 hRq).1, fun k hk => by rw [Nat.zero_add, cell_of_row _ _ k _ _ _ hRq, ac_get _ k hk]⟩⟩
      have hcv := hb.string (P := Try.prog) Try.underlying54 Try.underlying5 Try.underlying9
      clear hb hRq
      go_wp2_with fail
      go_ret
      exact ⟨rfl, bW⟩
end Go.Proofs.Yteoomhkdffnkkaa
