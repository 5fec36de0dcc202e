/- block.Seal. -/
import Derived.Test.YteoomhkdffnkkaaBlkNum
namespace Go.Proofs.Yteoomhkdffnkkaa
set_option linter.unusedVariables false
set_option linter.unusedSimpArgs false
open Go.ChangeShapes Go.WideShapes Go.ChangeAt Go.RowKit Pl
attribute [local go_sem] ba_toList ba_size zeroValueB

/-- The bytes of a sealed block. -/
def sealB (k : UInt8) (b : Int) (l : List UInt8) : List UInt8 := [106, 116, 116, 121, k, 0, UInt8.ofNat (l.length / 256), UInt8.ofNat l.length] ++ be 4 b.toNat ++ l ++ zs (500 - l.length)
def sealE (b : Int) (l : List UInt8) : Int := if b < 0 ∨ 2147483647 < b then 1 else if 500 < l.length then 40 else 0
def sealL (k : UInt8) (b : Int) (l : List UInt8) : List UInt8 := if sealE b l = 0 then sealB k b l else zs 512
theorem sealB_len {k : UInt8} {b : Int} {l : List UInt8} (h : l.length ≤ 500) : (sealB k b l).length = 512 := by
  unfold sealB
  simp
  omega
theorem sealL_len (k : UInt8) (b : Int) (l : List UInt8) : (sealL k b l).length = 512 := by
  unfold sealL
  by_cases h : sealE b l = 0
  · rw [if_pos h]
    refine sealB_len ?_
    unfold sealE at h
    by_cases h1 : b < 0 ∨ 2147483647 < b
    · rw [if_pos h1] at h; omega
    · rw [if_neg h1] at h
      by_cases h2 : 500 < l.length
      · rw [if_pos h2] at h; omega
      · omega
  · rw [if_neg h]
    simp

set_option maxRecDepth 100000 in
set_option maxHeartbeats 3200000 in
theorem seal_any (k : UInt8) (b : Int) (l : List UInt8) (w : World) (hl : l.length ≤ 9223372036854775807) :
    Calls Try.prog 19 #[.int .u8 (k.toNat : Int), .int .i64 b, sv l] w fun r w' => r = .returned (.tuple #[blk (sealL k b l), .int .i64 (sealE b l)]) ∧ Below w.heap.size w w' := by
  by_cases hb : b < 0
  · have L6 := (Lies.new w (zs 512) _ rfl).alloc (.cells (ac (zs 512)) 25)
    have L8 := Lies.new (w.alloc (.cells (ac (zs 512)) 25)) (zs 512) (w.heap.size + 1) (by simp)
    have H6 := Lib.hid L6
    have H8 := Lib.hid L8
    have hE : sealE b l = 1 := if_pos (.inl hb)
    have hL : sealL k b l = zs 512 := if_neg (by rw [hE]; decide)
    rw [hE, hL]
    clear L6 L8 hE hL
    go_enter Try.func19, Try.ntmps19
    go_wp2_with (first | (with_reducible refine wpList_load_blk rfl _ rfl rfl H8.out (zs_len 512) ?_) | (with_reducible refine wpList_store_blk rfl _ _ rfl rfl rfl H6.out (zs_len 512) (zs_len 512) ?_))
    intro w1 h1 g1
    go_wp2_with fail
    have b1 : Below w.heap.size w w1 := below_row (by repeat' (first | (with_reducible exact Below.refl _ _) | (with_reducible assumption) | (with_reducible refine below_drewN ?_ _) | (with_reducible refine Below.alloc ?_ ?_ _) | (with_reducible refine Below.drew ?_) | (with_reducible refine Below.setCell ?_ ?_ _) | go_size)) g1 (by go_size) (Nat.le_refl _)
    refine bodyPost_ret (results_blk_tmp (p := 6) (q := 7) Try.results19 _ rfl h1 (zs_len 512)) rfl ?_
    exact ⟨rfl, b1⟩
  by_cases hb' : 2147483647 < b
  · have L6 := (Lies.new w (zs 512) _ rfl).alloc (.cells (ac (zs 512)) 25)
    have L8 := Lies.new (w.alloc (.cells (ac (zs 512)) 25)) (zs 512) (w.heap.size + 1) (by simp)
    have H6 := Lib.hid L6
    have H8 := Lib.hid L8
    have hE : sealE b l = 1 := if_pos (.inr hb')
    have hL : sealL k b l = zs 512 := if_neg (by rw [hE]; decide)
    rw [hE, hL]
    clear L6 L8 hE hL
    go_enter Try.func19, Try.ntmps19
    go_wp2_with (first | (with_reducible refine wpList_load_blk rfl _ rfl rfl H8.out (zs_len 512) ?_) | (with_reducible refine wpList_store_blk rfl _ _ rfl rfl rfl H6.out (zs_len 512) (zs_len 512) ?_))
    intro w1 h1 g1
    go_wp2_with fail
    have b1 : Below w.heap.size w w1 := below_row (by repeat' (first | (with_reducible exact Below.refl _ _) | (with_reducible assumption) | (with_reducible refine below_drewN ?_ _) | (with_reducible refine Below.alloc ?_ ?_ _) | (with_reducible refine Below.drew ?_) | (with_reducible refine Below.setCell ?_ ?_ _) | go_size)) g1 (by go_size) (Nat.le_refl _)
    refine bodyPost_ret (results_blk_tmp (p := 6) (q := 7) Try.results19 _ rfl h1 (zs_len 512)) rfl ?_
    exact ⟨rfl, b1⟩
  by_cases h5 : (500 : Int) < (l.length : Int)
  · have L6 := (Lies.new w (zs 512) _ rfl).alloc (.cells (ac (zs 512)) 25)
    have L8 := Lies.new (w.alloc (.cells (ac (zs 512)) 25)) (zs 512) (w.heap.size + 1) (by simp)
    have H6 := Lib.hid L6
    have H8 := Lib.hid L8
    have hE : sealE b l = 40 := by
      unfold sealE
      rw [if_neg (by omega), if_pos (by omega)]
    have hL : sealL k b l = zs 512 := if_neg (by rw [hE]; decide)
    rw [hE, hL]
    clear L6 L8 hE hL
    go_enter Try.func19, Try.ntmps19
    go_wp2_with (first | (with_reducible refine wpList_load_blk rfl _ rfl rfl H8.out (zs_len 512) ?_) | (with_reducible refine wpList_store_blk rfl _ _ rfl rfl rfl H6.out (zs_len 512) (zs_len 512) ?_))
    intro w1 h1 g1
    go_wp2_with fail
    have b1 : Below w.heap.size w w1 := below_row (by repeat' (first | (with_reducible exact Below.refl _ _) | (with_reducible assumption) | (with_reducible refine below_drewN ?_ _) | (with_reducible refine Below.alloc ?_ ?_ _) | (with_reducible refine Below.drew ?_) | (with_reducible refine Below.setCell ?_ ?_ _) | go_size)) g1 (by go_size) (Nat.le_refl _)
    refine bodyPost_ret (results_blk_tmp (p := 6) (q := 7) Try.results19 _ rfl h1 (zs_len 512)) rfl ?_
    exact ⟨rfl, b1⟩
  have L6 := (Lies.new w (zs 512) _ rfl).alloc (.cells (ac (zs 512)) 25)
  have L8 := Lies.new (w.alloc (.cells (ac (zs 512)) 25)) (zs 512) (w.heap.size + 1) (by simp)
  have H6 := Lib.hid L6
  have H8 := Lib.hid L8
  clear L6 L8
  obtain ⟨n, rfl⟩ := Int.eq_ofNat_of_zero_le (by omega : 0 ≤ b)
  obtain ⟨x0, x1, x2, x3, hx⟩ : ∃ x0 x1 x2 x3, be 4 n = [x0, x1, x2, x3] := ⟨_, _, _, _, be4 n⟩
  have XW := fun W : World => bword_any n W (by omega)
  have hE : sealE (n : Int) l = 0 := by
    unfold sealE
    rw [if_neg (by omega), if_neg (by omega)]
  have hL : sealL k (n : Int) l = [106, 116, 116, 121, k, 0, UInt8.ofNat (l.length / 256), UInt8.ofNat l.length] ++ [x0, x1, x2, x3] ++ l ++ zs (500 - l.length) := by
    unfold sealL
    rw [if_pos hE]
    unfold sealB
    rw [Int.toNat_natCast, hx]
  rw [hE]
  have HL := Lib.hid hL
  rw [hx] at XW
  simp only [bc, List.map_cons, List.map_nil] at XW
  have X := Lib.hid XW
  have hl5 : l.length ≤ 500 := by omega
  have hn2 : (n : Int) ≤ 2147483647 := by omega
  clear XW hx hE hL hb
  go_enter Try.func19, Try.ntmps19
  go_wp2_with (with_reducible refine wpList_copy_str (k := [106, 116, 116, 121]) rfl _ _ rfl Try.underlying54 rfl rfl H8.out (by simp) (by simp) ?_)
  intro w1 h1 g1
  have h6 : Lies w1 w.heap.size (zs 512) := H6.out.but g1 (by simp)
  have h1 : Lies w1 (w.heap.size + 1) ([106, 116, 116, 121] ++ zs 508) := h1
  have b1 : Below w.heap.size w w1 := below_row (by repeat' (first | (with_reducible exact Below.refl _ _) | (with_reducible assumption) | (with_reducible refine below_drewN ?_ _) | (with_reducible refine Below.alloc ?_ ?_ _) | (with_reducible refine Below.drew ?_) | (with_reducible refine Below.setCell ?_ ?_ _) | go_size)) g1 (by go_size) (by omega)
  have c4 := h1.cell (j := 4) (by simp)
  have c6 := h1.cell (j := 6) (by simp)
  have c7 := h1.cell (j := 7) (by simp)
  have f4 := h1.free 4
  have f6 := h1.free 6
  have f7 := h1.free 7
  have sz1 := b1.size
  have e6 : ((UInt8.ofNat (l.length / 256)).toNat : Int) = (l.length : Int) / 256 := by rw [b_int]; omega
  have e7 : ((UInt8.ofNat l.length).toNat : Int) = (l.length : Int) % 256 := b_int _
  have h7 := ((h1.set (j := 4) k (by simp)).set (j := 6) (UInt8.ofNat (l.length / 256)) (by simp)).set (j := 7) (UInt8.ofNat l.length) (by simp)
  rw [e6, e7] at h7
  generalize UInt8.ofNat (l.length / 256) = y6 at h7 HL
  generalize UInt8.ofNat l.length = y7 at h7 HL
  have H7 := Lib.hid h7
  have h6' := ((h6.setOther ⟨w.heap.size + 1, 4, none⟩ (.int .u8 (k.toNat : Int)) (by simp)).setOther ⟨w.heap.size + 1, 6, none⟩ (.int .u8 ((l.length : Int) / 256)) (by simp)).setOther ⟨w.heap.size + 1, 7, none⟩ (.int .u8 ((l.length : Int) % 256)) (by simp)
  have H6' := Lib.hid h6'
  clear e6 e7 h7 h6' h6 h1
  go_wp2_with fail
  refine (X.out _).mono ?_; rintro e w2 ⟨rfl, hw2⟩
  have h7 : Lies w2 (w.heap.size + 1) ([106, 116, 116, 121, k, 0, y6, y7] ++ zs 504) := H7.out.below hw2
  have h6 := H6'.out.below hw2
  have b2 : Below w.heap.size w w2 := Below.trans (by repeat' (first | (with_reducible exact Below.refl _ _) | (with_reducible assumption) | (with_reducible refine below_drewN ?_ _) | (with_reducible refine Below.alloc ?_ ?_ _) | (with_reducible refine Below.drew ?_) | (with_reducible refine Below.setCell ?_ ?_ _) | go_size)) (hw2.mono (by simp; omega))
  have sz2 : w1.heap.size ≤ w2.heap.size := by have := hw2.size; simpa using this
  clear c4 c6 c7 f4 f6 f7
  have hbv := bytesV_new w2 [x0, x1, x2, x3] 82 (by unfold maxLen; simp)
  have hb4 : BytesV (w2.alloc (.cells #[.int .u8 (x0.toNat : Int), .int .u8 (x1.toNat : Int), .int .u8 (x2.toNat : Int), .int .u8 (x3.toNat : Int)] 82)) (.slice (some ⟨w2.heap.size, 0, none⟩) 4 4) [x0, x1, x2, x3] := hbv
  have HB := Lib.hid hb4
  have H7 := Lib.hid (h7.alloc (.cells #[.int .u8 (x0.toNat : Int), .int .u8 (x1.toNat : Int), .int .u8 (x2.toNat : Int), .int .u8 (x3.toNat : Int)] 82))
  have H6 := Lib.hid (h6.alloc (.cells #[.int .u8 (x0.toNat : Int), .int .u8 (x1.toNat : Int), .int .u8 (x2.toNat : Int), .int .u8 (x3.toNat : Int)] 82))
  clear hbv hb4 h7 h6
  go_wp2_with fail
  go_region_law ((refine step_copy_blk (k := [x0, x1, x2, x3]) rfl _ _ rfl Try.underlying54 rfl rfl rfl (H7.out.drew) (HB.out.drew) (by simp) (by simp) ?_; intro w3 h3 g3))
  all_goals
    have h3 : Lies w3 (w.heap.size + 1) ([106, 116, 116, 121, k, 0, y6, y7, x0, x1, x2, x3] ++ zs 500) := by
      have e := splice_pre [106, 116, 116, 121, k, 0, y6, y7] [x0, x1, x2, x3] 504 (by simp)
      have h3' : Lies w3 (w.heap.size + 1) (splice ([106, 116, 116, 121, k, 0, y6, y7] ++ zs 504) [106, 116, 116, 121, k, 0, y6, y7].length [x0, x1, x2, x3]) := h3
      rw [e] at h3'
      exact h3'
    have h6 : Lies w3 w.heap.size (zs 512) := H6.out.drew.but g3 (by simp)
    have b3 : Below w.heap.size w w3 := below_row (by repeat' (first | (with_reducible exact Below.refl _ _) | (with_reducible assumption) | (with_reducible refine below_drewN ?_ _) | (with_reducible refine Below.alloc ?_ ?_ _) | (with_reducible refine Below.drew ?_) | (with_reducible refine Below.setCell ?_ ?_ _) | go_size)) g3 (by simp; omega) (by omega)
    have H3 := Lib.hid h3
    clear h3
    go_wp2_with (with_reducible refine wpList_copy_str (k := l) rfl _ _ rfl Try.underlying54 rfl rfl H3.out hl5 (by simp; omega) ?_)
    intro w4 h4 g4
    have h4 : Lies w4 (w.heap.size + 1) ([106, 116, 116, 121, k, 0, y6, y7, x0, x1, x2, x3] ++ l ++ zs (500 - l.length)) := by
      have e := splice_pre [106, 116, 116, 121, k, 0, y6, y7, x0, x1, x2, x3] l 500 hl5
      have h4' : Lies w4 (w.heap.size + 1) (splice ([106, 116, 116, 121, k, 0, y6, y7, x0, x1, x2, x3] ++ zs 500) [106, 116, 116, 121, k, 0, y6, y7, x0, x1, x2, x3].length l) := h4
      rw [e] at h4'
      exact h4'
    have h6 := h6.but g4 (by simp)
    have b4 : Below w.heap.size w w4 := below_row b3 g4 b3.size (by omega)
    have hlen : ([106, 116, 116, 121, k, 0, y6, y7, x0, x1, x2, x3] ++ l ++ zs (500 - l.length)).length = 512 := by simp; omega
    have hLL : sealL k (n : Int) l = [106, 116, 116, 121, k, 0, y6, y7, x0, x1, x2, x3] ++ l ++ zs (500 - l.length) := HL.out
    rw [← hLL] at h4 hlen
    clear hLL
    have H4 := Lib.hid h4
    have H6 := Lib.hid h6
    have HN := Lib.hid hlen
    clear h4 h6 hlen
    go_wp2_with (first | (with_reducible refine wpList_load_blk rfl _ rfl rfl H4.out HN.out ?_) | (with_reducible refine wpList_store_blk rfl _ _ rfl rfl rfl H6.out (zs_len 512) HN.out ?_))
    intro w5 h5 g5
    go_wp2_with fail
    have b5 : Below w.heap.size w w5 := below_row b4 g5 b4.size (Nat.le_refl _)
    refine bodyPost_ret (results_blk_tmp (p := 6) (q := 7) Try.results19 _ rfl h5 HN.out) rfl ?_
    exact ⟨rfl, b5⟩
end Go.Proofs.Yteoomhkdffnkkaa
