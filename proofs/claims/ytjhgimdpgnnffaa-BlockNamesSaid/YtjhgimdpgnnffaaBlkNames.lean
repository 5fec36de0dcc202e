/- BlockNames: the examples; the errors: the law returns true. Conditions: none. -/
import Derived.Test.YtjhgimdpgnnffaaBlkDec
import Derived.Test.YtjhgimdpgnnffaaBlkAwake
import Derived.Test.YtjhgimdpgnnffaaBlkArgs
namespace Go.Proofs.Ytjhgimdpgnnffaa
set_option linter.unusedVariables false
set_option linter.unusedSimpArgs false
open Go.ChangeShapes Go.WideShapes Go.ChangeAt Go.RowKit Pl
attribute [local go_sem] ba_toList ba_size zeroValueB

def NX : List UInt8 := sealL 255 2147483647 (zs 500)
def NZ : List UInt8 := sealL 1 0 []
theorem nx_len : NX.length = 512 := sealL_len _ _ _
theorem nz_len : NZ.length = 512 := sealL_len _ _ _
theorem n_open0 : openOK (zs 512) = false := by kernel_rfl
theorem n_openX : openOK NX = true := by kernel_rfl
theorem n_openY : openOK (NX.set 511 1) = true := by kernel_rfl
theorem n_openZ : openOK (NZ.set 511 1) = false := by kernel_rfl
theorem n_mk : ∀ w : World, (Instr.makeSlice 43 (.int .i64 16) (.int .i64 16)).run Try.prog w = .ok (.slice (some ⟨w.heap.size, 0, none⟩) 16 16) (w.alloc (.cells (ac (zs 16)) 5)) := fun _ => by kernel_rfl
theorem n_cv (w : World) (g : Nat) (hg : g = w.heap.size) : (convert 43 9 (.slice (some ⟨g, 0, none⟩) 16 16)).run Try.prog (w.alloc (.cells (ac (zs 16)) 5)) = .ok (sv (zs 16)) (w.alloc (.cells (ac (zs 16)) 5)) := by
  subst hg
  exact (bytesV_new w (zs 16) 5 (by unfold maxLen; simp)).string Try.underlying43 Try.underlying5 Try.underlying9

set_option maxRecDepth 100000 in
set_option maxHeartbeats 12800000 in
theorem names_any (w : World) : Calls Try.prog 7 #[] w fun e w' => e = .returned (.bool true) ∧ Below w.heap.size w w' := by
  have O0 : ∀ W, Calls Try.prog 12 #[blk (zs 512)] W fun e w' => e = .returned (.tuple #[.int .u8 0, .int .i64 0, sv [], .int .i64 4]) ∧ Below W.heap.size W w' := fun W => by
    have := open_any (zs 512) W (zs_len _)
    rwa [openV_no n_open0] at this
  have K0 : ∀ W, Calls Try.prog 18 #[ptrV 0 0 0, blk (zs 512)] W fun e w' => e = .returned (.tuple #[.int .u8 0, sv [], .int .i64 52]) ∧ Below W.heap.size W w' := fun W => check_any 0 0 0 (zs 512) W (zs_len _)
  have S1 : ∀ W, Calls Try.prog 10 #[.int .u8 0, .int .i64 (-1), sv []] W fun e w' => e = .returned (.tuple #[blk (zs 512), .int .i64 1]) ∧ Below W.heap.size W w' := fun W => seal_any 0 (-1) [] W (by decide)
  have S2 : ∀ W, Calls Try.prog 10 #[.int .u8 0, .int .i64 2147483648, sv []] W fun e w' => e = .returned (.tuple #[blk (zs 512), .int .i64 1]) ∧ Below W.heap.size W w' := fun W => seal_any 0 2147483648 [] W (by decide)
  have S3 : ∀ W, Calls Try.prog 10 #[.int .u8 0, .int .i64 0, sv (zs 501)] W fun e w' => e = .returned (.tuple #[blk (zs 512), .int .i64 40]) ∧ Below W.heap.size W w' := fun W => by
    have := seal_any 0 0 (zs 501) W (by simp)
    have hE : sealE 0 (zs 501) = 40 := by unfold sealE; rw [if_neg (by omega), if_pos (by simp)]
    have hL : sealL 0 0 (zs 501) = zs 512 := if_neg (by rw [hE]; decide)
    rwa [hE, hL] at this
  have S4 : ∀ W, Calls Try.prog 10 #[.int .u8 255, .int .i64 2147483647, sv (zs 500)] W fun e w' => e = .returned (.tuple #[blk NX, .int .i64 0]) ∧ Below W.heap.size W w' := fun W => by
    have := seal_any 255 2147483647 (zs 500) W (by simp)
    have hE : sealE 2147483647 (zs 500) = 0 := by unfold sealE; rw [if_neg (by omega), if_neg (by simp)]
    rwa [hE] at this
  have S5 : ∀ W, Calls Try.prog 10 #[.int .u8 1, .int .i64 0, sv []] W fun e w' => e = .returned (.tuple #[blk NZ, .int .i64 0]) ∧ Below W.heap.size W w' := fun W => seal_any 1 0 [] W (by decide)
  have T0 : ∀ W, Calls Try.prog 16 #[.int .i64 0, blk NX] W fun e w' => e = .returned (.tuple #[ptrV 0 0 0, .int .i64 1]) ∧ Below W.heap.size W w' := fun W => by
    have := to_any 0 NX W nx_len
    have hE : toE 0 NX = 1 := by unfold toE; rw [if_pos n_openX, if_neg (by omega)]
    unfold toV at this
    rwa [hE, if_neg (by decide)] at this
  have T1 : ∀ W, Calls Try.prog 16 #[.int .i64 8192, blk NX] W fun e w' => e = .returned (.tuple #[ptrV 0 0 0, .int .i64 1]) ∧ Below W.heap.size W w' := fun W => by
    have := to_any 8192 NX W nx_len
    have hE : toE 8192 NX = 1 := by unfold toE; rw [if_pos n_openX, if_neg (by omega)]
    unfold toV at this
    rwa [hE, if_neg (by decide)] at this
  have T2 : ∀ W, Calls Try.prog 16 #[.int .i64 8191, blk NX] W fun e w' => e = .returned (.tuple #[ptrV 8191 (oB NX) (bSum NX), .int .i64 0]) ∧ Below W.heap.size W w' := fun W => by
    have := to_any 8191 NX W nx_len
    have hE : toE 8191 NX = 0 := by unfold toE; rw [if_pos n_openX, if_pos (by omega)]
    unfold toV at this
    rwa [hE, if_pos rfl] at this
  have E0 : ∀ W, Calls Try.prog 20 #[ptrV 0 0 1] W fun e w' => e = .returned (.tuple #[sv [], .int .i64 4]) ∧ Below W.heap.size W w' := fun W => encode_no 0 0 1 W (by decide)
  have E1 : ∀ W, Calls Try.prog 20 #[ptrV 0 0 0] W fun e w' => e = .returned (.tuple #[sv (zs 16), .int .i64 0]) ∧ Below W.heap.size W w' := fun W => encode_any 0 0 0 W (by omega)
  have E2 : ∀ W, Calls Try.prog 20 #[ptrV 8192 0 0] W fun e w' => e = .returned (.tuple #[sv [], .int .i64 4]) ∧ Below W.heap.size W w' := fun W => encode_no 8192 0 0 W (by decide)
  have D0 : ∀ W, Calls Try.prog 21 #[sv (zs 16)] W fun e w' => e = .returned (.tuple #[ptrV 0 0 0, .int .i64 0]) ∧ Below W.heap.size W w' := fun W => decode_any (zs 16) W
  have O1 : ∀ W, Calls Try.prog 12 #[blk (NX.set 511 1)] W fun e w' => e = .returned (.tuple #[.int .u8 ((oK (NX.set 511 1)).toNat : Int), .int .i64 (oB (NX.set 511 1)), sv (oS (NX.set 511 1)), .int .i64 0]) ∧ Below W.heap.size W w' := fun W => by
    have := open_any (NX.set 511 1) W (by rw [List.length_set]; exact nx_len)
    rwa [openV_yes n_openY] at this
  have O2 : ∀ W, Calls Try.prog 12 #[blk (NZ.set 511 1)] W fun e w' => e = .returned (.tuple #[.int .u8 0, .int .i64 0, sv [], .int .i64 4]) ∧ Below W.heap.size W w' := fun W => by
    have := open_any (NZ.set 511 1) W (by rw [List.length_set]; exact nz_len)
    rwa [openV_no n_openZ] at this
  generalize oK (NX.set 511 1) = y1 at O1
  generalize oB (NX.set 511 1) = y2 at O1
  generalize oS (NX.set 511 1) = y3 at O1
  generalize oB NX = y4 at T2
  generalize bSum NX = y5 at T2
  have LX := Lib.hid nx_len
  have LZ := Lib.hid nz_len
  generalize NX = X at *
  generalize NZ = Z at *
  have GO0 := Lib.hid O0
  have GK0 := Lib.hid K0
  have GS1 := Lib.hid S1
  have GS2 := Lib.hid S2
  have GS3 := Lib.hid S3
  have GS4 := Lib.hid S4
  have GS5 := Lib.hid S5
  have GT0 := Lib.hid T0
  have GT1 := Lib.hid T1
  have GT2 := Lib.hid T2
  have GE0 := Lib.hid E0
  have GE1 := Lib.hid E1
  have GE2 := Lib.hid E2
  have GD0 := Lib.hid D0
  have GO1 := Lib.hid O1
  have GO2 := Lib.hid O2
  obtain ⟨i0, hi, hz0, hz1, hz2⟩ := info_parts info_u8
  have HI := Lib.hid (And.intro hi (And.intro hz0 (And.intro hz1 hz2)))
  clear hi hz0 hz1 hz2
  clear O0 K0 S1 S2 S3 S4 S5 T0 T1 T2 E0 E1 E2 D0 O1 O2
  go_enter Try.func7, Try.ntmps7
  go_wp2_with fail
  refine (GO0.out _).mono ?_; rintro e w1 ⟨rfl, hw1⟩
  have b1 : Below w.heap.size w w1 := chain (by repeat' (first | (with_reducible exact Below.refl _ _) | (with_reducible assumption) | (with_reducible refine below_drewN ?_ _) | (with_reducible refine Below.alloc ?_ ?_ _) | (with_reducible refine Below.drew ?_) | (with_reducible refine Below.setCell ?_ ?_ _) | go_size)) hw1
  have s1 := b1.size
  go_wp2_with fail
  refine (GK0.out _).mono ?_; rintro e w2 ⟨rfl, hw2⟩
  have b2 : Below w.heap.size w w2 := chain (by repeat' (first | (with_reducible exact Below.refl _ _) | (with_reducible assumption) | (with_reducible refine below_drewN ?_ _) | (with_reducible refine Below.alloc ?_ ?_ _) | (with_reducible refine Below.drew ?_) | (with_reducible refine Below.setCell ?_ ?_ _) | go_size)) hw2
  have s2 := b2.size
  go_wp2_with fail
  refine (GS1.out _).mono ?_; rintro e w3 ⟨rfl, hw3⟩
  have b3 : Below w.heap.size w w3 := chain (by repeat' (first | (with_reducible exact Below.refl _ _) | (with_reducible assumption) | (with_reducible refine below_drewN ?_ _) | (with_reducible refine Below.alloc ?_ ?_ _) | (with_reducible refine Below.drew ?_) | (with_reducible refine Below.setCell ?_ ?_ _) | go_size)) hw3
  have s3 := b3.size
  have HZ3 := Lib.hid (Lies.new w3 (zs 512) _ rfl)
  go_wp2_with (with_reducible refine wpList_store_blk (m := zs 512) rfl _ _ rfl rfl rfl HZ3.out (zs_len 512) (zs_len 512) ?_)
  intro v3 h3 g3
  have c3 : Below w.heap.size w v3 := below_row (by repeat' (first | (with_reducible exact Below.refl _ _) | (with_reducible assumption) | (with_reducible refine below_drewN ?_ _) | (with_reducible refine Below.alloc ?_ ?_ _) | (with_reducible refine Below.drew ?_) | (with_reducible refine Below.setCell ?_ ?_ _) | go_size)) g3 (by go_size) s3
  clear h3 g3
  have t3 := c3.size
  go_wp2_with fail
  refine (GS2.out _).mono ?_; rintro e w4 ⟨rfl, hw4⟩
  have b4 : Below w.heap.size w w4 := chain (by repeat' (first | (with_reducible exact Below.refl _ _) | (with_reducible assumption) | (with_reducible refine below_drewN ?_ _) | (with_reducible refine Below.alloc ?_ ?_ _) | (with_reducible refine Below.drew ?_) | (with_reducible refine Below.setCell ?_ ?_ _) | go_size)) hw4
  have s4 := b4.size
  have HZ4 := Lib.hid (Lies.new w4 (zs 512) _ rfl)
  go_wp2_with (with_reducible refine wpList_store_blk (m := zs 512) rfl _ _ rfl rfl rfl HZ4.out (zs_len 512) (zs_len 512) ?_)
  intro v4 h4 g4
  have c4 : Below w.heap.size w v4 := below_row (by repeat' (first | (with_reducible exact Below.refl _ _) | (with_reducible assumption) | (with_reducible refine below_drewN ?_ _) | (with_reducible refine Below.alloc ?_ ?_ _) | (with_reducible refine Below.drew ?_) | (with_reducible refine Below.setCell ?_ ?_ _) | go_size)) g4 (by go_size) s4
  clear h4 g4
  have t4 := c4.size
  go_wp2_with (with_reducible refine wpList_make_bytes rfl _ _ rfl Try.underlying43 HI.out.1 HI.out.2.1 HI.out.2.2.1 HI.out.2.2.2 501 rfl rfl rfl rfl (by omega) ?_)
  intro v50 w50 hv50 hw50
  have b50 := chain c4 hw50
  have k50 := (show BytesV w50 v50 (zs 501) from hv50).string (P := Try.prog) Try.underlying43 Try.underlying5 Try.underlying9
  clear hv50
  go_wp2_with fail
  refine (GS3.out _).mono ?_; rintro e w5 ⟨rfl, hw5⟩
  have b5 : Below w.heap.size w w5 := chain (by repeat' (first | (with_reducible exact Below.refl _ _) | (with_reducible assumption) | (with_reducible refine below_drewN ?_ _) | (with_reducible refine Below.alloc ?_ ?_ _) | (with_reducible refine Below.drew ?_) | (with_reducible refine Below.setCell ?_ ?_ _) | go_size)) hw5
  have s5 := b5.size
  have HZ5 := Lib.hid (Lies.new w5 (zs 512) _ rfl)
  go_wp2_with (with_reducible refine wpList_store_blk (m := zs 512) rfl _ _ rfl rfl rfl HZ5.out (zs_len 512) (zs_len 512) ?_)
  intro v5 h5 g5
  have c5 : Below w.heap.size w v5 := below_row (by repeat' (first | (with_reducible exact Below.refl _ _) | (with_reducible assumption) | (with_reducible refine below_drewN ?_ _) | (with_reducible refine Below.alloc ?_ ?_ _) | (with_reducible refine Below.drew ?_) | (with_reducible refine Below.setCell ?_ ?_ _) | go_size)) g5 (by go_size) s5
  have t5 := c5.size
  clear h5 g5 k50
  go_wp2_with (with_reducible refine wpList_make_bytes rfl _ _ rfl Try.underlying43 HI.out.1 HI.out.2.1 HI.out.2.2.1 HI.out.2.2.2 500 rfl rfl rfl rfl (by omega) ?_)
  intro v60 w60 hv60 hw60
  have b60 := chain c5 hw60
  have k60 := (show BytesV w60 v60 (zs 500) from hv60).string (P := Try.prog) Try.underlying43 Try.underlying5 Try.underlying9
  clear hv60
  go_wp2_with fail
  refine (GS4.out _).mono ?_; rintro e w6 ⟨rfl, hw6⟩
  have b6 : Below w.heap.size w w6 := chain (by repeat' (first | (with_reducible exact Below.refl _ _) | (with_reducible assumption) | (with_reducible refine below_drewN ?_ _) | (with_reducible refine Below.alloc ?_ ?_ _) | (with_reducible refine Below.drew ?_) | (with_reducible refine Below.setCell ?_ ?_ _) | go_size)) hw6
  have s6 := b6.size
  have HZ6 := Lib.hid (Lies.new w6 (zs 512) _ rfl)
  go_wp2_with (with_reducible refine wpList_store_blk (m := X) rfl _ _ rfl rfl rfl HZ6.out (zs_len 512) LX.out ?_)
  intro v6 h6 g6
  have c6 : Below w.heap.size w v6 := below_row (by repeat' (first | (with_reducible exact Below.refl _ _) | (with_reducible assumption) | (with_reducible refine below_drewN ?_ _) | (with_reducible refine Below.alloc ?_ ?_ _) | (with_reducible refine Below.drew ?_) | (with_reducible refine Below.setCell ?_ ?_ _) | go_size)) g6 (by go_size) s6
  have t6 := c6.size
  have HX6 := Lib.hid h6
  clear h6 g6 k60
  go_wp2_with (with_reducible refine wpList_load_blk rfl _ rfl rfl HX6.out LX.out ?_)
  go_wp2_with fail
  refine (GT0.out _).mono ?_; rintro e w7 ⟨rfl, hw7⟩
  have b7 : Below w.heap.size w w7 := chain (by repeat' (first | (with_reducible exact Below.refl _ _) | (with_reducible assumption) | (with_reducible refine below_drewN ?_ _) | (with_reducible refine Below.alloc ?_ ?_ _) | (with_reducible refine Below.drew ?_) | (with_reducible refine Below.setCell ?_ ?_ _) | go_size)) hw7
  have s7 := b7.size
  have HX7 := Lib.hid ((HX6.out.below hw7).alloc (.cells #[.int .i64 0, .int .i64 0, .int .u64 0] 26))
  go_wp2_with (with_reducible refine wpList_load_blk rfl _ rfl rfl HX7.out LX.out ?_)
  go_wp2_with fail
  refine (GT1.out _).mono ?_; rintro e w8 ⟨rfl, hw8⟩
  have b8 : Below w.heap.size w w8 := chain (by repeat' (first | (with_reducible exact Below.refl _ _) | (with_reducible assumption) | (with_reducible refine below_drewN ?_ _) | (with_reducible refine Below.alloc ?_ ?_ _) | (with_reducible refine Below.drew ?_) | (with_reducible refine Below.setCell ?_ ?_ _) | go_size)) hw8
  have s8 := b8.size
  have HX8 := Lib.hid ((HX7.out.below hw8).alloc (.cells #[.int .i64 0, .int .i64 0, .int .u64 0] 26))
  go_wp2_with (with_reducible refine wpList_load_blk rfl _ rfl rfl HX8.out LX.out ?_)
  go_wp2_with fail
  refine (GT2.out _).mono ?_; rintro e w9 ⟨rfl, hw9⟩
  have b9 : Below w.heap.size w w9 := chain (by repeat' (first | (with_reducible exact Below.refl _ _) | (with_reducible assumption) | (with_reducible refine below_drewN ?_ _) | (with_reducible refine Below.alloc ?_ ?_ _) | (with_reducible refine Below.drew ?_) | (with_reducible refine Below.setCell ?_ ?_ _) | go_size)) hw9
  have s9 := b9.size
  have HX9 := Lib.hid ((HX8.out.below hw9).alloc (.cells #[.int .i64 8191, .int .i64 y4, .int .u64 y5] 26))
  go_wp2_with fail
  refine (GE0.out _).mono ?_; rintro e w10 ⟨rfl, hw10⟩
  have b10 : Below w.heap.size w w10 := chain (by repeat' (first | (with_reducible exact Below.refl _ _) | (with_reducible assumption) | (with_reducible refine below_drewN ?_ _) | (with_reducible refine Below.alloc ?_ ?_ _) | (with_reducible refine Below.drew ?_) | (with_reducible refine Below.setCell ?_ ?_ _) | go_size)) hw10
  have s10 := b10.size
  go_wp2_with fail
  refine (GE1.out _).mono ?_; rintro e w11 ⟨rfl, hw11⟩
  have b11 : Below w.heap.size w w11 := chain (by repeat' (first | (with_reducible exact Below.refl _ _) | (with_reducible assumption) | (with_reducible refine below_drewN ?_ _) | (with_reducible refine Below.alloc ?_ ?_ _) | (with_reducible refine Below.drew ?_) | (with_reducible refine Below.setCell ?_ ?_ _) | go_size)) hw11
  have s11 := b11.size
  go_wp2_with fail
  refine (GE2.out _).mono ?_; rintro e w12 ⟨rfl, hw12⟩
  have b12 : Below w.heap.size w w12 := chain (by repeat' (first | (with_reducible exact Below.refl _ _) | (with_reducible assumption) | (with_reducible refine below_drewN ?_ _) | (with_reducible refine Below.alloc ?_ ?_ _) | (with_reducible refine Below.drew ?_) | (with_reducible refine Below.setCell ?_ ?_ _) | go_size)) hw12
  have s12 := b12.size
  go_wp2_with fail
  refine (GD0.out _).mono ?_; rintro e w13 ⟨rfl, hw13⟩
  have b13 : Below w.heap.size w w13 := chain (by repeat' (first | (with_reducible exact Below.refl _ _) | (with_reducible assumption) | (with_reducible refine below_drewN ?_ _) | (with_reducible refine Below.alloc ?_ ?_ _) | (with_reducible refine Below.drew ?_) | (with_reducible refine Below.setCell ?_ ?_ _) | go_size)) hw13
  have s13 := b13.size
  have HX13 := Lib.hid (((((HX9.out.below hw10).below hw11).below hw12).below hw13).alloc (.cells #[.int .i64 0, .int .i64 0, .int .u64 0] 26))
  have HZ30 := Lib.hid (Lies.new (w13.alloc (.cells #[.int .i64 0, .int .i64 0, .int .u64 0] 26)) (zs 512) (w13.heap.size + 1) (by simp))
  have P13 : ((w13.alloc (.cells #[.int .i64 0, .int .i64 0, .int .u64 0] 26)).alloc (.cells (ac (zs 512)) 23)).heap[w13.heap.size]? = some (.cells #[.int .i64 0, .int .i64 0, .int .u64 0] 26 (0, 0)) := (heap_alloc_old _ _ (by simp)).trans (heap_alloc_new w13 _)
  have HP13 := Lib.hid P13
  clear P13
  go_wp2_with (first | (with_reducible refine wpList_load_blk rfl _ rfl rfl HX13.out LX.out ?_) | (with_reducible refine wpList_store_blk (m := X) rfl _ _ rfl rfl rfl HZ30.out (zs_len 512) LX.out ?_))
  intro v30 h30 g30
  have c30 : Below w.heap.size w v30 := below_row (by repeat' (first | (with_reducible exact Below.refl _ _) | (with_reducible assumption) | (with_reducible refine below_drewN ?_ _) | (with_reducible refine Below.alloc ?_ ?_ _) | (with_reducible refine Below.drew ?_) | (with_reducible refine Below.setCell ?_ ?_ _) | go_size)) g30 (by go_size) (by omega)
  have t30 := c30.size
  have l30 := h30.lt
  have d30 := h30.cell (j := 511) (by have := LX.out; omega)
  have f30 := h30.free 511
  have HY : Lies (v30.setCell ⟨w13.heap.size + 1, 511, none⟩ (.int .u8 1)) (w13.heap.size + 1) (X.set 511 1) := h30.set (j := 511) 1 (by have := LX.out; omega)
  have HYl : (X.set 511 1).length = 512 := by rw [List.length_set]; exact LX.out
  have HYh := Lib.hid HY
  have HYL := Lib.hid HYl
  have P30 := (g30.block w13.heap.size (by simp; omega) (by simp)).trans HP13.out
  have P31 := (heap_setCell_other v30 ⟨w13.heap.size + 1, 511, none⟩ w13.heap.size (.int .u8 1) (by simp)).trans P30
  have HP31 := Lib.hid P31
  have HY2 := Lib.hid HYL.out
  generalize X.set 511 1 = Y at *
  clear h30 g30 HY HYl P30 P31
  go_wp2_with (with_reducible refine wpList_load_blk rfl _ rfl rfl HYh.out HYL.out ?_)
  go_wp2_with fail
  refine (GO1.out _).mono ?_; rintro e w14 ⟨rfl, hw14⟩
  have b14 : Below w.heap.size w w14 := chain (by repeat' (first | (with_reducible exact Below.refl _ _) | (with_reducible assumption) | (with_reducible refine below_drewN ?_ _) | (with_reducible refine Below.alloc ?_ ?_ _) | (with_reducible refine Below.drew ?_) | (with_reducible refine Below.setCell ?_ ?_ _) | go_size)) hw14
  have s14 := b14.size
  clear d30 f30
  have P14 := (hw14.block w13.heap.size (by simp; omega)).trans HP31.out
  have HP14 := Lib.hid P14
  clear P14
  go_wp2_with fail
  refine (GS5.out _).mono ?_; rintro e w15 ⟨rfl, hw15⟩
  have b15 : Below w.heap.size w w15 := chain (by repeat' (first | (with_reducible exact Below.refl _ _) | (with_reducible assumption) | (with_reducible refine below_drewN ?_ _) | (with_reducible refine Below.alloc ?_ ?_ _) | (with_reducible refine Below.drew ?_) | (with_reducible refine Below.setCell ?_ ?_ _) | go_size)) hw15
  have s15 := b15.size
  have HZ15 := Lib.hid (Lies.new w15 (zs 512) _ rfl)
  have P15 := (hw15.block w13.heap.size (by have := (Array.getElem?_eq_some_iff.1 HP14.out).1; exact this)).trans HP14.out
  have l15 := (Array.getElem?_eq_some_iff.1 P15).1
  have HP15 := Lib.hid ((heap_alloc_old w15 (.cells (ac (zs 512)) 23) l15).trans P15)
  clear P15
  go_wp2_with (with_reducible refine wpList_store_blk (m := Z) rfl _ _ rfl rfl rfl HZ15.out (zs_len 512) LZ.out ?_)
  intro v16 h16 g16
  have c16 : Below w.heap.size w v16 := below_row (by repeat' (first | (with_reducible exact Below.refl _ _) | (with_reducible assumption) | (with_reducible refine below_drewN ?_ _) | (with_reducible refine Below.alloc ?_ ?_ _) | (with_reducible refine Below.drew ?_) | (with_reducible refine Below.setCell ?_ ?_ _) | go_size)) g16 (by go_size) s15
  have t16 := c16.size
  have l16 := h16.lt
  have d16 := h16.cell (j := 511) (by have := LZ.out; omega)
  have f16 := h16.free 511
  have HQ : Lies (v16.setCell ⟨w15.heap.size, 511, none⟩ (.int .u8 1)) w15.heap.size (Z.set 511 1) := h16.set (j := 511) 1 (by have := LZ.out; omega)
  have HQl : (Z.set 511 1).length = 512 := by rw [List.length_set]; exact LZ.out
  have HQh := Lib.hid HQ
  have HQL := Lib.hid HQl
  have P16 := (g16.block w13.heap.size (by simp; omega) (fun e => by have := Option.some.inj e; omega)).trans HP15.out
  have P17 := (heap_setCell_other v16 ⟨w15.heap.size, 511, none⟩ w13.heap.size (.int .u8 1) (by simp; omega)).trans P16
  have HP17 := Lib.hid P17
  generalize Z.set 511 1 = Z' at *
  clear h16 g16 HQ HQl P16 P17
  go_wp2_with (with_reducible refine wpList_load_blk rfl _ rfl rfl HQh.out HQL.out ?_)
  go_wp2_with fail
  refine (GO2.out _).mono ?_; rintro e w18 ⟨rfl, hw18⟩
  have b18 : Below w.heap.size w w18 := chain (by repeat' (first | (with_reducible exact Below.refl _ _) | (with_reducible assumption) | (with_reducible refine below_drewN ?_ _) | (with_reducible refine Below.alloc ?_ ?_ _) | (with_reducible refine Below.drew ?_) | (with_reducible refine Below.setCell ?_ ?_ _) | go_size)) hw18
  have s18 := b18.size
  clear d16 f16
  have P18 := (hw18.block w13.heap.size (by have := (Array.getElem?_eq_some_iff.1 HP17.out).1; exact this)).trans HP17.out
  have l18 := (Array.getElem?_eq_some_iff.1 P18).1
  have p0 := cell_of_row _ _ 0 _ _ _ P18
  have p1 := cell_of_row _ _ 1 _ _ _ P18
  have p2 := cell_of_row _ _ 2 _ _ _ P18
  simp only [List.getElem?_toArray, List.getElem?_cons_zero, List.getElem?_cons_succ] at p0 p1 p2
  have nmk := n_mk
  have ncv := n_cv w18 _ rfl
  clear P18
  go_wp2_with fail
  refine (awake_any _).mono ?_; rintro e w19 ⟨rfl, hw19⟩
  have b19 : Below w.heap.size w w19 := chain (by repeat' (first | (with_reducible exact Below.refl _ _) | (with_reducible assumption) | (with_reducible refine below_drewN ?_ _) | (with_reducible refine Below.alloc ?_ ?_ _) | (with_reducible refine Below.drew ?_) | (with_reducible refine Below.setCell ?_ ?_ _) | go_size)) hw19
  go_wp2_with fail
  go_ret
  exact ⟨rfl, b19⟩

theorem names_walk : Walks Try.prog 7 Try.f7 := by
  intro H enc W args ds p base hval hA hz
  rw [Try.params7] at hA hval
  obtain ⟨h0, rfl, rfl⟩ := trodAll_nil hA
  obtain rfl : args = #[] := by cases args; simp_all
  exact names_any W

theorem BlockNames_holds : Rows.BlockNamesSaid :=
  OpenClaim.holds_of_wide 7 Try.f7 rfl rfl rfl rfl rfl rfl rfl ⟨rfl, rfl, rfl, rfl, rfl⟩ rfl rfl rfl rfl rfl (by kernel_rfl) Try.func7 (by kernel_rfl)
    (of_decide_eq_true (by kernel_rfl)) (by unfold Func.isWrapper; first | (rw [if_pos (by decide +kernel)]; kernel_rfl) | (rw [if_neg (by decide +kernel)]; exact ⟨rfl, rfl⟩))
    (fun os started H enc _ => law_lifted (C := Try.checked) (s := Rows.blockNamesSpec) own started (by kernel_rfl) Try.func7 laidOut rfl rfl Try.underlying4
      (by have h : ∀ u ∈ Try.f7.params.toList, (Try.prog.readableRec u && decide (u < Try.prog.types.size)) = true := List.all_eq_true.1 (by kernel_rfl)
          intro u hu; have := h u hu; rw [Bool.and_eq_true, decide_eq_true_eq] at this; exact this)
      (by intro H l hl; rw [show Try.f7.params.size = 0 from by rw [Try.params7]; rfl] at hl; match l, hl with | [], _ => rfl)
      H enc (ChangeSpec.witness6 (enc := enc) (C := Try.checked) false ⟨#[], #[], []⟩ 8 (by kernel_rfl) (by kernel_rfl) (by kernel_rfl) (by kernel_rfl)) names_walk)
#print axioms BlockNames_holds
end Go.Proofs.Ytjhgimdpgnnffaa
