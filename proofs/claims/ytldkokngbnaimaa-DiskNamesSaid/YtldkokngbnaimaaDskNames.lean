/- DiskNames holds: the disks' examples, limits and errors (closed). Conditions: none. -/
import Derived.Test.YtldkokngbnaimaaDskOpen
import Derived.Test.YtldkokngbnaimaaDskWorks
namespace Go.Proofs.Ytldkokngbnaimaa
set_option linter.unusedVariables false
set_option linter.unusedSimpArgs false
open Go.ChangeShapes Go.WideShapes Go.ChangeAt Go.RowKit
attribute [local go_sem] zeroValueB

theorem Copy_nil (w : World) : Calls Try.prog 20 #[.pointer none] w fun e w' => e = .returned (.pointer none) ∧ w = w' := by
  go_enter Try.func20, Try.ntmps20
  go_wp2_with fail
  go_ret
  exact ⟨rfl, rfl⟩
theorem bootnot_m {B : Nat} {own : List Nat} {l : List (Nat × Nat × Dk)} {i g : Nat} {d : Dk} (w : World) (h : Many B own w l) (hm : (i, g, d) ∈ l) (hd : d.dead = false) : Calls Try.prog 22 #[dptr g] w fun e w' => e = .returned (.tuple #[.pointer none, .int .i64 50]) ∧ Many B own w' l ∧ Below B w w' ∧ Same own w w' := by
  obtain ⟨fp, rp, h0⟩ := h.get hm
  exact (Boot_not w h0 hd).mono fun e w' ⟨he, hb⟩ => by subst hb; exact ⟨he, h, Below.refl _ _, Same.refl _ _⟩
theorem BoolsV.block {w : World} {b : Nat} {cs : Array Value} {fr : Nat × Nat} {k : List Bool} (h : w.heap[b]? = some (.cells cs 4 fr)) (hc : cs = (k.map Value.bool).toArray) (hk : k.length ≤ maxLen) (n : Nat) (hn : n = k.length) : BoolsV w (.slice (some ⟨b, 0, none⟩) n n) k := by
  subst hc hn
  refine ⟨_, k.length, rfl, Nat.le_refl _, hk, fun e => (by cases e), fun h0 => ⟨b, 0, rfl, (Array.getElem?_eq_some_iff.1 h).1, fun j hj => ?_⟩⟩
  rw [cell_of_row _ _ (0 + j) _ _ _ h]
  simp [hj]

def names1 : Dk := Dk.new 8192
def names2 : Dk := names1.write (8192) (mkB 1)
def names3 : Dk := names2.write (-1) (mkB 1)
def names4 : Dk := names3.sayCut (-1) []
def names5 : Dk := names4.write (8191) (mkB 1)
def names6 : Dk := names5.sayCut (1) []
def names7 : Dk := names6.sayCut (0) []
def names8 : Dk := names7.flush
def names9 : Dk := names8.sayCut (1) []
def names10 : Dk := names9.sayCut (2) [true, false]
def names11 : Dk := names10.write (9000) (mkB 2)
def names12 : Dk := names11.write (7) (mkB 2)
def names13 : Dk := names12.write (8191) (mkB 3)
def names14 : Dk := names13.write (7) (mkB 1)
def names15 : Dk := names14.flush
def names16 : Dk := names15.sayCut (1) []
def names17 : Dk := names16.failD []
def names18 : Dk := names17.write (-1) (mkB 1)
def names19 : Dk := names18.boot
def names20 : Dk := names18.boot
def names21 : Dk := names19.write (7) (mkB 5)
def names22 : Dk := names21.flush
def names23 : Dk := names18.boot
def names24 : Dk := names22.write (8) (mkB 6)
def names25 : Dk := names24.sayCut (1) [true]
def names26 : Dk := names25.flush
def names27 : Dk := names25.sayCut (0) []
def names28 : Dk := names27.flush
def names29 : Dk := names26.boot
def names30 : Dk := names28.write (9) (mkB 4)
def names31 : Dk := names30.sayCut (1) [true]
def names32 : Dk := names31.flush
def names33 : Dk := names32.boot

set_option maxRecDepth 100000 in
set_option maxHeartbeats 12800000 in
theorem names_any (w : World) : Calls Try.prog 6 #[] w fun e w' => e = .returned (.bool true) ∧ Below w.heap.size w w' := by
  go_enter Try.func6, Try.ntmps6
  go_wp2_with fail
  refine (works_any _).mono ?_; rintro e w1 ⟨rfl, hw1⟩
  have HM1 := Lib.hid (Many.none w.heap.size w1)
  have B1 : Below w.heap.size w w1 := hw1
  clear hw1
  go_wp2_with fail
  refine (New_bad 63 _ (by decide)).mono ?_; rintro e w2 ⟨rfl, rfl⟩
  go_wp2_with fail
  refine (New_bad 8193 _ (by decide)).mono ?_; rintro e w3 ⟨rfl, rfl⟩
  go_wp2_with fail
  refine (new_m 2 8192 _ HM1.out (by decide) (by simp) B1.size (by decide) (by decide) (d' := names1) rfl).mono ?_; rintro e w4 ⟨g4, rfl, hm4, hb4, hs4⟩
  have HM4 := Lib.hid hm4
  have B4 := B1.trans hb4
  clear hm4 hb4 hs4 HM1
  go_wp2_with fail
  refine (bootnot_m (i := 2) (d := names1) _ HM4.out (by simp) rfl).mono ?_; rintro e w5 ⟨rfl, hm5, hb5, hs5⟩
  have HM5 := Lib.hid hm5
  have B5 := B4.trans hb5
  clear hm5 hb5 hs5 HM4
  go_wp2_with fail
  refine (read_m (8192) _ HM5.out (i := 2) (d := names1) (by simp) B5.size (by decide) (E := 1) (R := zs 512) rfl rfl).mono ?_; rintro e w6 ⟨rfl, hm6, hb6, hs6⟩
  have HM6 := Lib.hid hm6
  have B6 := B5.trans hb6
  clear hm6 hb6 hs6 HM5
  have HA6 := Lib.hid (Lies.new w6 (zs 512) _ rfl)
  go_wp2_with (with_reducible refine wpList_store_blk (m := zs 512) rfl _ _ rfl rfl rfl HA6.out (zs_len 512) (zs_len 512) ?_)
  intro v6 hl6 gr6
  have bs6 : Below w6.heap.size w6 v6 := below_row ((Below.refl _ _).alloc (Nat.le_refl _) _) gr6 (by simp) (Nat.le_refl _)
  have HN6 := Lib.hid (HM6.out.below bs6)
  have C6 := chain B6 bs6
  clear hl6 gr6 bs6 HA6 HM6
  go_wp2_with fail
  refine (read_m (-1) _ HN6.out (i := 2) (d := names1) (by simp) C6.size (by decide) (E := 1) (R := zs 512) rfl rfl).mono ?_; rintro e w7 ⟨rfl, hm7, hb7, hs7⟩
  have HM7 := Lib.hid hm7
  have B7 := C6.trans hb7
  clear hm7 hb7 hs7 HN6
  have HA7 := Lib.hid (Lies.new w7 (zs 512) _ rfl)
  go_wp2_with (with_reducible refine wpList_store_blk (m := zs 512) rfl _ _ rfl rfl rfl HA7.out (zs_len 512) (zs_len 512) ?_)
  intro v7 hl7 gr7
  have bs7 : Below w7.heap.size w7 v7 := below_row ((Below.refl _ _).alloc (Nat.le_refl _) _) gr7 (by simp) (Nat.le_refl _)
  have HN7 := Lib.hid (HM7.out.below bs7)
  have C7 := chain B7 bs7
  clear hl7 gr7 bs7 HA7 HM7
  go_wp2_with fail
  refine (blocks_m _ HN7.out (i := 2) (d := names1) (by simp) (n := 8192) rfl).mono ?_; rintro e w8 ⟨rfl, hm8, hb8, hs8⟩
  have HM8 := Lib.hid hm8
  have B8 := C7.trans hb8
  clear hm8 hb8 hs8 HN7
  go_wp2_with fail
  refine (block_m 1 1 rfl _ HM8.out B8.size).mono ?_; rintro e w9 ⟨rfl, hm9, hb9, hs9⟩
  have HM9 := Lib.hid hm9
  have B9 := B8.trans hb9
  clear hm9 hb9 hs9 HM8
  go_wp2_with fail
  refine (write_m (8192) (mkB 1) _ HM9.out (by simp) B9.size (mkB_len _) (by decide) (E := 1) (d' := names2) rfl rfl).mono ?_; rintro e w10 ⟨rfl, hm10, hb10, hs10⟩
  have HM10 := Lib.hid hm10
  have B10 := B9.trans hb10
  clear hm10 hb10 hs10 HM9
  go_wp2_with fail
  refine (block_m 1 1 rfl _ HM10.out B10.size).mono ?_; rintro e w11 ⟨rfl, hm11, hb11, hs11⟩
  have HM11 := Lib.hid hm11
  have B11 := B10.trans hb11
  clear hm11 hb11 hs11 HM10
  go_wp2_with fail
  refine (write_m (-1) (mkB 1) _ HM11.out (by simp) B11.size (mkB_len _) (by decide) (E := 1) (d' := names3) rfl rfl).mono ?_; rintro e w12 ⟨rfl, hm12, hb12, hs12⟩
  have HM12 := Lib.hid hm12
  have B12 := B11.trans hb12
  clear hm12 hb12 hs12 HM11
  go_wp2_with fail
  refine (cut_m (-1) _ [] _ HM12.out (by simp) B12.size (BoolsV.nil _) (by decide) (by decide) (E := 1) (d' := names4) rfl rfl).mono ?_; rintro e w13 ⟨rfl, hm13, hb13, hs13⟩
  have HM13 := Lib.hid hm13
  have B13 := B12.trans hb13
  clear hm13 hb13 hs13 HM12
  go_wp2_with fail
  refine (is_m 8191 0 0 rfl _ HM13.out (i := 2) (d := names4) (by simp) B13.size (by decide) (r := true) (by rw [show names4.read 8191 = wantB 0 from rfl]; simp; try rfl)).mono ?_; rintro e w14 ⟨rfl, hm14, hb14, hs14⟩
  have HM14 := Lib.hid hm14
  have B14 := B13.trans hb14
  clear hm14 hb14 hs14 HM13
  go_wp2_with fail
  refine (block_m 1 1 rfl _ HM14.out B14.size).mono ?_; rintro e w15 ⟨rfl, hm15, hb15, hs15⟩
  have HM15 := Lib.hid hm15
  have B15 := B14.trans hb15
  clear hm15 hb15 hs15 HM14
  go_wp2_with fail
  refine (write_m (8191) (mkB 1) _ HM15.out (by simp) B15.size (mkB_len _) (by decide) (E := 0) (d' := names5) rfl rfl).mono ?_; rintro e w16 ⟨rfl, hm16, hb16, hs16⟩
  have HM16 := Lib.hid hm16
  have B16 := B15.trans hb16
  clear hm16 hb16 hs16 HM15
  go_wp2_with fail
  refine (cut_m (1) _ [] _ HM16.out (by simp) B16.size (BoolsV.nil _) (by decide) (by decide) (E := 0) (d' := names6) rfl rfl).mono ?_; rintro e w17 ⟨rfl, hm17, hb17, hs17⟩
  have HM17 := Lib.hid hm17
  have B17 := B16.trans hb17
  clear hm17 hb17 hs17 HM16
  go_wp2_with fail
  refine (cut_m (0) _ [] _ HM17.out (by simp) B17.size (BoolsV.nil _) (by decide) (by decide) (E := 0) (d' := names7) rfl rfl).mono ?_; rintro e w18 ⟨rfl, hm18, hb18, hs18⟩
  have HM18 := Lib.hid hm18
  have B18 := B17.trans hb18
  clear hm18 hb18 hs18 HM17
  go_wp2_with fail
  refine (flush_m _ HM18.out (by simp) B18.size (E := 0) (d' := names8) rfl rfl).mono ?_; rintro e w19 ⟨rfl, hm19, hb19, hs19⟩
  have HM19 := Lib.hid hm19
  have B19 := B18.trans hb19
  clear hm19 hb19 hs19 HM18
  go_wp2_with fail
  refine (cut_m (1) _ [] _ HM19.out (by simp) B19.size (BoolsV.nil _) (by decide) (by decide) (E := 0) (d' := names9) rfl rfl).mono ?_; rintro e w20 ⟨rfl, hm20, hb20, hs20⟩
  have HM20 := Lib.hid hm20
  have B20 := B19.trans hb20
  clear hm20 hb20 hs20 HM19
  go_wp2_with fail
  refine (cut_m (2) _ [true, false] _ (HM20.out.alloc _) (by simp) (by have := B20.size; simp; omega) (BoolsV.lit _ _ _ rfl (by decide) _ rfl) (by decide) (by decide) (E := 0) (d' := names10) rfl rfl).mono ?_; rintro e w21 ⟨rfl, hm21, hb21, hs21⟩
  have HM21 := Lib.hid hm21
  have B21 := (B20.alloc B20.size (.cells #[.bool true, .bool false] 4)).trans hb21
  clear hm21 hb21 hs21 HM20
  go_wp2_with fail
  refine (block_m 2 2 rfl _ HM21.out B21.size).mono ?_; rintro e w22 ⟨rfl, hm22, hb22, hs22⟩
  have HM22 := Lib.hid hm22
  have B22 := B21.trans hb22
  clear hm22 hb22 hs22 HM21
  go_wp2_with fail
  refine (write_m (9000) (mkB 2) _ HM22.out (by simp) B22.size (mkB_len _) (by decide) (E := 1) (d' := names11) rfl rfl).mono ?_; rintro e w23 ⟨rfl, hm23, hb23, hs23⟩
  have HM23 := Lib.hid hm23
  have B23 := B22.trans hb23
  clear hm23 hb23 hs23 HM22
  go_wp2_with fail
  refine (block_m 2 2 rfl _ HM23.out B23.size).mono ?_; rintro e w24 ⟨rfl, hm24, hb24, hs24⟩
  have HM24 := Lib.hid hm24
  have B24 := B23.trans hb24
  clear hm24 hb24 hs24 HM23
  go_wp2_with fail
  refine (write_m (7) (mkB 2) _ HM24.out (by simp) B24.size (mkB_len _) (by decide) (E := 0) (d' := names12) rfl rfl).mono ?_; rintro e w25 ⟨rfl, hm25, hb25, hs25⟩
  have HM25 := Lib.hid hm25
  have B25 := B24.trans hb25
  clear hm25 hb25 hs25 HM24
  go_wp2_with fail
  refine (block_m 3 3 rfl _ HM25.out B25.size).mono ?_; rintro e w26 ⟨rfl, hm26, hb26, hs26⟩
  have HM26 := Lib.hid hm26
  have B26 := B25.trans hb26
  clear hm26 hb26 hs26 HM25
  go_wp2_with fail
  refine (write_m (8191) (mkB 3) _ HM26.out (by simp) B26.size (mkB_len _) (by decide) (E := 51) (d' := names13) rfl rfl).mono ?_; rintro e w27 ⟨rfl, hm27, hb27, hs27⟩
  have HM27 := Lib.hid hm27
  have B27 := B26.trans hb27
  clear hm27 hb27 hs27 HM26
  go_wp2_with fail
  refine (read_m (7) _ HM27.out (i := 2) (d := names13) (by simp) B27.size (by decide) (E := 51) (R := zs 512) rfl rfl).mono ?_; rintro e w28 ⟨rfl, hm28, hb28, hs28⟩
  have HM28 := Lib.hid hm28
  have B28 := B27.trans hb28
  clear hm28 hb28 hs28 HM27
  have HA28 := Lib.hid (Lies.new w28 (zs 512) _ rfl)
  go_wp2_with (with_reducible refine wpList_store_blk (m := zs 512) rfl _ _ rfl rfl rfl HA28.out (zs_len 512) (zs_len 512) ?_)
  intro v28 hl28 gr28
  have bs28 : Below w28.heap.size w28 v28 := below_row ((Below.refl _ _).alloc (Nat.le_refl _) _) gr28 (by simp) (Nat.le_refl _)
  have HN28 := Lib.hid (HM28.out.below bs28)
  have C28 := chain B28 bs28
  clear hl28 gr28 bs28 HA28 HM28
  go_wp2_with fail
  refine (dead_m _ HN28.out (i := 2) (d := names13) (by simp) (r := true) rfl).mono ?_; rintro e w29 ⟨rfl, hm29, hb29, hs29⟩
  have HM29 := Lib.hid hm29
  have B29 := C28.trans hb29
  clear hm29 hb29 hs29 HN28
  go_wp2_with fail
  refine (waiting_m _ HM29.out (i := 2) (d := names13) (by simp) (n := 0) rfl).mono ?_; rintro e w30 ⟨rfl, hm30, hb30, hs30⟩
  have HM30 := Lib.hid hm30
  have B30 := B29.trans hb30
  clear hm30 hb30 hs30 HM29
  go_wp2_with fail
  refine (block_m 1 1 rfl _ HM30.out B30.size).mono ?_; rintro e w31 ⟨rfl, hm31, hb31, hs31⟩
  have HM31 := Lib.hid hm31
  have B31 := B30.trans hb31
  clear hm31 hb31 hs31 HM30
  go_wp2_with fail
  refine (write_m (7) (mkB 1) _ HM31.out (by simp) B31.size (mkB_len _) (by decide) (E := 51) (d' := names14) rfl rfl).mono ?_; rintro e w32 ⟨rfl, hm32, hb32, hs32⟩
  have HM32 := Lib.hid hm32
  have B32 := B31.trans hb32
  clear hm32 hb32 hs32 HM31
  go_wp2_with fail
  refine (flush_m _ HM32.out (by simp) B32.size (E := 51) (d' := names15) rfl rfl).mono ?_; rintro e w33 ⟨rfl, hm33, hb33, hs33⟩
  have HM33 := Lib.hid hm33
  have B33 := B32.trans hb33
  clear hm33 hb33 hs33 HM32
  go_wp2_with fail
  refine (cut_m (1) _ [] _ HM33.out (by simp) B33.size (BoolsV.nil _) (by decide) (by decide) (E := 51) (d' := names16) rfl rfl).mono ?_; rintro e w34 ⟨rfl, hm34, hb34, hs34⟩
  have HM34 := Lib.hid hm34
  have B34 := B33.trans hb34
  clear hm34 hb34 hs34 HM33
  go_wp2_with fail
  refine (fail_m _ [] _ HM34.out (by simp) B34.size (BoolsV.nil _) (E := 51) (d' := names17) rfl rfl).mono ?_; rintro e w35 ⟨rfl, hm35, hb35, hs35⟩
  have HM35 := Lib.hid hm35
  have B35 := B34.trans hb35
  clear hm35 hb35 hs35 HM34
  go_wp2_with fail
  refine (block_m 1 1 rfl _ HM35.out B35.size).mono ?_; rintro e w36 ⟨rfl, hm36, hb36, hs36⟩
  have HM36 := Lib.hid hm36
  have B36 := B35.trans hb36
  clear hm36 hb36 hs36 HM35
  go_wp2_with fail
  refine (write_m (-1) (mkB 1) _ HM36.out (by simp) B36.size (mkB_len _) (by decide) (E := 51) (d' := names18) rfl rfl).mono ?_; rintro e w37 ⟨rfl, hm37, hb37, hs37⟩
  have HM37 := Lib.hid hm37
  have B37 := B36.trans hb37
  clear hm37 hb37 hs37 HM36
  go_wp2_with fail
  refine (booted_m 3 (i := 2) (d := names18) _ HM37.out (by simp) (by decide) (by simp) B37.size rfl (d' := names19) rfl).mono ?_; rintro e w38 ⟨g38, rfl, hm38, hb38, hs38⟩
  have HM38 := Lib.hid hm38
  have B38 := B37.trans hb38
  clear hm38 hb38 hs38 HM37
  go_wp2_with fail
  refine (booted_m 4 (i := 2) (d := names18) _ HM38.out (by simp) (by decide) (by simp) B38.size rfl (d' := names20) rfl).mono ?_; rintro e w39 ⟨g39, rfl, hm39, hb39, hs39⟩
  have HM39 := Lib.hid hm39
  have B39 := B38.trans hb39
  clear hm39 hb39 hs39 HM38
  go_wp2_with fail
  refine (is_m 7 2 2 rfl _ HM39.out (i := 3) (d := names19) (by simp) B39.size (by decide) (r := true) (by rw [show names19.read 7 = wantB 2 from rfl]; simp; try rfl)).mono ?_; rintro e w40 ⟨rfl, hm40, hb40, hs40⟩
  have HM40 := Lib.hid hm40
  have B40 := B39.trans hb40
  clear hm40 hb40 hs40 HM39
  go_wp2_with fail
  refine (is_m 8191 1 1 rfl _ HM40.out (i := 3) (d := names19) (by simp) B40.size (by decide) (r := true) (by rw [show names19.read 8191 = wantB 1 from rfl]; simp; try rfl)).mono ?_; rintro e w41 ⟨rfl, hm41, hb41, hs41⟩
  have HM41 := Lib.hid hm41
  have B41 := B40.trans hb41
  clear hm41 hb41 hs41 HM40
  go_wp2_with fail
  refine (block_m 5 5 rfl _ HM41.out B41.size).mono ?_; rintro e w42 ⟨rfl, hm42, hb42, hs42⟩
  have HM42 := Lib.hid hm42
  have B42 := B41.trans hb42
  clear hm42 hb42 hs42 HM41
  have HS43 := Lib.hid (HM42.out.sub (own' := []) (l' := [(3, g38, names19), (4, g39, names20), (2, g4, names18)]) (fun _ h => h) (by simp))
  clear HM42
  go_wp2_with fail
  refine (write_m (7) (mkB 5) _ HS43.out (by simp) B42.size (mkB_len _) (by decide) (E := 0) (d' := names21) rfl rfl).mono ?_; rintro e w43 ⟨rfl, hm43, hb43, hs43⟩
  have HM43 := Lib.hid hm43
  have B43 := B42.trans hb43
  clear hm43 hb43 hs43 HS43
  go_wp2_with fail
  refine (flush_m _ HM43.out (by simp) B43.size (E := 0) (d' := names22) rfl rfl).mono ?_; rintro e w44 ⟨rfl, hm44, hb44, hs44⟩
  have HM44 := Lib.hid hm44
  have B44 := B43.trans hb44
  clear hm44 hb44 hs44 HM43
  go_wp2_with fail
  refine (is_m 7 2 2 rfl _ HM44.out (i := 4) (d := names20) (by simp) B44.size (by decide) (r := true) (by rw [show names20.read 7 = wantB 2 from rfl]; simp; try rfl)).mono ?_; rintro e w45 ⟨rfl, hm45, hb45, hs45⟩
  have HM45 := Lib.hid hm45
  have B45 := B44.trans hb45
  clear hm45 hb45 hs45 HM44
  go_wp2_with fail
  refine (booted_m 5 (i := 2) (d := names18) _ HM45.out (by simp) (by decide) (by simp) B45.size rfl (d' := names23) rfl).mono ?_; rintro e w46 ⟨g46, rfl, hm46, hb46, hs46⟩
  have HM46 := Lib.hid hm46
  have B46 := B45.trans hb46
  clear hm46 hb46 hs46 HM45
  go_wp2_with fail
  refine (is_m 7 2 2 rfl _ HM46.out (i := 5) (d := names23) (by simp) B46.size (by decide) (r := true) (by rw [show names23.read 7 = wantB 2 from rfl]; simp; try rfl)).mono ?_; rintro e w47 ⟨rfl, hm47, hb47, hs47⟩
  have HM47 := Lib.hid hm47
  have B47 := B46.trans hb47
  clear hm47 hb47 hs47 HM46
  have HS48 := Lib.hid (HM47.out.sub (own' := []) (l' := [(3, g38, names22), (4, g39, names20), (2, g4, names18)]) (fun _ h => h) (by simp))
  clear HM47
  have HS49 := Lib.hid (HS48.out.sub (own' := []) (l' := [(3, g38, names22), (2, g4, names18)]) (fun _ h => h) (by simp))
  clear HS48
  have HS50 := Lib.hid (HS49.out.sub (own' := []) (l' := [(3, g38, names22)]) (fun _ h => h) (by simp))
  clear HS49
  go_wp2_with fail
  refine (block_m 6 6 rfl _ HS50.out B47.size).mono ?_; rintro e w51 ⟨rfl, hm51, hb51, hs51⟩
  have HM51 := Lib.hid hm51
  have B51 := B47.trans hb51
  clear hm51 hb51 hs51 HS50
  go_wp2_with fail
  refine (write_m (8) (mkB 6) _ HM51.out (by simp) B51.size (mkB_len _) (by decide) (E := 0) (d' := names24) rfl rfl).mono ?_; rintro e w52 ⟨rfl, hm52, hb52, hs52⟩
  have HM52 := Lib.hid hm52
  have B52 := B51.trans hb52
  clear hm52 hb52 hs52 HM51
  go_wp2_with fail
  refine (cut_m (1) _ [true] _ (HM52.out.alloc _) (by simp) (by have := B52.size; simp; omega) (BoolsV.lit _ _ _ rfl (by decide) _ rfl) (by decide) (by decide) (E := 0) (d' := names25) rfl rfl).mono ?_; rintro e w53 ⟨rfl, hm53, hb53, hs53⟩
  have HM53 := Lib.hid hm53
  have B53 := (B52.alloc B52.size (.cells #[.bool true] 4)).trans hb53
  clear hm53 hb53 hs53 HM52
  go_wp2_with fail
  refine (copy_m 6 (i := 3) (d := names25) _ HM53.out (by simp) (by decide) (by simp) B53.size).mono ?_; rintro e w54 ⟨g54, rfl, hm54, hb54, hs54⟩
  have HM54 := Lib.hid hm54
  have B54 := B53.trans hb54
  clear hm54 hb54 hs54 HM53
  have HS55 := Lib.hid (HM54.out.sub (own' := []) (l' := [(3, g38, names25), (6, g54, names25)]) (fun _ h => h) (by simp))
  clear HM54
  go_wp2_with fail
  refine (flush_m _ HS55.out (by simp) B54.size (E := 51) (d' := names26) rfl rfl).mono ?_; rintro e w55 ⟨rfl, hm55, hb55, hs55⟩
  have HM55 := Lib.hid hm55
  have B55 := B54.trans hb55
  clear hm55 hb55 hs55 HS55
  go_wp2_with fail
  refine (dead_m _ HM55.out (i := 6) (d := names25) (by simp) (r := false) rfl).mono ?_; rintro e w56 ⟨rfl, hm56, hb56, hs56⟩
  have HM56 := Lib.hid hm56
  have B56 := B55.trans hb56
  clear hm56 hb56 hs56 HM55
  have HS57 := Lib.hid (HM56.out.sub (own' := []) (l' := [(6, g54, names25), (3, g38, names26)]) (fun _ h => h) (by simp))
  clear HM56
  go_wp2_with fail
  refine (cut_m (0) _ [] _ HS57.out (by simp) B56.size (BoolsV.nil _) (by decide) (by decide) (E := 0) (d' := names27) rfl rfl).mono ?_; rintro e w57 ⟨rfl, hm57, hb57, hs57⟩
  have HM57 := Lib.hid hm57
  have B57 := B56.trans hb57
  clear hm57 hb57 hs57 HS57
  go_wp2_with fail
  refine (flush_m _ HM57.out (by simp) B57.size (E := 0) (d' := names28) rfl rfl).mono ?_; rintro e w58 ⟨rfl, hm58, hb58, hs58⟩
  have HM58 := Lib.hid hm58
  have B58 := B57.trans hb58
  clear hm58 hb58 hs58 HM57
  go_wp2_with fail
  refine (is_m 8 6 6 rfl _ HM58.out (i := 6) (d := names28) (by simp) B58.size (by decide) (r := true) (by rw [show names28.read 8 = wantB 6 from rfl]; simp; try rfl)).mono ?_; rintro e w59 ⟨rfl, hm59, hb59, hs59⟩
  have HM59 := Lib.hid hm59
  have B59 := B58.trans hb59
  clear hm59 hb59 hs59 HM58
  go_wp2_with fail
  refine (booted_m 7 (i := 3) (d := names26) _ HM59.out (by simp) (by decide) (by simp) B59.size rfl (d' := names29) rfl).mono ?_; rintro e w60 ⟨g60, rfl, hm60, hb60, hs60⟩
  have HM60 := Lib.hid hm60
  have B60 := B59.trans hb60
  clear hm60 hb60 hs60 HM59
  go_wp2_with fail
  refine (is_m 8 6 6 rfl _ HM60.out (i := 7) (d := names29) (by simp) B60.size (by decide) (r := true) (by rw [show names29.read 8 = wantB 6 from rfl]; simp; try rfl)).mono ?_; rintro e w61 ⟨rfl, hm61, hb61, hs61⟩
  have HM61 := Lib.hid hm61
  have B61 := B60.trans hb61
  clear hm61 hb61 hs61 HM60
  have HS62 := Lib.hid (HM61.out.sub (own' := []) (l' := [(6, g54, names28), (3, g38, names26)]) (fun _ h => h) (by simp))
  clear HM61
  have HS63 := Lib.hid (HS62.out.sub (own' := []) (l' := [(6, g54, names28)]) (fun _ h => h) (by simp))
  clear HS62
  go_wp2_with fail
  have hkp : Many w.heap.size [w61.heap.size] (w61.alloc (.cells #[.bool true] 4)) [(6, g54, names28)] := HS63.out.mine _
  have hkc : (w61.alloc (.cells #[.bool true] 4)).heap[w61.heap.size]? = some (.cells #[.bool true] 4 (0, 0)) := heap_alloc_new _ _
  obtain ⟨bk, hbk⟩ : ∃ bk, bk = w61.heap.size := ⟨_, rfl⟩
  rw [← hbk] at hkp hkc
  have hkw : w.heap.size ≤ bk := by rw [hbk]; exact B61.size
  have HKW := Lib.hid hkw
  clear hkw
  have B64 := B61.alloc B61.size (.cells #[.bool true] 4)
  have HM64 := Lib.hid hkp
  have HKC := Lib.hid hkc
  rw [← hbk]
  clear hkp hkc HS63
  obtain ⟨w64, hw64⟩ : ∃ w64, w64 = w61.alloc (.cells #[.bool true] 4) := ⟨_, rfl⟩
  rw [← hw64] at B64 HM64 HKC ⊢
  clear hbk hw64
  go_wp2_with fail
  refine (block_m 4 4 rfl _ HM64.out B64.size).mono ?_; rintro e w65 ⟨rfl, hm65, hb65, hs65⟩
  have HM65 := Lib.hid hm65
  have B65 := B64.trans hb65
  have HKC := Lib.hid ((hs65 bk (by simp)).trans HKC.out)
  clear hm65 hb65 hs65 HM64
  go_wp2_with fail
  refine (write_m (9) (mkB 4) _ HM65.out (by simp) B65.size (mkB_len _) (by decide) (E := 0) (d' := names30) rfl rfl).mono ?_; rintro e w66 ⟨rfl, hm66, hb66, hs66⟩
  have HM66 := Lib.hid hm66
  have B66 := B65.trans hb66
  have HKC := Lib.hid ((hs66 bk (by simp)).trans HKC.out)
  clear hm66 hb66 hs66 HM65
  go_wp2_with fail
  refine (cut_m (1) _ [true] _ HM66.out (by simp) B66.size (BoolsV.block HKC.out rfl (by decide) 1 rfl) (by decide) (by decide) (E := 0) (d' := names31) rfl rfl).mono ?_; rintro e w67 ⟨rfl, hm67, hb67, hs67⟩
  have HM67 := Lib.hid hm67
  have B67 := B66.trans hb67
  have HKC := Lib.hid ((hs67 bk (by simp)).trans HKC.out)
  clear hm67 hb67 hs67 HM66
  have ck68 := (cell_of_row w67 bk 0 _ _ _ HKC.out).trans (show (#[Value.bool true] : Array Value)[0]? = _ from rfl)
  have fk68 := frozen_of_row w67 bk 0 _ _ HKC.out
  have hst : Many w.heap.size [bk] (w67.setCell ⟨bk, 0, none⟩ (.bool false)) [(6, g54, names31)] := HM67.out.own_set (by simp) (wb_set' _ _ _ _)
  have HM68 := Lib.hid (hst.sub (own' := []) (fun _ h => by cases h) (fun _ h => h))
  have hkw : w.heap.size ≤ bk := HKW.out
  have B68 := B67.setCell (p := ⟨bk, 0, none⟩) hkw (.bool false)
  clear hst HM67
  go_wp2_with fail
  clear ck68 fk68
  generalize w67.setCell ⟨bk, 0, none⟩ (.bool false) = w68 at *
  go_wp2_with fail
  refine (flush_m _ HM68.out (by simp) B68.size (E := 51) (d' := names32) rfl rfl).mono ?_; rintro e w69 ⟨rfl, hm69, hb69, hs69⟩
  have HM69 := Lib.hid hm69
  have B69 := B68.trans hb69
  clear hm69 hb69 hs69 HM68
  go_wp2_with fail
  refine (booted_m 8 (i := 6) (d := names32) _ HM69.out (by simp) (by decide) (by simp) B69.size rfl (d' := names33) rfl).mono ?_; rintro e w70 ⟨g70, rfl, hm70, hb70, hs70⟩
  have HM70 := Lib.hid hm70
  have B70 := B69.trans hb70
  clear hm70 hb70 hs70 HM69
  go_wp2_with fail
  refine (is_m 9 4 4 rfl _ HM70.out (i := 8) (d := names33) (by simp) B70.size (by decide) (r := true) (by rw [show names33.read 9 = wantB 4 from rfl]; simp; try rfl)).mono ?_; rintro e w71 ⟨rfl, hm71, hb71, hs71⟩
  have HM71 := Lib.hid hm71
  have B71 := B70.trans hb71
  clear hm71 hb71 hs71 HM70
  go_wp2_with fail
  refine (Read_nil 0 _).mono ?_; rintro e w72 ⟨rfl, hw72⟩
  have HM72 := Lib.hid (HM71.out.below hw72)
  have B72 := chain B71 hw72
  clear hw72 HM71
  have HA72 := Lib.hid (Lies.new w72 (zs 512) _ rfl)
  go_wp2_with (with_reducible refine wpList_store_blk (m := zs 512) rfl _ _ rfl rfl rfl HA72.out (zs_len 512) (zs_len 512) ?_)
  intro v72 hl72 gr72
  have bs72 : Below w72.heap.size w72 v72 := below_row ((Below.refl _ _).alloc (Nat.le_refl _) _) gr72 (by simp) (Nat.le_refl _)
  have HN72 := Lib.hid (HM72.out.below bs72)
  have C72 := chain B72 bs72
  clear hl72 gr72 bs72 HA72 HM72
  go_wp2_with fail
  refine (Boot_nil _).mono ?_; rintro e w73 ⟨rfl, rfl⟩
  go_wp2_with fail
  refine (block_m 0 0 rfl _ HN72.out C72.size).mono ?_; rintro e w74 ⟨rfl, hm74, hb74, hs74⟩
  have HM74 := Lib.hid hm74
  have B74 := C72.trans hb74
  clear hm74 hb74 hs74 HN72
  go_wp2_with fail
  refine (Write_nil 0 (mkB 0) _).mono ?_; rintro e w75 ⟨rfl, hw75⟩
  have HM75 := Lib.hid (HM74.out.below hw75)
  have B75 := chain B74 hw75
  clear hw75 HM74
  go_wp2_with fail
  refine (Flush_nil _).mono ?_; rintro e w76 ⟨rfl, rfl⟩
  go_wp2_with fail
  refine (Cut_nil 0 _ _).mono ?_; rintro e w77 ⟨rfl, rfl⟩
  go_wp2_with fail
  refine (Fail_nil _ _).mono ?_; rintro e w78 ⟨rfl, rfl⟩
  go_wp2_with fail
  refine (Blocks_nil _).mono ?_; rintro e w79 ⟨rfl, rfl⟩
  go_wp2_with fail
  refine (Waiting_nil _).mono ?_; rintro e w80 ⟨rfl, rfl⟩
  go_wp2_with fail
  refine (Dead_nil _).mono ?_; rintro e w81 ⟨rfl, rfl⟩
  go_wp2_with fail
  refine (Copy_nil _).mono ?_; rintro e w82 ⟨rfl, rfl⟩
  go_wp2_with fail
  go_ret
  exact ⟨rfl, B75⟩

theorem names_walk : Walks Try.prog 6 Try.f6 := by
  intro H enc W args ds p base hval hA hz
  rw [Try.params6] at hA hval
  obtain ⟨rfl, rfl, rfl⟩ := trodAll_none hA
  exact names_any W

theorem DiskNames_holds : Rows.DiskNamesSaid :=
  OpenClaim.holds_of_wide 6 Try.f6 rfl rfl rfl rfl rfl rfl rfl ⟨rfl, rfl, rfl, rfl, rfl⟩ rfl rfl rfl rfl rfl (by kernel_rfl) Try.func6 (by kernel_rfl)
    (of_decide_eq_true (by kernel_rfl)) (by unfold Func.isWrapper; first | (rw [if_pos (by decide +kernel)]; kernel_rfl) | (rw [if_neg (by decide +kernel)]; exact ⟨rfl, rfl⟩))
    (fun os started H enc _ => law_lifted (C := Try.checked) (s := Rows.diskNamesSpec) own started (by kernel_rfl) Try.func6 laidOut rfl rfl Try.underlying4
      (by have h : ∀ u ∈ Try.f6.params.toList, (Try.prog.readableRec u && decide (u < Try.prog.types.size)) = true := List.all_eq_true.1 (by kernel_rfl)
          intro u hu; have := h u hu; rw [Bool.and_eq_true, decide_eq_true_eq] at this; exact this)
      (by intro H l hl; rw [show Try.f6.params.size = 0 from by rw [Try.params6]; rfl] at hl; match l, hl with | [], _ => rfl)
      H enc (ChangeSpec.witness6 (enc := enc) (C := Try.checked) false ⟨#[], #[], []⟩ 8 (by kernel_rfl) (by kernel_rfl) (by kernel_rfl) (by kernel_rfl)) names_walk)
#print axioms DiskNames_holds
end Go.Proofs.Ytldkokngbnaimaa
