/- The disks' examples (jettylaw07.works). Conditions: none. -/
import Derived.Test.YtldkokngbnaimaaDskDV
namespace Go.Proofs.Ytldkokngbnaimaa
set_option linter.unusedVariables false
set_option linter.unusedSimpArgs false
open Go.ChangeShapes Go.WideShapes Go.ChangeAt Go.RowKit

def wk1 : Dk := Dk.new 64
def wk2 : Dk := wk1.write 1 (mkB 97)
def wk3 : Dk := wk2.write 1 (mkB 98)
def wk4 : Dk := wk3.failD [true]
def wk5 : Dk := wk4.boot
def wk6 : Dk := wk5.write 2 (mkB 99)
def wk7 : Dk := wk6.flush
def wk8 : Dk := wk7.write 2 (mkB 100)
def wk9 : Dk := wk8.sayCut 1 [false, true]
def wk10 : Dk := wk9.write 3 (mkB 101)
def wk11 : Dk := wk10.boot
def wk12 : Dk := wk11.sayCut 2 []
def wk13 : Dk := wk12.write 5 (mkB 102)
def wk14 : Dk := wk13.flush

set_option maxHeartbeats 3200000 in
theorem works_any (w : World) : Calls Try.prog 9 #[] w fun e w' => e = .returned (.bool true) ∧ Below w.heap.size w w' := by
  go_enter Try.func9, Try.ntmps9
  go_wp2_with fail
  refine (new_dv (B := w.heap.size) 64 _ (Nat.le_refl _) (by decide) (by decide) (d' := wk1) rfl).mono ?_; rintro e w1 ⟨g1, rfl, hd1, hb1⟩
  have HD1 := Lib.hid hd1
  have B1 := (Below.refl _ _).trans hb1
  clear hd1 hb1
  go_wp2_with fail
  refine (block_dv 97 97 rfl _ HD1.out B1.size).mono ?_; rintro e w2 ⟨rfl, hd2, hb2⟩
  have HD2 := Lib.hid hd2
  have B2 := B1.trans hb2
  clear hd2 hb2 HD1
  go_wp2_with fail
  refine (write_dv 1 (mkB 97) _ HD2.out B2.size (mkB_len _) (by decide) (E := 0) (d' := wk2) rfl rfl).mono ?_; rintro e w3 ⟨rfl, hd3, hb3⟩
  have HD3 := Lib.hid hd3
  have B3 := B2.trans hb3
  clear hd3 hb3 HD2
  go_wp2_with fail
  refine (block_dv 98 98 rfl _ HD3.out B3.size).mono ?_; rintro e w4 ⟨rfl, hd4, hb4⟩
  have HD4 := Lib.hid hd4
  have B4 := B3.trans hb4
  clear hd4 hb4 HD3
  go_wp2_with fail
  refine (write_dv 1 (mkB 98) _ HD4.out B4.size (mkB_len _) (by decide) (E := 0) (d' := wk3) rfl rfl).mono ?_; rintro e w5 ⟨rfl, hd5, hb5⟩
  have HD5 := Lib.hid hd5
  have B5 := B4.trans hb5
  clear hd5 hb5 HD4
  go_wp2_with fail
  refine (is_dv 1 98 98 rfl _ HD5.out B5.size (by decide) (r := true) (by rw [show wk3.read 1 = wantB 98 from rfl]; simp; try rfl)).mono ?_; rintro e w6 ⟨rfl, hd6, hb6⟩
  have HD6 := Lib.hid hd6
  have B6 := B5.trans hb6
  clear hd6 hb6 HD5
  go_wp2_with fail
  refine (waiting_dv _ HD6.out (n := 2) rfl).mono ?_; rintro e w7 ⟨rfl, hd7, hb7⟩
  have HD7 := Lib.hid hd7
  have B7 := B6.trans hb7
  clear hd7 hb7 HD6
  go_wp2_with fail
  refine (fail_dv _ [true] _ (DV.alloc HD7.out _) (by have := B7.size; simp; omega) (BoolsV.lit _ _ _ rfl (by decide) _ rfl) (E := 0) (d' := wk4) rfl rfl).mono ?_; rintro e w8 ⟨rfl, hd8, hb8⟩
  have HD8 := Lib.hid hd8
  have B8 := (B7.alloc B7.size (.cells #[.bool true] 4)).trans hb8
  clear hd8 hb8 HD7
  go_wp2_with fail
  refine (dead_dv _ HD8.out (r := true) rfl).mono ?_; rintro e w9 ⟨rfl, hd9, hb9⟩
  have HD9 := Lib.hid hd9
  have B9 := B8.trans hb9
  clear hd9 hb9 HD8
  go_wp2_with fail
  refine (booted_dv _ HD9.out B9.size rfl (d' := wk5) rfl).mono ?_; rintro e w10 ⟨g10, rfl, hd10, hb10⟩
  have HD10 := Lib.hid hd10
  have B10 := B9.trans hb10
  clear hd10 hb10 HD9
  go_wp2_with fail
  refine (is_dv 1 97 97 rfl _ HD10.out B10.size (by decide) (r := true) (by rw [show wk5.read 1 = wantB 97 from rfl]; simp; try rfl)).mono ?_; rintro e w11 ⟨rfl, hd11, hb11⟩
  have HD11 := Lib.hid hd11
  have B11 := B10.trans hb11
  clear hd11 hb11 HD10
  go_wp2_with fail
  refine (block_dv 99 99 rfl _ HD11.out B11.size).mono ?_; rintro e w12 ⟨rfl, hd12, hb12⟩
  have HD12 := Lib.hid hd12
  have B12 := B11.trans hb12
  clear hd12 hb12 HD11
  go_wp2_with fail
  refine (write_dv 2 (mkB 99) _ HD12.out B12.size (mkB_len _) (by decide) (E := 0) (d' := wk6) rfl rfl).mono ?_; rintro e w13 ⟨rfl, hd13, hb13⟩
  have HD13 := Lib.hid hd13
  have B13 := B12.trans hb13
  clear hd13 hb13 HD12
  go_wp2_with fail
  refine (flush_dv _ HD13.out B13.size (E := 0) (d' := wk7) rfl rfl).mono ?_; rintro e w14 ⟨rfl, hd14, hb14⟩
  have HD14 := Lib.hid hd14
  have B14 := B13.trans hb14
  clear hd14 hb14 HD13
  go_wp2_with fail
  refine (block_dv 100 100 rfl _ HD14.out B14.size).mono ?_; rintro e w15 ⟨rfl, hd15, hb15⟩
  have HD15 := Lib.hid hd15
  have B15 := B14.trans hb15
  clear hd15 hb15 HD14
  go_wp2_with fail
  refine (write_dv 2 (mkB 100) _ HD15.out B15.size (mkB_len _) (by decide) (E := 0) (d' := wk8) rfl rfl).mono ?_; rintro e w16 ⟨rfl, hd16, hb16⟩
  have HD16 := Lib.hid hd16
  have B16 := B15.trans hb16
  clear hd16 hb16 HD15
  go_wp2_with fail
  refine (cut_dv 1 _ [false, true] _ (DV.alloc HD16.out _) (by have := B16.size; simp; omega) (BoolsV.lit _ _ _ rfl (by decide) _ rfl) (by decide) (by decide) (E := 0) (d' := wk9) rfl rfl).mono ?_; rintro e w17 ⟨rfl, hd17, hb17⟩
  have HD17 := Lib.hid hd17
  have B17 := (B16.alloc B16.size (.cells #[.bool false, .bool true] 4)).trans hb17
  clear hd17 hb17 HD16
  go_wp2_with fail
  refine (block_dv 101 101 rfl _ HD17.out B17.size).mono ?_; rintro e w18 ⟨rfl, hd18, hb18⟩
  have HD18 := Lib.hid hd18
  have B18 := B17.trans hb18
  clear hd18 hb18 HD17
  go_wp2_with fail
  refine (write_dv 3 (mkB 101) _ HD18.out B18.size (mkB_len _) (by decide) (E := 51) (d' := wk10) rfl rfl).mono ?_; rintro e w19 ⟨rfl, hd19, hb19⟩
  have HD19 := Lib.hid hd19
  have B19 := B18.trans hb19
  clear hd19 hb19 HD18
  go_wp2_with fail
  refine (booted_dv _ HD19.out B19.size rfl (d' := wk11) rfl).mono ?_; rintro e w20 ⟨g20, rfl, hd20, hb20⟩
  have HD20 := Lib.hid hd20
  have B20 := B19.trans hb20
  clear hd20 hb20 HD19
  go_wp2_with fail
  refine (is_dv 2 99 99 rfl _ HD20.out B20.size (by decide) (r := true) (by rw [show wk11.read 2 = wantB 99 from rfl]; simp; try rfl)).mono ?_; rintro e w21 ⟨rfl, hd21, hb21⟩
  have HD21 := Lib.hid hd21
  have B21 := B20.trans hb21
  clear hd21 hb21 HD20
  go_wp2_with fail
  refine (is_dv 3 101 101 rfl _ HD21.out B21.size (by decide) (r := true) (by rw [show wk11.read 3 = wantB 101 from rfl]; simp; try rfl)).mono ?_; rintro e w22 ⟨rfl, hd22, hb22⟩
  have HD22 := Lib.hid hd22
  have B22 := B21.trans hb22
  clear hd22 hb22 HD21
  go_wp2_with fail
  refine (cut_dv 2 _ [] _ HD22.out B22.size (BoolsV.nil _) (by decide) (by decide) (E := 0) (d' := wk12) rfl rfl).mono ?_; rintro e w23 ⟨rfl, hd23, hb23⟩
  have HD23 := Lib.hid hd23
  have B23 := B22.trans hb23
  clear hd23 hb23 HD22
  go_wp2_with fail
  refine (block_dv 102 102 rfl _ HD23.out B23.size).mono ?_; rintro e w24 ⟨rfl, hd24, hb24⟩
  have HD24 := Lib.hid hd24
  have B24 := B23.trans hb24
  clear hd24 hb24 HD23
  go_wp2_with fail
  refine (write_dv 5 (mkB 102) _ HD24.out B24.size (mkB_len _) (by decide) (E := 0) (d' := wk13) rfl rfl).mono ?_; rintro e w25 ⟨rfl, hd25, hb25⟩
  have HD25 := Lib.hid hd25
  have B25 := B24.trans hb25
  clear hd25 hb25 HD24
  go_wp2_with fail
  refine (flush_dv _ HD25.out B25.size (E := 51) (d' := wk14) rfl rfl).mono ?_; rintro e w26 ⟨rfl, hd26, hb26⟩
  have HD26 := Lib.hid hd26
  have B26 := B25.trans hb26
  clear hd26 hb26 HD25
  go_wp2_with fail
  refine (dead_dv _ HD26.out (r := true) rfl).mono ?_; rintro e w27 ⟨rfl, hd27, hb27⟩
  have HD27 := Lib.hid hd27
  have B27 := B26.trans hb27
  clear hd27 hb27 HD26
  go_wp2_with fail
  go_ret
  exact ⟨rfl, B27⟩
end Go.Proofs.Ytldkokngbnaimaa
