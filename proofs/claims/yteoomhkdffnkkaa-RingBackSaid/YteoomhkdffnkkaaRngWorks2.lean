/- The rings' examples (jettylaw09.works). Conditions: none. -/
import Derived.Test.YteoomhkdffnkkaaRngWorks
namespace Go.Proofs.Yteoomhkdffnkkaa
set_option linter.unusedVariables false
set_option linter.unusedSimpArgs false
open Go.ChangeShapes Go.WideShapes Go.ChangeAt Go.RowKit Go.Joins Pl
attribute [local go_sem] ba_toList ba_size zeroValueB
set_option maxRecDepth 100000

def rwk1 : Dk := Dk.new 64
def rwk2 : Dk := rwk1.putD (1) [97]
def rwk3 : Dk := rwk2.putD (2) [98]
def rwk4 : Dk := rwk3.putD (3) [99]
def rwk5 : Dk := rwk4.write (1) (zs 512)

set_option maxHeartbeats 3200000 in
theorem rworks_any (w : World) : Calls Try.prog 16 #[] w fun e w' => e = .returned (.bool true) ∧ Below w.heap.size w w' := by
  have hm0 := Many.none w.heap.size w
  have HM0 := Lib.hid hm0
  have B0 : Below w.heap.size w w := Below.refl _ _
  clear hm0
  go_enter Try.func16, Try.ntmps16
  go_wp2_with fail
  refine (new_m 2 64 _ HM0.out (by decide) (by simp) B0.size (by decide) (by decide) (d' := rwk1) rfl).mono ?_; rintro e w1 ⟨g, rfl, hm1, hb1, hs1⟩
  have HM1 := Lib.hid hm1
  have B1 := B0.trans hb1
  clear hm1 hb1 hs1 HM0
  go_wp2_with fail
  refine (newest_m _ HM1.out (i := 2) (g := g) (d := rwk1) (by simp) (by kernel_rfl) (by kernel_rfl) B1.size (T := 0) (L := []) (E := 5) (by kernel_rfl) (by kernel_rfl) (by kernel_rfl)).mono ?_; rintro e w2 ⟨rfl, hm2, hb2, hs2⟩
  have HM2 := Lib.hid hm2
  have B2 := B1.trans hb2
  clear hm2 hb2 hs2 HM1
  go_wp2_with fail
  have HM3 := Lib.hid (HM2.out.alloc (.cells #[.int .i64 0, sv []] 29))
  have B3 := B2.alloc B2.size (.cells #[.int .i64 0, sv []] 29)
  clear HM2
  obtain ⟨w3, hw3⟩ : ∃ w3, w3 = w2.alloc (.cells #[.int .i64 0, sv []] 29) := ⟨_, rfl⟩
  rw [← hw3] at HM3 B3 ⊢
  clear hw3
  refine (rplace_m (7) _ HM3.out (p := 1) (by decide)).mono ?_; rintro e w4 ⟨rfl, hm4, hb4, hs4⟩
  have HM4 := Lib.hid hm4
  have B4 := B3.trans hb4
  clear hm4 hb4 hs4 HM3
  go_wp2_with fail
  refine (r_m (1) [97] _ HM4.out B4.size).mono ?_; rintro e w5 ⟨rfl, hm5, hb5, hs5⟩
  have HM5 := Lib.hid hm5
  have B5 := B4.trans hb5
  clear hm5 hb5 hs5 HM4
  go_wp2_with fail
  refine (put_m (1) [97] _ HM5.out (by simp) B5.size (by decide) (of_decide_eq_true (by kernel_rfl)) (E := 0) (d' := rwk2) (by kernel_rfl) rfl).mono ?_; rintro e w6 ⟨rfl, hm6, hb6, hs6⟩
  have HM6 := Lib.hid hm6
  have B6 := B5.trans hb6
  clear hm6 hb6 hs6 HM5
  go_wp2_with fail
  refine (r_m (2) [98] _ HM6.out B6.size).mono ?_; rintro e w7 ⟨rfl, hm7, hb7, hs7⟩
  have HM7 := Lib.hid hm7
  have B7 := B6.trans hb7
  clear hm7 hb7 hs7 HM6
  go_wp2_with fail
  refine (put_m (2) [98] _ HM7.out (by simp) B7.size (by decide) (of_decide_eq_true (by kernel_rfl)) (E := 0) (d' := rwk3) (by kernel_rfl) rfl).mono ?_; rintro e w8 ⟨rfl, hm8, hb8, hs8⟩
  have HM8 := Lib.hid hm8
  have B8 := B7.trans hb8
  clear hm8 hb8 hs8 HM7
  go_wp2_with fail
  refine (isnew_m 2 [98] _ HM8.out (i := 2) (g := g) (d := rwk3) (by simp) (by kernel_rfl) (by kernel_rfl) B8.size (T := 2) (L := [98]) (E := 0) (by kernel_rfl) (by kernel_rfl) (by kernel_rfl) (b := true) (by kernel_rfl)).mono ?_; rintro e w9 ⟨rfl, hm9, hb9, hs9⟩
  have HM9 := Lib.hid hm9
  have B9 := B8.trans hb9
  clear hm9 hb9 hs9 HM8
  go_wp2_with fail
  refine (r_m (3) [99] _ HM9.out B9.size).mono ?_; rintro e w10 ⟨rfl, hm10, hb10, hs10⟩
  have HM10 := Lib.hid hm10
  have B10 := B9.trans hb10
  clear hm10 hb10 hs10 HM9
  go_wp2_with fail
  refine (put_m (3) [99] _ HM10.out (by simp) B10.size (by decide) (of_decide_eq_true (by kernel_rfl)) (E := 0) (d' := rwk4) (by kernel_rfl) rfl).mono ?_; rintro e w11 ⟨rfl, hm11, hb11, hs11⟩
  have HM11 := Lib.hid hm11
  have B11 := B10.trans hb11
  clear hm11 hb11 hs11 HM10
  go_wp2_with fail
  refine (isnew_m 3 [99] _ HM11.out (i := 2) (g := g) (d := rwk4) (by simp) (by kernel_rfl) (by kernel_rfl) B11.size (T := 3) (L := [99]) (E := 0) (by kernel_rfl) (by kernel_rfl) (by kernel_rfl) (b := true) (by kernel_rfl)).mono ?_; rintro e w12 ⟨rfl, hm12, hb12, hs12⟩
  have HM12 := Lib.hid hm12
  have B12 := B11.trans hb12
  clear hm12 hb12 hs12 HM11
  go_wp2_with fail
  refine (r_m (0) [] _ HM12.out B12.size).mono ?_; rintro e w13 ⟨rfl, hm13, hb13, hs13⟩
  have HM13 := Lib.hid hm13
  have B13 := B12.trans hb13
  clear hm13 hb13 hs13 HM12
  go_wp2_with fail
  refine (seal_m (0) [] _ (by decide) HM13.out B13.size (L := zs 512) (E := 1) (by kernel_rfl) (by kernel_rfl)).mono ?_; rintro e w14 ⟨rfl, hm14, hb14, hs14⟩
  have HM14 := Lib.hid hm14
  have B14 := B13.trans hb14
  clear hm14 hb14 hs14 HM13
  have HA15 := Lib.hid (Lies.new w14 (zs 512) _ rfl)
  go_wp2_with (with_reducible refine wpList_store_blk (m := zs 512) rfl _ _ rfl rfl rfl HA15.out (zs_len 512) (zs_len 512) ?_)
  intro w15 hl15 g15
  have b15 : Below w14.heap.size w14 w15 := below_row ((Below.refl _ _).alloc (Nat.le_refl _) _) g15 (by simp) (Nat.le_refl _)
  have HM15 := Lib.hid (HM14.out.below b15)
  have B15 := B14.trans (b15.mono B14.size)
  have HL15 := Lib.hid hl15
  clear hl15 g15 HA15 HM14
  go_wp2_with fail
  refine (write_m (1) (zs 512) _ HM15.out (by simp) B15.size (zs_len 512) (of_decide_eq_true (by kernel_rfl)) (E := 0) (d' := rwk5) (by kernel_rfl) rfl).mono ?_; rintro e w16 ⟨rfl, hm16, hb16, hs16⟩
  have HM16 := Lib.hid hm16
  have B16 := B15.trans hb16
  clear hm16 hb16 hs16 HM15
  go_wp2_with fail
  refine (isnew_m 2 [98] _ HM16.out (i := 2) (g := g) (d := rwk5) (by simp) (by kernel_rfl) (by kernel_rfl) B16.size (T := 2) (L := [98]) (E := 0) (by kernel_rfl) (by kernel_rfl) (by kernel_rfl) (b := true) (by kernel_rfl)).mono ?_; rintro e w17 ⟨rfl, hm17, hb17, hs17⟩
  have HM17 := Lib.hid hm17
  have B17 := B16.trans hb17
  clear hm17 hb17 hs17 HM16
  go_wp2_with fail
  go_ret
  exact ⟨rfl, B17⟩
end Go.Proofs.Yteoomhkdffnkkaa
