/- HandleNames: the examples, and the handles that have names: the law, which takes no arguments, returns true. Conditions: none. -/
import Derived.Test.YtchldgedpncggaaHandleOpen
namespace Go.Proofs.Ytchldgedpncggaa
set_option linter.unusedVariables false
set_option linter.unusedSimpArgs false
open Go.ChangeShapes Go.WideShapes Go.ChangeAt Go.RowKit Pl
attribute [local go_sem] ba_toList ba_size

theorem names_plain : encB 0 0 0 = [] ∧ encE 0 0 0 = 4 ∧ decE (List.replicate 23 0) = 4 ∧ decA (List.replicate 23 0) 4 = 0 ∧ decA (List.replicate 23 0) 8 = 0 ∧ decA (List.replicate 23 0) 12 = 0 ∧
    decE (List.replicate 24 0) = 4 ∧ decA (List.replicate 24 0) 4 = 0 ∧ decA (List.replicate 24 0) 8 = 0 ∧ decA (List.replicate 24 0) 12 = 0 ∧
    encE 2147483647 2147483647 2147483647 = 0 ∧ (encB 2147483647 2147483647 2147483647).length = 24 ∧ encB 2147483648 1 0 = [] ∧ encE 2147483648 1 0 = 4 ∧ mayH 0 1 (-1) = false := by
  decide +kernel

set_option maxHeartbeats 3200000 in
theorem names_any (w : World) : Calls Try.prog 4 #[] w fun e w' => e = .returned (.bool true) ∧ Below w.heap.size w w' := by
  obtain ⟨z1, z2, z3, z4, z5, z6, z7, z8, z9, z10, z11, z12, z13, z14, z15⟩ := names_plain
  obtain ⟨i0, hi, hz0, hz1, hz2⟩ := info_parts info_u8
  have E1 := fun W : World => encode_any 0 0 0 W
  have D1 := fun W : World => decode_any (List.replicate 23 0) W
  have D2 := fun W : World => decode_any (List.replicate 24 0) W
  have E2 := fun W : World => encode_any 2147483647 2147483647 2147483647 W
  have E3 := fun W : World => encode_any 2147483648 1 0 W
  have M1 := fun W : World => may_any 0 1 (-1) W
  simp only [z1, z2] at E1
  simp only [z3, z4, z5, z6] at D1
  simp only [z7, z8, z9, z10] at D2
  simp only [z11] at E2
  simp only [z13, z14] at E3
  simp only [z15] at M1
  have l1 : (((encB 2147483647 2147483647 2147483647).length : Int) == 24) = true := by rw [z12]; rfl
  generalize encB 2147483647 2147483647 2147483647 = L at E2 l1
  clear z1 z2 z3 z4 z5 z6 z7 z8 z9 z10 z11 z12 z13 z14 z15
  have HE1 := Lib.hid E1
  have HD1 := Lib.hid D1
  have HD2 := Lib.hid D2
  have HE2 := Lib.hid E2
  have HE3 := Lib.hid E3
  have HM1 := Lib.hid M1
  clear E1 D1 D2 E2 E3 M1
  go_enter Try.func4, Try.ntmps4
  go_wp2_with fail
  refine (HE1.out _).mono ?_; rintro e w1 ⟨rfl, hw1⟩
  have b1 : Below w.heap.size w w1 := chain (by repeat' (first | (with_reducible exact Below.refl _ _) | (with_reducible assumption) | (with_reducible refine below_drewN ?_ _) | (with_reducible refine Below.alloc ?_ ?_ _) | (with_reducible refine Below.drew ?_) | (with_reducible refine Below.setCell ?_ ?_ _) | go_size)) hw1
  have s1 := b1.size
  go_wp2_with (with_reducible refine wpList_make_bytes rfl _ _ rfl Try.underlying33 hi hz0 hz1 hz2 23 rfl rfl rfl rfl (by omega) ?_)
  intro v2 w2 hv2 hw2
  have b2 : Below w.heap.size w w2 := chain b1 hw2
  have s2 := b2.size
  have hcv := hv2.string (P := Try.prog) Try.underlying33 Try.underlying5 Try.underlying9
  go_wp2_with fail
  refine (HD1.out _).mono ?_; rintro e w3 ⟨rfl, hw3⟩
  have b3 : Below w.heap.size w w3 := chain (by repeat' (first | (with_reducible exact Below.refl _ _) | (with_reducible assumption) | (with_reducible refine below_drewN ?_ _) | (with_reducible refine Below.alloc ?_ ?_ _) | (with_reducible refine Below.drew ?_) | (with_reducible refine Below.setCell ?_ ?_ _) | go_size)) hw3
  have s3 := b3.size
  clear hcv
  go_wp2_with (with_reducible refine wpList_make_bytes rfl _ _ rfl Try.underlying33 hi hz0 hz1 hz2 24 rfl rfl rfl rfl (by omega) ?_)
  intro v4 w4 hv4 hw4
  have b4 : Below w.heap.size w w4 := Below.trans (by repeat' (first | (with_reducible exact Below.refl _ _) | (with_reducible assumption) | (with_reducible refine below_drewN ?_ _) | (with_reducible refine Below.alloc ?_ ?_ _) | (with_reducible refine Below.drew ?_) | (with_reducible refine Below.setCell ?_ ?_ _) | go_size)) (hw4.mono (by omega))
  have s4 := b4.size
  have hcv := hv4.string (P := Try.prog) Try.underlying33 Try.underlying5 Try.underlying9
  go_wp2_with fail
  refine (HD2.out _).mono ?_; rintro e w5 ⟨rfl, hw5⟩
  have b5 : Below w.heap.size w w5 := chain (by repeat' (first | (with_reducible exact Below.refl _ _) | (with_reducible assumption) | (with_reducible refine below_drewN ?_ _) | (with_reducible refine Below.alloc ?_ ?_ _) | (with_reducible refine Below.drew ?_) | (with_reducible refine Below.setCell ?_ ?_ _) | go_size)) hw5
  have s5 := b5.size
  clear hcv
  go_wp2_with fail
  refine (HE2.out _).mono ?_; rintro e w6 ⟨rfl, hw6⟩
  have b6 : Below w.heap.size w w6 := chain (by repeat' (first | (with_reducible exact Below.refl _ _) | (with_reducible assumption) | (with_reducible refine below_drewN ?_ _) | (with_reducible refine Below.alloc ?_ ?_ _) | (with_reducible refine Below.drew ?_) | (with_reducible refine Below.setCell ?_ ?_ _) | go_size)) hw6
  have s6 := b6.size
  go_wp2_with fail
  refine (HE3.out _).mono ?_; rintro e w7 ⟨rfl, hw7⟩
  have b7 : Below w.heap.size w w7 := chain (by repeat' (first | (with_reducible exact Below.refl _ _) | (with_reducible assumption) | (with_reducible refine below_drewN ?_ _) | (with_reducible refine Below.alloc ?_ ?_ _) | (with_reducible refine Below.drew ?_) | (with_reducible refine Below.setCell ?_ ?_ _) | go_size)) hw7
  have s7 := b7.size
  go_wp2_with fail
  refine (root_any _ _).mono ?_; rintro e w8 ⟨rfl, hw8⟩
  have b8 : Below w.heap.size w w8 := chain (by repeat' (first | (with_reducible exact Below.refl _ _) | (with_reducible assumption) | (with_reducible refine below_drewN ?_ _) | (with_reducible refine Below.alloc ?_ ?_ _) | (with_reducible refine Below.drew ?_) | (with_reducible refine Below.setCell ?_ ?_ _) | go_size)) hw8
  have s8 := b8.size
  go_wp2_with fail
  refine (snapDir_any _).mono ?_; rintro e w9 ⟨rfl, hw9⟩
  have b9 : Below w.heap.size w w9 := chain (by repeat' (first | (with_reducible exact Below.refl _ _) | (with_reducible assumption) | (with_reducible refine below_drewN ?_ _) | (with_reducible refine Below.alloc ?_ ?_ _) | (with_reducible refine Below.drew ?_) | (with_reducible refine Below.setCell ?_ ?_ _) | go_size)) hw9
  have s9 := b9.size
  go_wp2_with fail
  refine (HM1.out _).mono ?_; rintro e w10 ⟨rfl, hw10⟩
  have b10 : Below w.heap.size w w10 := chain (by repeat' (first | (with_reducible exact Below.refl _ _) | (with_reducible assumption) | (with_reducible refine below_drewN ?_ _) | (with_reducible refine Below.alloc ?_ ?_ _) | (with_reducible refine Below.drew ?_) | (with_reducible refine Below.setCell ?_ ?_ _) | go_size)) hw10
  have s10 := b10.size
  go_wp2_with fail
  refine (awake_any _).mono ?_; rintro e w11 ⟨rfl, hw11⟩
  have b11 : Below w.heap.size w w11 := chain (by repeat' (first | (with_reducible exact Below.refl _ _) | (with_reducible assumption) | (with_reducible refine below_drewN ?_ _) | (with_reducible refine Below.alloc ?_ ?_ _) | (with_reducible refine Below.drew ?_) | (with_reducible refine Below.setCell ?_ ?_ _) | go_size)) hw11
  have s11 := b11.size
  go_wp2_with fail
  go_ret
  exact ⟨rfl, by repeat' (first | (with_reducible exact Below.refl _ _) | (with_reducible assumption) | (with_reducible refine below_drewN ?_ _) | (with_reducible refine Below.alloc ?_ ?_ _) | (with_reducible refine Below.drew ?_) | (with_reducible refine Below.setCell ?_ ?_ _) | go_size)⟩

theorem names_walk : Walks Try.prog 4 Try.f4 := by
  intro H enc W args ds p base hval hA _
  rw [Try.params4] at hA hval
  obtain ⟨rfl, rfl, rfl⟩ := trodAll_none hA
  exact names_any W

theorem HandleNames_holds : Rows.HandleNamesSaid :=
  OpenClaim.holds_of_wide 4 Try.f4 rfl rfl rfl rfl rfl rfl rfl ⟨rfl, rfl, rfl, rfl, rfl⟩ rfl rfl rfl rfl rfl (by kernel_rfl) Try.func4 (by kernel_rfl)
    (of_decide_eq_true (by kernel_rfl)) (by unfold Func.isWrapper; first | (rw [if_pos (by decide +kernel)]; kernel_rfl) | (rw [if_neg (by decide +kernel)]; exact ⟨rfl, rfl⟩))
    (fun os started H enc _ => law_lifted (C := Try.checked) (s := Rows.handleNamesSpec) own started (by kernel_rfl) Try.func4 laidOut rfl rfl Try.underlying4
      (by have h : ∀ u ∈ Try.f4.params.toList, (Try.prog.readableRec u && decide (u < Try.prog.types.size)) = true := List.all_eq_true.1 (by kernel_rfl)
          intro u hu; have := h u hu; rw [Bool.and_eq_true, decide_eq_true_eq] at this; exact this)
      (by intro H l hl; rw [show Try.f4.params.size = 0 from by rw [Try.params4]; rfl] at hl; match l, hl with | [], _ => rfl)
      H enc (ChangeSpec.witness6 (enc := enc) (C := Try.checked) false ⟨#[], #[], []⟩ 8 (by kernel_rfl) (by kernel_rfl) (by kernel_rfl) (by kernel_rfl)) names_walk)
#print axioms HandleNames_holds
end Go.Proofs.Ytchldgedpncggaa
