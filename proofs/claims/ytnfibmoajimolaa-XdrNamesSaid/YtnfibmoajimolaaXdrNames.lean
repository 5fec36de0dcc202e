/- XdrNames: the examples, and the edges of each reading, are as the document has them: the law returns true. Conditions: none. -/
import Derived.Test.YtnfibmoajimolaaWorks
import Derived.Test.YtnfibmoajimolaaReadNil
namespace Go.Proofs.Ytnfibmoajimolaa
set_option linter.unusedVariables false
set_option linter.unusedSimpArgs false
open Go.ChangeShapes Go.WideShapes Go.ChangeAt Go.RowKit Pl
attribute [local go_sem] ba_toList ba_size

set_option maxRecDepth 100000 in
set_option maxHeartbeats 12800000 in
theorem names_any (w : World) : Calls Try.prog 6 #[] w fun e w' => e = .returned (.bool true) ∧ Below w.heap.size w w' := by
  have kc := kconst
  have w0 : wrap64 (-9223372036854775808) = -9223372036854775808 := by unfold wrap64; omega
  go_enter Try.func6, Try.ntmps6
  go_wp2_with fail
  refine (works_any _).mono ?_; rintro e w0_ ⟨rfl, b0⟩
  have s0 := b0.size
  go_wp2_with fail
  refine (Long_any _ [] _ _ (BytesV.nil _) (by omega) (by omega) (by simp)).mono ?_; rintro e w1 ⟨v1, rfl, r1, hw1⟩
  have z1 := r1.bytes.string (P := Try.prog) Try.underlying22 Try.underlying5 Try.underlying9
  rw [show [] ++ be 8 (72623859790382856 : Int).toNat = [1, 2, 3, 4, 5, 6, 7, 8] from rfl] at z1
  have b1 := chain b0 hw1
  have s1 := hw1.size
  clear r1 hw1
  go_wp2_with fail
  refine (Word_any _ [] _ _ (BytesV.nil _) (by omega) (by omega) (by simp)).mono ?_; rintro e w2 ⟨v2, rfl, r2, hw2⟩
  have z2 := r2.bytes.string (P := Try.prog) Try.underlying22 Try.underlying5 Try.underlying9
  rw [show [] ++ be 4 (4294901244 : Int).toNat = [255, 254, 253, 252] from rfl] at z2
  have b2 := chain b1 hw2
  have s2 := hw2.size
  clear r2 hw2
  go_wp2_with fail
  refine (Flag_any _ [] _ _ (BytesV.nil _) (by simp)).mono ?_; rintro e w3 ⟨v3, rfl, r3, hw3⟩
  have z3 := r3.bytes.string (P := Try.prog) Try.underlying22 Try.underlying5 Try.underlying9
  rw [show [] ++ be 4 true.toNat = [0, 0, 0, 1] from rfl] at z3
  have b3 := chain b2 hw3
  have s3 := hw3.size
  clear r3 hw3
  go_wp2_with fail
  refine (Flag_any _ [] _ _ (BytesV.nil _) (by simp)).mono ?_; rintro e w4 ⟨v4, rfl, r4, hw4⟩
  have z4 := r4.bytes.string (P := Try.prog) Try.underlying22 Try.underlying5 Try.underlying9
  rw [show [] ++ be 4 false.toNat = [0, 0, 0, 0] from rfl] at z4
  have b4 := chain b3 hw4
  have s4 := hw4.size
  clear r4 hw4
  go_wp2_with fail
  refine (Text_any _ [] [] _ (BytesV.nil _) (by simp)).mono ?_; rintro e w5 ⟨v5, rfl, r5, hw5⟩
  have z5 := r5.string (P := Try.prog) Try.underlying22 Try.underlying5 Try.underlying9
  rw [show [] ++ textB [] = [0, 0, 0, 0] from rfl] at z5
  have b5 := chain b4 hw5
  have s5 := hw5.size
  clear r5 hw5
  go_wp2_with fail
  refine (Fixed_any _ [] [] _ (BytesV.nil _) (by simp)).mono ?_; rintro e w6 ⟨v6, rfl, r6, hw6⟩
  obtain ⟨A6, c6, rfl, _, _, _, hx6⟩ := r6
  have y6 : ([] ++ fixB []).length = 0 := rfl
  rw [y6]
  have b6 := chain b5 hw6
  have s6 := hw6.size
  clear hw6 hx6
  go_wp2_with fail
  refine (Fixed_any _ [] [97, 98, 99, 100] _ (BytesV.nil _) (by simp)).mono ?_; rintro e w7 ⟨v7, rfl, r7, hw7⟩
  have z7 := r7.string (P := Try.prog) Try.underlying22 Try.underlying5 Try.underlying9
  rw [show [] ++ fixB [97, 98, 99, 100] = [97, 98, 99, 100] from rfl] at z7
  have b7 := chain b6 hw7
  have s7 := hw7.size
  clear r7 hw7
  have A0 := bytesV_lit w7 [97, 98, 99] 3 rfl (by unfold maxLen; omega)
  have AL := Lib.hid A0
  clear A0
  go_wp2_with fail
  refine (NewReader_any _ [97, 98, 99] _ AL.out (by simp)).mono ?_; rintro e w8 ⟨g_a, h_a, rfl, r_a, hw8, g0_a, h0_a, g1_a, h1_a⟩
  have c8 : Below w7.heap.size w7 w8 := Below.trans (by repeat' (first | (with_reducible exact Below.refl _ _) | (with_reducible assumption) | (with_reducible refine below_drewN ?_ _) | (with_reducible refine Below.alloc ?_ ?_ _) | (with_reducible refine Below.drew ?_) | (with_reducible refine Below.setCell ?_ ?_ _) | go_size)) (hw8.mono (by simp))
  have b8 := chain b7 c8
  have s8 := c8.size
  have g0_a : w7.heap.size ≤ g_a := by simp at g0_a; omega
  have h0_a : w7.heap.size ≤ h_a := by simp at h0_a; omega
  clear hw8 AL c8
  have A0 := bytesV_lit w8 [97, 98, 99, 1] 4 rfl (by unfold maxLen; omega)
  have AL := Lib.hid A0
  clear A0
  go_wp2_with fail
  refine (NewReader_any _ [97, 98, 99, 1] _ AL.out (by simp)).mono ?_; rintro e w9 ⟨g_b, h_b, rfl, r_b, hw9, g0_b, h0_b, g1_b, h1_b⟩
  have c9 : Below w8.heap.size w8 w9 := Below.trans (by repeat' (first | (with_reducible exact Below.refl _ _) | (with_reducible assumption) | (with_reducible refine below_drewN ?_ _) | (with_reducible refine Below.alloc ?_ ?_ _) | (with_reducible refine Below.drew ?_) | (with_reducible refine Below.setCell ?_ ?_ _) | go_size)) (hw9.mono (by simp))
  have b9 := chain b8 c9
  have s9 := c9.size
  have g0_b : w8.heap.size ≤ g_b := by simp at g0_b; omega
  have h0_b : w8.heap.size ≤ h_b := by simp at h0_b; omega
  have r_a := r_a.below c9
  clear hw9 AL c9
  have A0 := bytesV_lit w9 [97, 98, 0, 0, 120, 121] 6 rfl (by unfold maxLen; omega)
  have AL := Lib.hid A0
  clear A0
  go_wp2_with fail
  refine (NewReader_any _ [97, 98, 0, 0, 120, 121] _ AL.out (by simp)).mono ?_; rintro e w10 ⟨g_c, h_c, rfl, r_c, hw10, g0_c, h0_c, g1_c, h1_c⟩
  have c10 : Below w9.heap.size w9 w10 := Below.trans (by repeat' (first | (with_reducible exact Below.refl _ _) | (with_reducible assumption) | (with_reducible refine below_drewN ?_ _) | (with_reducible refine Below.alloc ?_ ?_ _) | (with_reducible refine Below.drew ?_) | (with_reducible refine Below.setCell ?_ ?_ _) | go_size)) (hw10.mono (by simp))
  have b10 := chain b9 c10
  have s10 := c10.size
  have g0_c : w9.heap.size ≤ g_c := by simp at g0_c; omega
  have h0_c : w9.heap.size ≤ h_c := by simp at h0_c; omega
  have r_a := r_a.below c10
  have r_b := r_b.below c10
  clear hw10 AL c10
  have A0 := bytesV_lit w10 [255, 255, 255, 255] 4 rfl (by unfold maxLen; omega)
  have AL := Lib.hid A0
  clear A0
  go_wp2_with fail
  refine (NewReader_any _ [255, 255, 255, 255] _ AL.out (by simp)).mono ?_; rintro e w11 ⟨g_d, h_d, rfl, r_d, hw11, g0_d, h0_d, g1_d, h1_d⟩
  have c11 : Below w10.heap.size w10 w11 := Below.trans (by repeat' (first | (with_reducible exact Below.refl _ _) | (with_reducible assumption) | (with_reducible refine below_drewN ?_ _) | (with_reducible refine Below.alloc ?_ ?_ _) | (with_reducible refine Below.drew ?_) | (with_reducible refine Below.setCell ?_ ?_ _) | go_size)) (hw11.mono (by simp))
  have b11 := chain b10 c11
  have s11 := c11.size
  have g0_d : w10.heap.size ≤ g_d := by simp at g0_d; omega
  have h0_d : w10.heap.size ≤ h_d := by simp at h0_d; omega
  have r_a := r_a.below c11
  have r_b := r_b.below c11
  have r_c := r_c.below c11
  clear hw11 AL c11
  have A0 := bytesV_lit w11 [0, 0, 0, 9] 4 rfl (by unfold maxLen; omega)
  have AL := Lib.hid A0
  clear A0
  go_wp2_with fail
  refine (NewReader_any _ [0, 0, 0, 9] _ AL.out (by simp)).mono ?_; rintro e w12 ⟨g_e, h_e, rfl, r_e, hw12, g0_e, h0_e, g1_e, h1_e⟩
  have c12 : Below w11.heap.size w11 w12 := Below.trans (by repeat' (first | (with_reducible exact Below.refl _ _) | (with_reducible assumption) | (with_reducible refine below_drewN ?_ _) | (with_reducible refine Below.alloc ?_ ?_ _) | (with_reducible refine Below.drew ?_) | (with_reducible refine Below.setCell ?_ ?_ _) | go_size)) (hw12.mono (by simp))
  have b12 := chain b11 c12
  have s12 := c12.size
  have g0_e : w11.heap.size ≤ g_e := by simp at g0_e; omega
  have h0_e : w11.heap.size ≤ h_e := by simp at h0_e; omega
  have r_a := r_a.below c12
  have r_b := r_b.below c12
  have r_c := r_c.below c12
  have r_d := r_d.below c12
  clear hw12 AL c12
  have A0 := bytesV_lit w12 [0, 0, 0, 0, 0, 0, 0, 7, 0] 9 rfl (by unfold maxLen; omega)
  have AL := Lib.hid A0
  clear A0
  go_wp2_with fail
  refine (NewReader_any _ [0, 0, 0, 0, 0, 0, 0, 7, 0] _ AL.out (by simp)).mono ?_; rintro e w13 ⟨g_f, h_f, rfl, r_f, hw13, g0_f, h0_f, g1_f, h1_f⟩
  have c13 : Below w12.heap.size w12 w13 := Below.trans (by repeat' (first | (with_reducible exact Below.refl _ _) | (with_reducible assumption) | (with_reducible refine below_drewN ?_ _) | (with_reducible refine Below.alloc ?_ ?_ _) | (with_reducible refine Below.drew ?_) | (with_reducible refine Below.setCell ?_ ?_ _) | go_size)) (hw13.mono (by simp))
  have b13 := chain b12 c13
  have s13 := c13.size
  have g0_f : w12.heap.size ≤ g_f := by simp at g0_f; omega
  have h0_f : w12.heap.size ≤ h_f := by simp at h0_f; omega
  have r_a := r_a.below c13
  have r_b := r_b.below c13
  have r_c := r_c.below c13
  have r_d := r_d.below c13
  have r_e := r_e.below c13
  clear hw13 AL c13
  go_wp2_with fail
  refine (rWord_any _ r_a).mono ?_; rintro e w14 ⟨rfl, r_a, g14⟩
  rw [show wordR (some [97, 98, 99]) = (0, none) from rfl] at r_a ⊢
  have r_b := r_b.keep g14 (by omega) (by omega)
  have r_c := r_c.keep g14 (by omega) (by omega)
  have r_d := r_d.keep g14 (by omega) (by omega)
  have r_e := r_e.keep g14 (by omega) (by omega)
  have r_f := r_f.keep g14 (by omega) (by omega)
  have b14 := below_by b13 g14 (by omega) (by omega)
  have s14 := g14.size
  clear g14
  go_wp2_with fail
  refine (OK_any _ r_a).mono ?_; rintro e w' ⟨rfl, rfl⟩
  go_wp2_with fail
  refine (Left_any _ r_a).mono ?_; rintro e w' ⟨rfl, rfl⟩
  go_wp2_with fail
  refine (rFixed_any _ _ r_b (by omega)).mono ?_; rintro e w15 ⟨rfl, r_b, g15⟩
  rw [show fixR 3 (some [97, 98, 99, 1]) = ([], none) from rfl] at r_b ⊢
  have r_a := r_a.keep g15 (by omega) (by omega)
  have r_c := r_c.keep g15 (by omega) (by omega)
  have r_d := r_d.keep g15 (by omega) (by omega)
  have r_e := r_e.keep g15 (by omega) (by omega)
  have r_f := r_f.keep g15 (by omega) (by omega)
  have b15 := below_by b14 g15 (by omega) (by omega)
  have s15 := g15.size
  clear g15
  go_wp2_with fail
  refine (OK_any _ r_b).mono ?_; rintro e w' ⟨rfl, rfl⟩
  go_wp2_with fail
  refine (rFixed_any _ _ r_c (by omega)).mono ?_; rintro e w16 ⟨rfl, r_c, g16⟩
  rw [show fixR 2 (some [97, 98, 0, 0, 120, 121]) = ([97, 98], some [120, 121]) from rfl] at r_c ⊢
  have r_a := r_a.keep g16 (by omega) (by omega)
  have r_b := r_b.keep g16 (by omega) (by omega)
  have r_d := r_d.keep g16 (by omega) (by omega)
  have r_e := r_e.keep g16 (by omega) (by omega)
  have r_f := r_f.keep g16 (by omega) (by omega)
  have b16 := below_by b15 g16 (by omega) (by omega)
  have s16 := g16.size
  clear g16
  go_wp2_with fail
  refine (rFixed_any _ _ r_c (by omega)).mono ?_; rintro e w17 ⟨rfl, r_c, g17⟩
  rw [show fixR (-1) (some [120, 121]) = ([], none) from rfl] at r_c ⊢
  have r_a := r_a.keep g17 (by omega) (by omega)
  have r_b := r_b.keep g17 (by omega) (by omega)
  have r_d := r_d.keep g17 (by omega) (by omega)
  have r_e := r_e.keep g17 (by omega) (by omega)
  have r_f := r_f.keep g17 (by omega) (by omega)
  have b17 := below_by b16 g17 (by omega) (by omega)
  have s17 := g17.size
  clear g17
  go_wp2_with fail
  refine (OK_any _ r_c).mono ?_; rintro e w' ⟨rfl, rfl⟩
  go_wp2_with fail
  refine (Left_any _ r_c).mono ?_; rintro e w' ⟨rfl, rfl⟩
  go_wp2_with fail
  refine (rCount_any _ _ r_d).mono ?_; rintro e w18 ⟨rfl, r_d, g18⟩
  rw [show countR 100 (some [255, 255, 255, 255]) = (0, none) from rfl] at r_d ⊢
  have r_a := r_a.keep g18 (by omega) (by omega)
  have r_b := r_b.keep g18 (by omega) (by omega)
  have r_c := r_c.keep g18 (by omega) (by omega)
  have r_e := r_e.keep g18 (by omega) (by omega)
  have r_f := r_f.keep g18 (by omega) (by omega)
  have b18 := below_by b17 g18 (by omega) (by omega)
  have s18 := g18.size
  clear g18
  go_wp2_with fail
  refine (OK_any _ r_d).mono ?_; rintro e w' ⟨rfl, rfl⟩
  go_wp2_with fail
  refine (rCount_any _ _ r_e).mono ?_; rintro e w19 ⟨rfl, r_e, g19⟩
  rw [show countR 9 (some [0, 0, 0, 9]) = (9, some []) from rfl] at r_e ⊢
  have r_a := r_a.keep g19 (by omega) (by omega)
  have r_b := r_b.keep g19 (by omega) (by omega)
  have r_c := r_c.keep g19 (by omega) (by omega)
  have r_d := r_d.keep g19 (by omega) (by omega)
  have r_f := r_f.keep g19 (by omega) (by omega)
  have b19 := below_by b18 g19 (by omega) (by omega)
  have s19 := g19.size
  clear g19
  go_wp2_with fail
  refine (Done_any _ r_e).mono ?_; rintro e w' ⟨rfl, rfl⟩
  go_wp2_with fail
  refine (rLong_any _ r_f).mono ?_; rintro e w20 ⟨rfl, r_f, g20⟩
  rw [show longR (some [0, 0, 0, 0, 0, 0, 0, 7, 0]) = (7, some [0]) from rfl] at r_f ⊢
  have r_a := r_a.keep g20 (by omega) (by omega)
  have r_b := r_b.keep g20 (by omega) (by omega)
  have r_c := r_c.keep g20 (by omega) (by omega)
  have r_d := r_d.keep g20 (by omega) (by omega)
  have r_e := r_e.keep g20 (by omega) (by omega)
  have b20 := below_by b19 g20 (by omega) (by omega)
  have s20 := g20.size
  clear g20
  go_wp2_with fail
  refine (OK_any _ r_f).mono ?_; rintro e w' ⟨rfl, rfl⟩
  go_wp2_with fail
  refine (Done_any _ r_f).mono ?_; rintro e w' ⟨rfl, rfl⟩
  go_wp2_with fail
  refine (Left_any _ r_f).mono ?_; rintro e w' ⟨rfl, rfl⟩
  clear r_a r_b r_c r_d r_e r_f
  have A0 := bytesV_lit w20 [0, 0, 0, 0, 0, 0, 0, 1] 8 rfl (by unfold maxLen; omega)
  have AL := Lib.hid A0
  clear A0
  go_wp2_with fail
  refine (NewReader_any _ [0, 0, 0, 0, 0, 0, 0, 1] _ AL.out (by simp)).mono ?_; rintro e w21 ⟨g_g, h_g, rfl, r_g, hw21, g0_g, h0_g, g1_g, h1_g⟩
  have c21 : Below w20.heap.size w20 w21 := Below.trans (by repeat' (first | (with_reducible exact Below.refl _ _) | (with_reducible assumption) | (with_reducible refine below_drewN ?_ _) | (with_reducible refine Below.alloc ?_ ?_ _) | (with_reducible refine Below.drew ?_) | (with_reducible refine Below.setCell ?_ ?_ _) | go_size)) (hw21.mono (by simp))
  have b21 := chain b20 c21
  have s21 := c21.size
  have g0_g : w20.heap.size ≤ g_g := by simp at g0_g; omega
  have h0_g : w20.heap.size ≤ h_g := by simp at h0_g; omega
  clear hw21 AL c21
  go_wp2_with fail
  refine (Int_any _ [] _ _ (BytesV.nil _) (by simp)).mono ?_; rintro e w22 ⟨v22, rfl, r22, hw22⟩
  have r_g := r_g.below hw22
  have b22 := chain b21 hw22
  have s22 := hw22.size
  have q22 := r22.bytes
  rw [show [] ++ be 8 (IntKind.u64.wrap (-9223372036854775808)).toNat = [128, 0, 0, 0, 0, 0, 0, 0] from rfl] at q22
  go_wp2_with fail
  refine (NewReader_any _ [128, 0, 0, 0, 0, 0, 0, 0] _ q22 (by simp)).mono ?_; rintro e w23 ⟨g_h, h_h, rfl, r_h, hw23, g0_h, h0_h, g1_h, h1_h⟩
  have r_g := r_g.below hw23
  have b23 := chain b22 hw23
  have s23 := hw23.size
  clear r22 q22 hw22 hw23
  have A0 := bytesV_lit w23 [97, 98, 99, 100, 101, 102] 6 rfl (by unfold maxLen; omega)
  have AL := Lib.hid A0
  clear A0
  go_wp2_with fail
  refine (NewReader_any _ [97, 98, 99, 100, 101, 102] _ AL.out (by simp)).mono ?_; rintro e w24 ⟨g_i, h_i, rfl, r_i, hw24, g0_i, h0_i, g1_i, h1_i⟩
  have c24 : Below w23.heap.size w23 w24 := Below.trans (by repeat' (first | (with_reducible exact Below.refl _ _) | (with_reducible assumption) | (with_reducible refine below_drewN ?_ _) | (with_reducible refine Below.alloc ?_ ?_ _) | (with_reducible refine Below.drew ?_) | (with_reducible refine Below.setCell ?_ ?_ _) | go_size)) (hw24.mono (by simp))
  have b24 := chain b23 c24
  have s24 := c24.size
  have g0_i : w23.heap.size ≤ g_i := by simp at g0_i; omega
  have h0_i : w23.heap.size ≤ h_i := by simp at h0_i; omega
  have r_g := r_g.below c24
  have r_h := r_h.below c24
  clear hw24 AL c24
  go_wp2_with fail
  refine (NewReader_any _ [] _ (BytesV.nil _) (by simp)).mono ?_; rintro e w25 ⟨g_j, h_j, rfl, r_j, hw25, g0_j, h0_j, g1_j, h1_j⟩
  have r_g := r_g.below hw25
  have r_h := r_h.below hw25
  have r_i := r_i.below hw25
  have b25 := chain b24 hw25
  have s25 := hw25.size
  clear hw25
  go_wp2_with fail
  refine (rText_any _ _ r_g).mono ?_; rintro e w26 ⟨rfl, r_g, g26⟩
  rw [show textR (-5) (some [0, 0, 0, 0, 0, 0, 0, 1]) = ([], some [0, 0, 0, 1]) from rfl] at r_g ⊢
  have r_h := r_h.keep g26 (by omega) (by omega)
  have r_i := r_i.keep g26 (by omega) (by omega)
  have r_j := r_j.keep g26 (by omega) (by omega)
  have b26 := below_by b25 g26 (by omega) (by omega)
  have s26 := g26.size
  clear g26
  go_wp2_with fail
  refine (OK_any _ r_g).mono ?_; rintro e w' ⟨rfl, rfl⟩
  go_wp2_with fail
  refine (rText_any _ _ r_g).mono ?_; rintro e w27 ⟨rfl, r_g, g27⟩
  rw [show textR (-5) (some [0, 0, 0, 1]) = ([], none) from rfl] at r_g ⊢
  have r_h := r_h.keep g27 (by omega) (by omega)
  have r_i := r_i.keep g27 (by omega) (by omega)
  have r_j := r_j.keep g27 (by omega) (by omega)
  have b27 := below_by b26 g27 (by omega) (by omega)
  have s27 := g27.size
  clear g27
  go_wp2_with fail
  refine (OK_any _ r_g).mono ?_; rintro e w' ⟨rfl, rfl⟩
  go_wp2_with fail
  refine (rInt_any _ r_h).mono ?_; rintro e w28 ⟨rfl, r_h, g28⟩
  rw [show longR (some [128, 0, 0, 0, 0, 0, 0, 0]) = (9223372036854775808, some []) from rfl] at r_h ⊢
  have r_g := r_g.keep g28 (by omega) (by omega)
  have r_i := r_i.keep g28 (by omega) (by omega)
  have r_j := r_j.keep g28 (by omega) (by omega)
  have b28 := below_by b27 g28 (by omega) (by omega)
  have s28 := g28.size
  clear g28
  rw [show wrap64 ((9223372036854775808 : Nat) : Int) = -9223372036854775808 from by unfold wrap64; omega]
  go_wp2_with fail
  refine (Done_any _ r_h).mono ?_; rintro e w' ⟨rfl, rfl⟩
  go_wp2_with fail
  refine (rLong_any _ r_i).mono ?_; rintro e w29 ⟨rfl, r_i, g29⟩
  rw [show longR (some [97, 98, 99, 100, 101, 102]) = (0, none) from rfl] at r_i ⊢
  have r_g := r_g.keep g29 (by omega) (by omega)
  have r_h := r_h.keep g29 (by omega) (by omega)
  have r_j := r_j.keep g29 (by omega) (by omega)
  have b29 := below_by b28 g29 (by omega) (by omega)
  have s29 := g29.size
  clear g29
  go_wp2_with fail
  refine (OK_any _ r_i).mono ?_; rintro e w' ⟨rfl, rfl⟩
  go_wp2_with fail
  refine (Done_any _ r_j).mono ?_; rintro e w' ⟨rfl, rfl⟩
  go_wp2_with fail
  refine (rFixed_any _ _ r_j (by omega)).mono ?_; rintro e w30 ⟨rfl, r_j, g30⟩
  rw [show fixR 0 (some []) = ([], some []) from rfl] at r_j ⊢
  have r_g := r_g.keep g30 (by omega) (by omega)
  have r_h := r_h.keep g30 (by omega) (by omega)
  have r_i := r_i.keep g30 (by omega) (by omega)
  have b30 := below_by b29 g30 (by omega) (by omega)
  have s30 := g30.size
  clear g30
  go_wp2_with fail
  refine (OK_any _ r_j).mono ?_; rintro e w' ⟨rfl, rfl⟩
  go_wp2_with fail
  refine (rFixed_any _ _ r_j (by omega)).mono ?_; rintro e w31 ⟨rfl, r_j, g31⟩
  rw [show fixR 1 (some []) = ([], none) from rfl] at r_j ⊢
  have r_g := r_g.keep g31 (by omega) (by omega)
  have r_h := r_h.keep g31 (by omega) (by omega)
  have r_i := r_i.keep g31 (by omega) (by omega)
  have b31 := below_by b30 g31 (by omega) (by omega)
  have s31 := g31.size
  clear g31
  go_wp2_with fail
  refine (OK_any _ r_j).mono ?_; rintro e w' ⟨rfl, rfl⟩
  go_wp2_with fail
  refine (Word_nil _).mono ?_; rintro e w' ⟨rfl, rfl⟩
  go_wp2_with fail
  refine (Long_nil _).mono ?_; rintro e w' ⟨rfl, rfl⟩
  go_wp2_with fail
  refine (Int_nil _).mono ?_; rintro e w' ⟨rfl, rfl⟩
  go_wp2_with fail
  refine (Flag_nil _).mono ?_; rintro e w' ⟨rfl, rfl⟩
  go_wp2_with fail
  refine (Text_nil _ (by omega) _).mono ?_; rintro e w' ⟨rfl, rfl⟩
  go_wp2_with fail
  refine (Fixed_nil _).mono ?_; rintro e w' ⟨rfl, rfl⟩
  go_wp2_with fail
  refine (Count_nil _ (by omega) _).mono ?_; rintro e w' ⟨rfl, rfl⟩
  go_wp2_with fail
  refine (Left_nil _).mono ?_; rintro e w' ⟨rfl, rfl⟩
  go_wp2_with fail
  refine (OK_nil _).mono ?_; rintro e w' ⟨rfl, rfl⟩
  go_wp2_with fail
  refine (Done_nil _).mono ?_; rintro e w' ⟨rfl, rfl⟩
  go_wp2_with fail
  go_ret
  exact ⟨rfl, b31⟩

theorem names_walk : Walks Try.prog 6 Try.f6 := by
  intro H enc W args ds p base hval hA _
  rw [Try.params6] at hA hval
  obtain ⟨rfl, rfl, rfl⟩ := trodAll_none hA
  exact names_any W

theorem XdrNames_holds : Rows.XdrNamesSaid :=
  OpenClaim.holds_of_wide 6 Try.f6 rfl rfl rfl rfl rfl rfl rfl ⟨rfl, rfl, rfl, rfl, rfl⟩ rfl rfl rfl rfl rfl (by kernel_rfl) Try.func6 (by kernel_rfl)
    (of_decide_eq_true (by kernel_rfl)) (by unfold Func.isWrapper; first | (rw [if_pos (by decide +kernel)]; kernel_rfl) | (rw [if_neg (by decide +kernel)]; exact ⟨rfl, rfl⟩))
    (fun os started H enc _ => law_lifted (C := Try.checked) (s := Rows.xdrNamesSpec) own started (by kernel_rfl) Try.func6 laidOut rfl rfl Try.underlying4
      (by have h : ∀ u ∈ Try.f6.params.toList, (Try.prog.readableRec u && decide (u < Try.prog.types.size)) = true := List.all_eq_true.1 (by kernel_rfl)
          intro u hu; have := h u hu; rw [Bool.and_eq_true, decide_eq_true_eq] at this; exact this)
      (by intro H l hl; rw [show Try.f6.params.size = 0 from by rw [Try.params6]; rfl] at hl; match l, hl with | [], _ => rfl)
      H enc (ChangeSpec.witness6 (enc := enc) (C := Try.checked) false ⟨#[], #[], []⟩ 8 (by kernel_rfl) (by kernel_rfl) (by kernel_rfl) (by kernel_rfl)) names_walk)
#print axioms XdrNames_holds
end Go.Proofs.Ytnfibmoajimolaa
