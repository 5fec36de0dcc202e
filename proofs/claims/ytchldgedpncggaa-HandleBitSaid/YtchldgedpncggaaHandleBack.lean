/- HandleBack: Decode of Encode is the handle, Encode of Decode the bytes: for every handle and every text the law returns true. Conditions: none. -/
import Derived.Test.YtchldgedpncggaaHandleOpen
namespace Go.Proofs.Ytchldgedpncggaa
set_option linter.unusedVariables false
set_option linter.unusedSimpArgs false
open Go.ChangeShapes Go.WideShapes Go.ChangeAt Go.RowKit Pl
attribute [local go_sem] ba_toList ba_size

theorem dec_of_ok {l : List UInt8} (h : decOk l = true) : decE l = 0 := by unfold decE; rw [h]; rfl
theorem dec_of_no {l : List UInt8} (h : decOk l = false) : decE l = 4 ∧ decA l 4 = 0 ∧ decA l 8 = 0 ∧ decA l 12 = 0 := by unfold decE decA; rw [h]; exact ⟨rfl, rfl, rfl, rfl⟩

set_option maxHeartbeats 3200000 in
theorem back_any (a b c : Int) (l : List UInt8) (w : World) : Calls Try.prog 5 #[hv a b c, sv l] w fun e w' => e = .returned (.bool true) ∧ Below w.heap.size w w' := by
  have x0 := BoxH.new w a b c 23
  by_cases hl : 1000 < l.length
  · have hl' : (1000 : Int) < (l.length : Int) := by omega
    go_enter Try.func5, Try.ntmps5
    go_wp2_with fail
    refine (awake_any _).mono ?_; rintro e w1 ⟨rfl, hw1⟩
    have b1 : Below w.heap.size w w1 := chain (by repeat' (first | (with_reducible exact Below.refl _ _) | (with_reducible assumption) | (with_reducible refine below_drewN ?_ _) | (with_reducible refine Below.alloc ?_ ?_ _) | (with_reducible refine Below.drew ?_) | (with_reducible refine Below.setCell ?_ ?_ _) | go_size)) hw1
    have s1 := b1.size
    go_wp2_with fail
    go_ret
    exact ⟨rfl, b1⟩
  · have hl' : ¬ (1000 : Int) < (l.length : Int) := by omega
    have DL := fun W : World => decode_any l W
    have hK : ∀ W : World, decOk l = true → Calls Try.prog 10 #[hv (decA l 4) (decA l 8) (decA l 12)] W fun e w' => e = .returned (.tuple #[sv l, .int .i64 0]) ∧ Below W.heap.size W w' := fun W hk => by
      obtain ⟨k1, k2⟩ := enc_dec hk
      have := encode_any (decA l 4) (decA l 8) (decA l 12) W
      rw [k1] at this
      have hE : encE (decA l 4) (decA l 8) (decA l 12) = 0 := by unfold encE; rw [k2]; rfl
      rwa [hE] at this
    have HK := Lib.hid hK
    have ME := fun W : World => may_any a b c W
    have EE := fun W : World => encode_any a b c W
    clear hK
    cases hm : mayH a b c
    · have he : encE a b c = 4 := by unfold encE; rw [hm]; rfl
      simp only [he] at EE
      simp only [hm] at ME
      clear hm he
      cases hk : decOk l
      · obtain ⟨hd, _, _, _⟩ := dec_of_no hk
        simp only [hd] at DL
        have D := Lib.hid DL
        have E := Lib.hid EE
        have M := Lib.hid ME
        clear DL EE ME hk hd
        go_enter Try.func5, Try.ntmps5
        go_wp2_with fail
        refine (awake_any _).mono ?_; rintro e w1 ⟨rfl, hw1⟩
        have b1 : Below w.heap.size w w1 := chain (by repeat' (first | (with_reducible exact Below.refl _ _) | (with_reducible assumption) | (with_reducible refine below_drewN ?_ _) | (with_reducible refine Below.alloc ?_ ?_ _) | (with_reducible refine Below.drew ?_) | (with_reducible refine Below.setCell ?_ ?_ _) | go_size)) hw1
        have s1 := b1.size
        obtain ⟨lb, q0, q1, q2⟩ := x0.below hw1
        go_wp2_with fail
        refine (E.out _).mono ?_; rintro e w2 ⟨rfl, hw2⟩
        have b2 : Below w.heap.size w w2 := chain (by repeat' (first | (with_reducible exact Below.refl _ _) | (with_reducible assumption) | (with_reducible refine below_drewN ?_ _) | (with_reducible refine Below.alloc ?_ ?_ _) | (with_reducible refine Below.drew ?_) | (with_reducible refine Below.setCell ?_ ?_ _) | go_size)) hw2
        have s2 := b2.size
        have x2 := (x0.below hw1).below hw2
        clear lb q0 q1 q2
        go_wp2_with fail
        refine (D.out _).mono ?_; rintro e w3 ⟨rfl, hw3⟩
        have b3 : Below w.heap.size w w3 := chain (by repeat' (first | (with_reducible exact Below.refl _ _) | (with_reducible assumption) | (with_reducible refine below_drewN ?_ _) | (with_reducible refine Below.alloc ?_ ?_ _) | (with_reducible refine Below.drew ?_) | (with_reducible refine Below.setCell ?_ ?_ _) | go_size)) hw3
        have s3 := b3.size
        obtain ⟨lb, q0, q1, q2⟩ := x2.below hw3
        go_wp2_with fail
        refine (M.out _).mono ?_; rintro e w4 ⟨rfl, hw4⟩
        have b4 : Below w.heap.size w w4 := chain (by repeat' (first | (with_reducible exact Below.refl _ _) | (with_reducible assumption) | (with_reducible refine below_drewN ?_ _) | (with_reducible refine Below.alloc ?_ ?_ _) | (with_reducible refine Below.drew ?_) | (with_reducible refine Below.setCell ?_ ?_ _) | go_size)) hw4
        have s4 := b4.size
        go_wp2_with fail
        go_ret
        exact ⟨rfl, by repeat' (first | (with_reducible exact Below.refl _ _) | (with_reducible assumption) | (with_reducible refine below_drewN ?_ _) | (with_reducible refine Below.alloc ?_ ?_ _) | (with_reducible refine Below.drew ?_) | (with_reducible refine Below.setCell ?_ ?_ _) | go_size)⟩
      · have hd := dec_of_ok hk
        simp only [hd] at DL
        have D := Lib.hid DL
        have E := Lib.hid EE
        have M := Lib.hid ME
        have K := Lib.hid hk
        clear DL EE ME hk hd
        go_enter Try.func5, Try.ntmps5
        go_wp2_with fail
        refine (awake_any _).mono ?_; rintro e w1 ⟨rfl, hw1⟩
        have b1 : Below w.heap.size w w1 := chain (by repeat' (first | (with_reducible exact Below.refl _ _) | (with_reducible assumption) | (with_reducible refine below_drewN ?_ _) | (with_reducible refine Below.alloc ?_ ?_ _) | (with_reducible refine Below.drew ?_) | (with_reducible refine Below.setCell ?_ ?_ _) | go_size)) hw1
        have s1 := b1.size
        obtain ⟨lb, q0, q1, q2⟩ := x0.below hw1
        go_wp2_with fail
        refine (E.out _).mono ?_; rintro e w2 ⟨rfl, hw2⟩
        have b2 : Below w.heap.size w w2 := chain (by repeat' (first | (with_reducible exact Below.refl _ _) | (with_reducible assumption) | (with_reducible refine below_drewN ?_ _) | (with_reducible refine Below.alloc ?_ ?_ _) | (with_reducible refine Below.drew ?_) | (with_reducible refine Below.setCell ?_ ?_ _) | go_size)) hw2
        have s2 := b2.size
        have x2 := (x0.below hw1).below hw2
        clear lb q0 q1 q2
        go_wp2_with fail
        refine (D.out _).mono ?_; rintro e w3 ⟨rfl, hw3⟩
        have b3 : Below w.heap.size w w3 := chain (by repeat' (first | (with_reducible exact Below.refl _ _) | (with_reducible assumption) | (with_reducible refine below_drewN ?_ _) | (with_reducible refine Below.alloc ?_ ?_ _) | (with_reducible refine Below.drew ?_) | (with_reducible refine Below.setCell ?_ ?_ _) | go_size)) hw3
        have s3 := b3.size
        obtain ⟨lb, q0, q1, q2⟩ := x2.below hw3
        have x3 := (x2.below hw3).alloc (.cells #[.int .i64 (decA l 4), .int .i64 (decA l 8), .int .i64 (decA l 12)] 23)
        go_wp2_with fail
        refine (HK.out _ K.out).mono ?_; rintro e w4 ⟨rfl, hw4⟩
        have b4 : Below w.heap.size w w4 := chain (by repeat' (first | (with_reducible exact Below.refl _ _) | (with_reducible assumption) | (with_reducible refine below_drewN ?_ _) | (with_reducible refine Below.alloc ?_ ?_ _) | (with_reducible refine Below.drew ?_) | (with_reducible refine Below.setCell ?_ ?_ _) | go_size)) hw4
        have s4 := b4.size
        obtain ⟨lb', r0, r1, r2⟩ := x3.below hw4
        go_wp2_with fail
        refine (M.out _).mono ?_; rintro e w5 ⟨rfl, hw5⟩
        have b5 : Below w.heap.size w w5 := chain (by repeat' (first | (with_reducible exact Below.refl _ _) | (with_reducible assumption) | (with_reducible refine below_drewN ?_ _) | (with_reducible refine Below.alloc ?_ ?_ _) | (with_reducible refine Below.drew ?_) | (with_reducible refine Below.setCell ?_ ?_ _) | go_size)) hw5
        have s5 := b5.size
        go_wp2_with fail
        go_ret
        exact ⟨rfl, by repeat' (first | (with_reducible exact Below.refl _ _) | (with_reducible assumption) | (with_reducible refine below_drewN ?_ _) | (with_reducible refine Below.alloc ?_ ?_ _) | (with_reducible refine Below.drew ?_) | (with_reducible refine Below.setCell ?_ ?_ _) | go_size)⟩
    · have he : encE a b c = 0 := by unfold encE; rw [hm]; rfl
      simp only [he] at EE
      simp only [hm] at ME
      obtain ⟨f0, f1, f2, f3⟩ := decOk_enc hm
      have TE := fun W : World => decode_any (encB a b c) W
      simp only [f1, f2, f3, dec_of_ok f0] at TE
      have hne : eqH a b c a b c = true := by simp [eqH]
      clear hm he f0 f1 f2 f3
      generalize encB a b c = L at EE TE
      cases hk : decOk l
      · obtain ⟨hd, _, _, _⟩ := dec_of_no hk
        simp only [hd] at DL
        have D := Lib.hid DL
        have E := Lib.hid EE
        have M := Lib.hid ME
        have T := Lib.hid TE
        clear DL EE ME hk hd TE
        go_enter Try.func5, Try.ntmps5
        go_wp2_with fail
        refine (awake_any _).mono ?_; rintro e w1 ⟨rfl, hw1⟩
        have b1 : Below w.heap.size w w1 := chain (by repeat' (first | (with_reducible exact Below.refl _ _) | (with_reducible assumption) | (with_reducible refine below_drewN ?_ _) | (with_reducible refine Below.alloc ?_ ?_ _) | (with_reducible refine Below.drew ?_) | (with_reducible refine Below.setCell ?_ ?_ _) | go_size)) hw1
        have s1 := b1.size
        obtain ⟨lb, q0, q1, q2⟩ := x0.below hw1
        go_wp2_with fail
        refine (E.out _).mono ?_; rintro e w2 ⟨rfl, hw2⟩
        have b2 : Below w.heap.size w w2 := chain (by repeat' (first | (with_reducible exact Below.refl _ _) | (with_reducible assumption) | (with_reducible refine below_drewN ?_ _) | (with_reducible refine Below.alloc ?_ ?_ _) | (with_reducible refine Below.drew ?_) | (with_reducible refine Below.setCell ?_ ?_ _) | go_size)) hw2
        have s2 := b2.size
        clear lb q0 q1 q2
        go_wp2_with fail
        refine (T.out _).mono ?_; rintro e w3 ⟨rfl, hw3⟩
        have b3 : Below w.heap.size w w3 := chain (by repeat' (first | (with_reducible exact Below.refl _ _) | (with_reducible assumption) | (with_reducible refine below_drewN ?_ _) | (with_reducible refine Below.alloc ?_ ?_ _) | (with_reducible refine Below.drew ?_) | (with_reducible refine Below.setCell ?_ ?_ _) | go_size)) hw3
        have s3 := b3.size
        have x3 := ((x0.below hw1).below hw2).below hw3
        obtain ⟨lb, q0, q1, q2⟩ := x3
        have x3 := (((x0.below hw1).below hw2).below hw3).alloc (.cells #[.int .i64 a, .int .i64 b, .int .i64 c] 23)
        go_wp2_with fail
        refine (D.out _).mono ?_; rintro e w4 ⟨rfl, hw4⟩
        have b4 : Below w.heap.size w w4 := chain (by repeat' (first | (with_reducible exact Below.refl _ _) | (with_reducible assumption) | (with_reducible refine below_drewN ?_ _) | (with_reducible refine Below.alloc ?_ ?_ _) | (with_reducible refine Below.drew ?_) | (with_reducible refine Below.setCell ?_ ?_ _) | go_size)) hw4
        have s4 := b4.size
        obtain ⟨lb', r0, r1, r2⟩ := x3.below hw4
        go_wp2_with fail
        refine (M.out _).mono ?_; rintro e w5 ⟨rfl, hw5⟩
        have b5 : Below w.heap.size w w5 := chain (by repeat' (first | (with_reducible exact Below.refl _ _) | (with_reducible assumption) | (with_reducible refine below_drewN ?_ _) | (with_reducible refine Below.alloc ?_ ?_ _) | (with_reducible refine Below.drew ?_) | (with_reducible refine Below.setCell ?_ ?_ _) | go_size)) hw5
        have s5 := b5.size
        go_wp2_with fail
        go_ret
        exact ⟨rfl, by repeat' (first | (with_reducible exact Below.refl _ _) | (with_reducible assumption) | (with_reducible refine below_drewN ?_ _) | (with_reducible refine Below.alloc ?_ ?_ _) | (with_reducible refine Below.drew ?_) | (with_reducible refine Below.setCell ?_ ?_ _) | go_size)⟩
      · have hd := dec_of_ok hk
        simp only [hd] at DL
        have D := Lib.hid DL
        have E := Lib.hid EE
        have M := Lib.hid ME
        have T := Lib.hid TE
        have K := Lib.hid hk
        clear DL EE ME hk hd TE
        go_enter Try.func5, Try.ntmps5
        go_wp2_with fail
        refine (awake_any _).mono ?_; rintro e w1 ⟨rfl, hw1⟩
        have b1 : Below w.heap.size w w1 := chain (by repeat' (first | (with_reducible exact Below.refl _ _) | (with_reducible assumption) | (with_reducible refine below_drewN ?_ _) | (with_reducible refine Below.alloc ?_ ?_ _) | (with_reducible refine Below.drew ?_) | (with_reducible refine Below.setCell ?_ ?_ _) | go_size)) hw1
        have s1 := b1.size
        obtain ⟨lb, q0, q1, q2⟩ := x0.below hw1
        go_wp2_with fail
        refine (E.out _).mono ?_; rintro e w2 ⟨rfl, hw2⟩
        have b2 : Below w.heap.size w w2 := chain (by repeat' (first | (with_reducible exact Below.refl _ _) | (with_reducible assumption) | (with_reducible refine below_drewN ?_ _) | (with_reducible refine Below.alloc ?_ ?_ _) | (with_reducible refine Below.drew ?_) | (with_reducible refine Below.setCell ?_ ?_ _) | go_size)) hw2
        have s2 := b2.size
        clear lb q0 q1 q2
        go_wp2_with fail
        refine (T.out _).mono ?_; rintro e w3 ⟨rfl, hw3⟩
        have b3 : Below w.heap.size w w3 := chain (by repeat' (first | (with_reducible exact Below.refl _ _) | (with_reducible assumption) | (with_reducible refine below_drewN ?_ _) | (with_reducible refine Below.alloc ?_ ?_ _) | (with_reducible refine Below.drew ?_) | (with_reducible refine Below.setCell ?_ ?_ _) | go_size)) hw3
        have s3 := b3.size
        obtain ⟨lb, q0, q1, q2⟩ := ((x0.below hw1).below hw2).below hw3
        have x3 := (((x0.below hw1).below hw2).below hw3).alloc (.cells #[.int .i64 a, .int .i64 b, .int .i64 c] 23)
        go_wp2_with fail
        refine (D.out _).mono ?_; rintro e w4 ⟨rfl, hw4⟩
        have b4 : Below w.heap.size w w4 := chain (by repeat' (first | (with_reducible exact Below.refl _ _) | (with_reducible assumption) | (with_reducible refine below_drewN ?_ _) | (with_reducible refine Below.alloc ?_ ?_ _) | (with_reducible refine Below.drew ?_) | (with_reducible refine Below.setCell ?_ ?_ _) | go_size)) hw4
        have s4 := b4.size
        obtain ⟨lb', r0, r1, r2⟩ := x3.below hw4
        have x4 := (x3.below hw4).alloc (.cells #[.int .i64 (decA l 4), .int .i64 (decA l 8), .int .i64 (decA l 12)] 23)
        go_wp2_with fail
        refine (HK.out _ K.out).mono ?_; rintro e w5 ⟨rfl, hw5⟩
        have b5 : Below w.heap.size w w5 := chain (by repeat' (first | (with_reducible exact Below.refl _ _) | (with_reducible assumption) | (with_reducible refine below_drewN ?_ _) | (with_reducible refine Below.alloc ?_ ?_ _) | (with_reducible refine Below.drew ?_) | (with_reducible refine Below.setCell ?_ ?_ _) | go_size)) hw5
        have s5 := b5.size
        obtain ⟨lb5, t0, t1, t2⟩ := x4.below hw5
        go_wp2_with fail
        refine (M.out _).mono ?_; rintro e w6 ⟨rfl, hw6⟩
        have b6 : Below w.heap.size w w6 := chain (by repeat' (first | (with_reducible exact Below.refl _ _) | (with_reducible assumption) | (with_reducible refine below_drewN ?_ _) | (with_reducible refine Below.alloc ?_ ?_ _) | (with_reducible refine Below.drew ?_) | (with_reducible refine Below.setCell ?_ ?_ _) | go_size)) hw6
        have s6 := b6.size
        go_wp2_with fail
        go_ret
        exact ⟨rfl, by repeat' (first | (with_reducible exact Below.refl _ _) | (with_reducible assumption) | (with_reducible refine below_drewN ?_ _) | (with_reducible refine Below.alloc ?_ ?_ _) | (with_reducible refine Below.drew ?_) | (with_reducible refine Below.setCell ?_ ?_ _) | go_size)⟩

theorem back_walk : Walks Try.prog 5 Try.f5 := by
  intro H enc W args ds p base hval hA _
  rw [Try.params5] at hA hval
  obtain ⟨v0, v1, d0, d1, p0, p1, rfl, rfl, rfl, h0, h1⟩ := trodAll_two hA
  obtain ⟨a0, a1, a2, rfl, _⟩ := open_hv (hval 0 _ v0 rfl rfl) h0
  obtain ⟨l, rfl, _⟩ := open_sv (hval 1 _ v1 rfl rfl) h1
  exact back_any a0 a1 a2 l W

theorem HandleBack_holds : Rows.HandleBackSaid :=
  OpenClaim.holds_of_wide 5 Try.f5 rfl rfl rfl rfl rfl rfl rfl ⟨rfl, rfl, rfl, rfl, rfl⟩ rfl rfl rfl rfl rfl (by kernel_rfl) Try.func5 (by kernel_rfl)
    (of_decide_eq_true (by kernel_rfl)) (by unfold Func.isWrapper; first | (rw [if_pos (by decide +kernel)]; kernel_rfl) | (rw [if_neg (by decide +kernel)]; exact ⟨rfl, rfl⟩))
    (fun os started H enc _ => law_lifted (C := Try.checked) (s := Rows.handleBackSpec) own started (by kernel_rfl) Try.func5 laidOut rfl rfl Try.underlying4
      (by have h : ∀ u ∈ Try.f5.params.toList, (Try.prog.readableRec u && decide (u < Try.prog.types.size)) = true := List.all_eq_true.1 (by kernel_rfl)
          intro u hu; have := h u hu; rw [Bool.and_eq_true, decide_eq_true_eq] at this; exact this)
      (by intro H l hl; rw [show Try.f5.params.size = 2 from by rw [Try.params5]; rfl] at hl; match l, hl with | [d0, d1], _ => rfl)
      H enc (ChangeSpec.witness6 (enc := enc) (C := Try.checked) false ⟨#[], #[.agg #[.int .i64 0, .int .i64 0, .int .i64 0], .string ⟨#[]⟩], []⟩ 8 (by kernel_rfl) (by kernel_rfl) (by kernel_rfl) (by kernel_rfl)) back_walk)
#print axioms HandleBack_holds
end Go.Proofs.Ytchldgedpncggaa
