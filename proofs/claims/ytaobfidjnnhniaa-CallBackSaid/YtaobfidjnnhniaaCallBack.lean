/- CallBack: what is written is read as it was, what is told is heard; what is read, or heard, is written, or told, by these bytes; no bytes are both a call's and a reply's: for every input the law returns true. Conditions: none. -/
import Derived.Test.YtaobfidjnnhniaaCallPlain
namespace Go.Proofs.Ytaobfidjnnhniaa
set_option linter.unusedVariables false
set_option linter.unusedSimpArgs false
open Go.ChangeShapes Go.WideShapes Go.ChangeAt Go.RowKit Pl
attribute [local go_sem] ba_toList ba_size

theorem neq_head_self (c x p : Int) (l : List UInt8) (w : World) : (binOp BinOp.neq 29 (headV c x p l) (headV c x p l)).run Try.prog w = .ok (.bool false) w := by
  have := neq_head c x p l c x p l w
  rwa [show eqD c x p l c x p l = true from decide_eq_true ⟨rfl, rfl, rfl, rfl⟩] at this
theorem neq_ans_self (x e : Int) (l : List UInt8) (w : World) : (binOp BinOp.neq 32 (ansV x e l) (ansV x e l)).run Try.prog w = .ok (.bool false) w := by
  have := neq_ans x e l x e l w
  rwa [show eqA x e l x e l = true from decide_eq_true ⟨rfl, rfl, rfl⟩] at this

set_option maxRecDepth 100000 in
set_option maxHeartbeats 16000000 in
theorem back_walk (c x p : Int) (l l1 : List UInt8) (y e : Int) (m s : List UInt8) (w : World) (S X : List UInt8) (E F e1 : Int) (z zz lo : Bool) (hz : (E == 0) = z) (hzz : (F == 0) = zz)
    (CA : Hid (∀ W : World, Calls Try.prog 9 #[headV c x p l] W fun r w' => r = .returned (.tuple #[sv S, .int .i64 E]) ∧ Below W.heap.size W w'))
    (TA : Hid (∀ W : World, Calls Try.prog 11 #[ansV y e m] W fun r w' => r = .returned (.tuple #[sv X, .int .i64 F]) ∧ Below W.heap.size W w'))
    (RS : Hid (z = true → readV S = .tuple #[headV c x p l1, .int .i64 e1] ∧ hearV S = .tuple #[ansV 0 0 [], .int .i64 4] ∧ S.length ≤ 4096))
    (hlo : decide (p < 19) = lo) (H1 : Hid ((lo = true → l1 = l ∧ e1 = 0) ∧ (lo = false → l1 = [] ∧ e1 = 62)))
    (HX : Hid (zz = true → hearV X = .tuple #[ansV y e m, .int .i64 0] ∧ readV X = .tuple #[headV 0 0 0 [], .int .i64 4] ∧ X.length ≤ 20000))
    (rc rx rp re ax ak ae : Int) (rb ab : List UInt8) (RT : Hid (readV s = .tuple #[headV rc rx rp rb, .int .i64 re])) (HT : Hid (hearV s = .tuple #[ansV ax ak ab, .int .i64 ae]))
    (HC : Hid ((re = 0 ∧ ae = 4 ∧ ∀ W : World, Calls Try.prog 9 #[headV rc rx rp rb] W fun r w' => r = .returned (.tuple #[sv s, .int .i64 0]) ∧ Below W.heap.size W w') ∨
      (ae = 0 ∧ re = 4 ∧ ∀ W : World, Calls Try.prog 11 #[ansV ax ak ab] W fun r w' => r = .returned (.tuple #[sv s, .int .i64 0]) ∧ Below W.heap.size W w') ∨ ((re == 0) = false ∧ (ae == 0) = false)))
    (t1 : ¬ (10000 : Int) < (l.length : Int)) (t2 : ¬ (10000 : Int) < (m.length : Int)) (t3 : ¬ (10000 : Int) < (s.length : Int)) :
    Calls Try.prog 8 #[headV c x p l, ansV y e m, sv s] w fun r w' => r = .returned (.bool true) ∧ Below w.heap.size w w' := by
  have n1 := fun W : World => neq_head_self c x p l W
  have n2 := fun W : World => neq_head_self c x p [] W
  have n3 := fun W : World => neq_ans_self y e m W
  have D0 := (BoxD.new w c x p l 23).alloc (.cells #[.int .i64 y, .int .i64 e, sv m] 26)
  have A0 := BoxA.new (w.alloc (.cells #[.int .i64 c, .int .i64 x, .int .i64 p, sv l] 23)) y e m 26 _ rfl
  simp only [World.size_alloc] at D0 A0
  have hs0 : s.length ≤ 10000 := by omega
  have HS0 := Lib.hid hs0
  clear hs0
  go_enter Try.func8, Try.ntmps8
  go_wp2_with fail
  refine (works_any _).mono ?_; rintro e w1 ⟨rfl, hw1⟩
  have b1 : Below w.heap.size w w1 := chain (by repeat' (first | (with_reducible exact Below.refl _ _) | (with_reducible assumption) | (with_reducible refine below_drewN ?_ _) | (with_reducible refine Below.alloc ?_ ?_ _) | (with_reducible refine Below.drew ?_) | (with_reducible refine Below.setCell ?_ ?_ _) | go_size)) hw1
  have s1 := b1.size
  have D0 := D0.step (by repeat' (first | (with_reducible exact Below.refl _ _) | (with_reducible assumption) | (with_reducible refine below_drewN ?_ _) | (with_reducible refine Below.alloc ?_ ?_ _) | (with_reducible refine Below.drew ?_) | (with_reducible refine Below.setCell ?_ ?_ _) | go_size)) hw1
  have A0 := A0.step (by repeat' (first | (with_reducible exact Below.refl _ _) | (with_reducible assumption) | (with_reducible refine below_drewN ?_ _) | (with_reducible refine Below.alloc ?_ ?_ _) | (with_reducible refine Below.drew ?_) | (with_reducible refine Below.setCell ?_ ?_ _) | go_size)) hw1
  obtain ⟨la, x0, x1, x2, x3⟩ := D0
  obtain ⟨lb, y0, y1, y2⟩ := A0
  have D7 := (BoxD.new w1 c x p l 29).alloc (.cells #[.int .i64 y, .int .i64 e, sv m] 32)
  have A8 := BoxA.new (w1.alloc (.cells #[.int .i64 c, .int .i64 x, .int .i64 p, sv l] 29)) y e m 32 _ rfl
  simp only [World.size_alloc] at A8
  go_wp2_with fail
  refine (CA.out _).mono ?_; rintro e w2 ⟨rfl, hw2⟩
  have b2 : Below w.heap.size w w2 := chain (by repeat' (first | (with_reducible exact Below.refl _ _) | (with_reducible assumption) | (with_reducible refine below_drewN ?_ _) | (with_reducible refine Below.alloc ?_ ?_ _) | (with_reducible refine Below.drew ?_) | (with_reducible refine Below.setCell ?_ ?_ _) | go_size)) hw2
  have s2 := b2.size
  clear la x0 x1 x2 x3 lb y0 y1 y2
  have D7 := D7.step (by repeat' (first | (with_reducible exact Below.refl _ _) | (with_reducible assumption) | (with_reducible refine below_drewN ?_ _) | (with_reducible refine Below.alloc ?_ ?_ _) | (with_reducible refine Below.drew ?_) | (with_reducible refine Below.setCell ?_ ?_ _) | go_size)) hw2
  have A8 := A8.step (by repeat' (first | (with_reducible exact Below.refl _ _) | (with_reducible assumption) | (with_reducible refine below_drewN ?_ _) | (with_reducible refine Below.alloc ?_ ?_ _) | (with_reducible refine Below.drew ?_) | (with_reducible refine Below.setCell ?_ ?_ _) | go_size)) hw2
  cases z
  · obtain ⟨lv, u0, u1, u2⟩ := id A8
    go_wp2_with fail
    refine (TA.out _).mono ?_; rintro e w5 ⟨rfl, hw5⟩
    have b5 : Below w.heap.size w w5 := chain (by repeat' (first | (with_reducible exact Below.refl _ _) | (with_reducible assumption) | (with_reducible refine below_drewN ?_ _) | (with_reducible refine Below.alloc ?_ ?_ _) | (with_reducible refine Below.drew ?_) | (with_reducible refine Below.setCell ?_ ?_ _) | go_size)) hw5
    have s5 := b5.size
    clear lv u0 u1 u2
    cases zz
    · rcases HC.out with ⟨rfl, rfl, hc⟩ | ⟨rfl, rfl, hc⟩ | ⟨hc1, hc2⟩
      · have GC := Lib.hid hc
        clear hc
        go_wp2_with fail
        refine (read_any s _ (by have := HS0.out; omega)).mono ?_; rintro e w8 ⟨rfl, hw8⟩
        have b8 : Below w.heap.size w w8 := chain (by repeat' (first | (with_reducible exact Below.refl _ _) | (with_reducible assumption) | (with_reducible refine below_drewN ?_ _) | (with_reducible refine Below.alloc ?_ ?_ _) | (with_reducible refine Below.drew ?_) | (with_reducible refine Below.setCell ?_ ?_ _) | go_size)) hw8
        have s8 := b8.size
        rw [RT.out]
        have B21 := BoxD.new w8 rc rx rp rb 29
        go_wp2_with fail
        refine (hear_any s _ (by have := HS0.out; omega)).mono ?_; rintro e w9 ⟨rfl, hw9⟩
        have b9 : Below w.heap.size w w9 := chain (by repeat' (first | (with_reducible exact Below.refl _ _) | (with_reducible assumption) | (with_reducible refine below_drewN ?_ _) | (with_reducible refine Below.alloc ?_ ?_ _) | (with_reducible refine Below.drew ?_) | (with_reducible refine Below.setCell ?_ ?_ _) | go_size)) hw9
        have s9 := b9.size
        rw [HT.out]
        have B21 := (B21.step (by repeat' (first | (with_reducible exact Below.refl _ _) | (with_reducible assumption) | (with_reducible refine below_drewN ?_ _) | (with_reducible refine Below.alloc ?_ ?_ _) | (with_reducible refine Below.drew ?_) | (with_reducible refine Below.setCell ?_ ?_ _) | go_size)) hw9).alloc (.cells #[.int .i64 ax, .int .i64 ak, sv ab] 32)
        obtain ⟨l21, k0, k1, k2, k3⟩ := B21
        go_wp2_with fail
        refine (GC.out _).mono ?_; rintro e w10 ⟨rfl, hw10⟩
        have b10 : Below w.heap.size w w10 := chain (by repeat' (first | (with_reducible exact Below.refl _ _) | (with_reducible assumption) | (with_reducible refine below_drewN ?_ _) | (with_reducible refine Below.alloc ?_ ?_ _) | (with_reducible refine Below.drew ?_) | (with_reducible refine Below.setCell ?_ ?_ _) | go_size)) hw10
        have s10 := b10.size
        go_wp2_with fail
        go_ret
        exact ⟨rfl, by assumption⟩
      · have GC := Lib.hid hc
        clear hc
        go_wp2_with fail
        refine (read_any s _ (by have := HS0.out; omega)).mono ?_; rintro e w8 ⟨rfl, hw8⟩
        have b8 : Below w.heap.size w w8 := chain (by repeat' (first | (with_reducible exact Below.refl _ _) | (with_reducible assumption) | (with_reducible refine below_drewN ?_ _) | (with_reducible refine Below.alloc ?_ ?_ _) | (with_reducible refine Below.drew ?_) | (with_reducible refine Below.setCell ?_ ?_ _) | go_size)) hw8
        have s8 := b8.size
        rw [RT.out]
        go_wp2_with fail
        refine (hear_any s _ (by have := HS0.out; omega)).mono ?_; rintro e w9 ⟨rfl, hw9⟩
        have b9 : Below w.heap.size w w9 := chain (by repeat' (first | (with_reducible exact Below.refl _ _) | (with_reducible assumption) | (with_reducible refine below_drewN ?_ _) | (with_reducible refine Below.alloc ?_ ?_ _) | (with_reducible refine Below.drew ?_) | (with_reducible refine Below.setCell ?_ ?_ _) | go_size)) hw9
        have s9 := b9.size
        rw [HT.out]
        have B22 := BoxA.new w9 ax ak ab 32 _ rfl
        obtain ⟨l22, k0, k1, k2⟩ := B22
        go_wp2_with fail
        refine (GC.out _).mono ?_; rintro e w10 ⟨rfl, hw10⟩
        have b10 : Below w.heap.size w w10 := chain (by repeat' (first | (with_reducible exact Below.refl _ _) | (with_reducible assumption) | (with_reducible refine below_drewN ?_ _) | (with_reducible refine Below.alloc ?_ ?_ _) | (with_reducible refine Below.drew ?_) | (with_reducible refine Below.setCell ?_ ?_ _) | go_size)) hw10
        have s10 := b10.size
        go_wp2_with fail
        go_ret
        exact ⟨rfl, by assumption⟩
      · go_wp2_with fail
        refine (read_any s _ (by have := HS0.out; omega)).mono ?_; rintro e w8 ⟨rfl, hw8⟩
        have b8 : Below w.heap.size w w8 := chain (by repeat' (first | (with_reducible exact Below.refl _ _) | (with_reducible assumption) | (with_reducible refine below_drewN ?_ _) | (with_reducible refine Below.alloc ?_ ?_ _) | (with_reducible refine Below.drew ?_) | (with_reducible refine Below.setCell ?_ ?_ _) | go_size)) hw8
        have s8 := b8.size
        rw [RT.out]
        go_wp2_with fail
        refine (hear_any s _ (by have := HS0.out; omega)).mono ?_; rintro e w9 ⟨rfl, hw9⟩
        have b9 : Below w.heap.size w w9 := chain (by repeat' (first | (with_reducible exact Below.refl _ _) | (with_reducible assumption) | (with_reducible refine below_drewN ?_ _) | (with_reducible refine Below.alloc ?_ ?_ _) | (with_reducible refine Below.drew ?_) | (with_reducible refine Below.setCell ?_ ?_ _) | go_size)) hw9
        have s9 := b9.size
        rw [HT.out]
        go_wp2_with fail
        go_ret
        exact ⟨rfl, by repeat' (first | (with_reducible exact Below.refl _ _) | (with_reducible assumption) | (with_reducible refine below_drewN ?_ _) | (with_reducible refine Below.alloc ?_ ?_ _) | (with_reducible refine Below.drew ?_) | (with_reducible refine Below.setCell ?_ ?_ _) | go_size)⟩
    · obtain ⟨r1, r2, r3⟩ := HX.out rfl
      have X1 := Lib.hid r1
      have X2 := Lib.hid r2
      clear r1 r2
      have A8 := A8.step (by repeat' (first | (with_reducible exact Below.refl _ _) | (with_reducible assumption) | (with_reducible refine below_drewN ?_ _) | (with_reducible refine Below.alloc ?_ ?_ _) | (with_reducible refine Below.drew ?_) | (with_reducible refine Below.setCell ?_ ?_ _) | go_size)) hw5
      go_wp2_with fail
      refine (hear_any X _ (by omega)).mono ?_; rintro e w6 ⟨rfl, hw6⟩
      have b6 : Below w.heap.size w w6 := chain (by repeat' (first | (with_reducible exact Below.refl _ _) | (with_reducible assumption) | (with_reducible refine below_drewN ?_ _) | (with_reducible refine Below.alloc ?_ ?_ _) | (with_reducible refine Below.drew ?_) | (with_reducible refine Below.setCell ?_ ?_ _) | go_size)) hw6
      have s6 := b6.size
      rw [X1.out]
      have B17 := BoxA.new w6 y e m 32 _ rfl
      have A8 := A8.below hw6
      go_wp2_with fail
      refine (read_any X _ (by omega)).mono ?_; rintro e w7 ⟨rfl, hw7⟩
      have b7 : Below w.heap.size w w7 := chain (by repeat' (first | (with_reducible exact Below.refl _ _) | (with_reducible assumption) | (with_reducible refine below_drewN ?_ _) | (with_reducible refine Below.alloc ?_ ?_ _) | (with_reducible refine Below.drew ?_) | (with_reducible refine Below.setCell ?_ ?_ _) | go_size)) hw7
      have s7 := b7.size
      rw [X2.out]
      have B17 := B17.step (by repeat' (first | (with_reducible exact Below.refl _ _) | (with_reducible assumption) | (with_reducible refine below_drewN ?_ _) | (with_reducible refine Below.alloc ?_ ?_ _) | (with_reducible refine Below.drew ?_) | (with_reducible refine Below.setCell ?_ ?_ _) | go_size)) hw7
      have A8 := A8.step (by repeat' (first | (with_reducible exact Below.refl _ _) | (with_reducible assumption) | (with_reducible refine below_drewN ?_ _) | (with_reducible refine Below.alloc ?_ ?_ _) | (with_reducible refine Below.drew ?_) | (with_reducible refine Below.setCell ?_ ?_ _) | go_size)) hw7
      obtain ⟨lv, u0, u1, u2⟩ := A8
      obtain ⟨lu, v0, v1, v2⟩ := B17
      rcases HC.out with ⟨rfl, rfl, hc⟩ | ⟨rfl, rfl, hc⟩ | ⟨hc1, hc2⟩
      · have GC := Lib.hid hc
        clear hc
        go_wp2_with fail
        refine (read_any s _ (by have := HS0.out; omega)).mono ?_; rintro e w8 ⟨rfl, hw8⟩
        have b8 : Below w.heap.size w w8 := chain (by repeat' (first | (with_reducible exact Below.refl _ _) | (with_reducible assumption) | (with_reducible refine below_drewN ?_ _) | (with_reducible refine Below.alloc ?_ ?_ _) | (with_reducible refine Below.drew ?_) | (with_reducible refine Below.setCell ?_ ?_ _) | go_size)) hw8
        have s8 := b8.size
        rw [RT.out]
        have B21 := BoxD.new w8 rc rx rp rb 29
        go_wp2_with fail
        refine (hear_any s _ (by have := HS0.out; omega)).mono ?_; rintro e w9 ⟨rfl, hw9⟩
        have b9 : Below w.heap.size w w9 := chain (by repeat' (first | (with_reducible exact Below.refl _ _) | (with_reducible assumption) | (with_reducible refine below_drewN ?_ _) | (with_reducible refine Below.alloc ?_ ?_ _) | (with_reducible refine Below.drew ?_) | (with_reducible refine Below.setCell ?_ ?_ _) | go_size)) hw9
        have s9 := b9.size
        rw [HT.out]
        have B21 := (B21.step (by repeat' (first | (with_reducible exact Below.refl _ _) | (with_reducible assumption) | (with_reducible refine below_drewN ?_ _) | (with_reducible refine Below.alloc ?_ ?_ _) | (with_reducible refine Below.drew ?_) | (with_reducible refine Below.setCell ?_ ?_ _) | go_size)) hw9).alloc (.cells #[.int .i64 ax, .int .i64 ak, sv ab] 32)
        obtain ⟨l21, k0, k1, k2, k3⟩ := B21
        go_wp2_with fail
        refine (GC.out _).mono ?_; rintro e w10 ⟨rfl, hw10⟩
        have b10 : Below w.heap.size w w10 := chain (by repeat' (first | (with_reducible exact Below.refl _ _) | (with_reducible assumption) | (with_reducible refine below_drewN ?_ _) | (with_reducible refine Below.alloc ?_ ?_ _) | (with_reducible refine Below.drew ?_) | (with_reducible refine Below.setCell ?_ ?_ _) | go_size)) hw10
        have s10 := b10.size
        go_wp2_with fail
        go_ret
        exact ⟨rfl, by assumption⟩
      · have GC := Lib.hid hc
        clear hc
        go_wp2_with fail
        refine (read_any s _ (by have := HS0.out; omega)).mono ?_; rintro e w8 ⟨rfl, hw8⟩
        have b8 : Below w.heap.size w w8 := chain (by repeat' (first | (with_reducible exact Below.refl _ _) | (with_reducible assumption) | (with_reducible refine below_drewN ?_ _) | (with_reducible refine Below.alloc ?_ ?_ _) | (with_reducible refine Below.drew ?_) | (with_reducible refine Below.setCell ?_ ?_ _) | go_size)) hw8
        have s8 := b8.size
        rw [RT.out]
        go_wp2_with fail
        refine (hear_any s _ (by have := HS0.out; omega)).mono ?_; rintro e w9 ⟨rfl, hw9⟩
        have b9 : Below w.heap.size w w9 := chain (by repeat' (first | (with_reducible exact Below.refl _ _) | (with_reducible assumption) | (with_reducible refine below_drewN ?_ _) | (with_reducible refine Below.alloc ?_ ?_ _) | (with_reducible refine Below.drew ?_) | (with_reducible refine Below.setCell ?_ ?_ _) | go_size)) hw9
        have s9 := b9.size
        rw [HT.out]
        have B22 := BoxA.new w9 ax ak ab 32 _ rfl
        obtain ⟨l22, k0, k1, k2⟩ := B22
        go_wp2_with fail
        refine (GC.out _).mono ?_; rintro e w10 ⟨rfl, hw10⟩
        have b10 : Below w.heap.size w w10 := chain (by repeat' (first | (with_reducible exact Below.refl _ _) | (with_reducible assumption) | (with_reducible refine below_drewN ?_ _) | (with_reducible refine Below.alloc ?_ ?_ _) | (with_reducible refine Below.drew ?_) | (with_reducible refine Below.setCell ?_ ?_ _) | go_size)) hw10
        have s10 := b10.size
        go_wp2_with fail
        go_ret
        exact ⟨rfl, by assumption⟩
      · go_wp2_with fail
        refine (read_any s _ (by have := HS0.out; omega)).mono ?_; rintro e w8 ⟨rfl, hw8⟩
        have b8 : Below w.heap.size w w8 := chain (by repeat' (first | (with_reducible exact Below.refl _ _) | (with_reducible assumption) | (with_reducible refine below_drewN ?_ _) | (with_reducible refine Below.alloc ?_ ?_ _) | (with_reducible refine Below.drew ?_) | (with_reducible refine Below.setCell ?_ ?_ _) | go_size)) hw8
        have s8 := b8.size
        rw [RT.out]
        go_wp2_with fail
        refine (hear_any s _ (by have := HS0.out; omega)).mono ?_; rintro e w9 ⟨rfl, hw9⟩
        have b9 : Below w.heap.size w w9 := chain (by repeat' (first | (with_reducible exact Below.refl _ _) | (with_reducible assumption) | (with_reducible refine below_drewN ?_ _) | (with_reducible refine Below.alloc ?_ ?_ _) | (with_reducible refine Below.drew ?_) | (with_reducible refine Below.setCell ?_ ?_ _) | go_size)) hw9
        have s9 := b9.size
        rw [HT.out]
        go_wp2_with fail
        go_ret
        exact ⟨rfl, by repeat' (first | (with_reducible exact Below.refl _ _) | (with_reducible assumption) | (with_reducible refine below_drewN ?_ _) | (with_reducible refine Below.alloc ?_ ?_ _) | (with_reducible refine Below.drew ?_) | (with_reducible refine Below.setCell ?_ ?_ _) | go_size)⟩
  · obtain ⟨r1, r2, r3⟩ := RS.out rfl
    have R1 := Lib.hid r1
    have R2 := Lib.hid r2
    clear r1 r2
    go_wp2_with fail
    refine (read_any S _ (by omega)).mono ?_; rintro e w3 ⟨rfl, hw3⟩
    have b3 : Below w.heap.size w w3 := chain (by repeat' (first | (with_reducible exact Below.refl _ _) | (with_reducible assumption) | (with_reducible refine below_drewN ?_ _) | (with_reducible refine Below.alloc ?_ ?_ _) | (with_reducible refine Below.drew ?_) | (with_reducible refine Below.setCell ?_ ?_ _) | go_size)) hw3
    have s3 := b3.size
    rw [R1.out]
    have B11 := BoxD.new w3 c x p l1 29
    go_wp2_with fail
    refine (hear_any S _ (by omega)).mono ?_; rintro e w4 ⟨rfl, hw4⟩
    have b4 : Below w.heap.size w w4 := chain (by repeat' (first | (with_reducible exact Below.refl _ _) | (with_reducible assumption) | (with_reducible refine below_drewN ?_ _) | (with_reducible refine Below.alloc ?_ ?_ _) | (with_reducible refine Below.drew ?_) | (with_reducible refine Below.setCell ?_ ?_ _) | go_size)) hw4
    have s4 := b4.size
    rw [R2.out]
    have B11 := B11.step (by repeat' (first | (with_reducible exact Below.refl _ _) | (with_reducible assumption) | (with_reducible refine below_drewN ?_ _) | (with_reducible refine Below.alloc ?_ ?_ _) | (with_reducible refine Below.drew ?_) | (with_reducible refine Below.setCell ?_ ?_ _) | go_size)) hw4
    have D7 := (D7.below hw3).step (by repeat' (first | (with_reducible exact Below.refl _ _) | (with_reducible assumption) | (with_reducible refine below_drewN ?_ _) | (with_reducible refine Below.alloc ?_ ?_ _) | (with_reducible refine Below.drew ?_) | (with_reducible refine Below.setCell ?_ ?_ _) | go_size)) hw4
    have A8 := (A8.below hw3).step (by repeat' (first | (with_reducible exact Below.refl _ _) | (with_reducible assumption) | (with_reducible refine below_drewN ?_ _) | (with_reducible refine Below.alloc ?_ ?_ _) | (with_reducible refine Below.drew ?_) | (with_reducible refine Below.setCell ?_ ?_ _) | go_size)) hw4
    obtain ⟨la, x0, x1, x2, x3⟩ := id D7
    obtain ⟨lb, y0, y1, y2, y3⟩ := B11
    cases lo
    · obtain ⟨rfl, rfl⟩ := H1.out.2 rfl
      have h19 : 19 ≤ p := by have := of_decide_eq_false hlo; omega
      have h19' : ¬ p < 19 := by omega
      clear hlo
      obtain ⟨lv, u0, u1, u2⟩ := id A8
      go_wp2_with fail
      refine (TA.out _).mono ?_; rintro e w5 ⟨rfl, hw5⟩
      have b5 : Below w.heap.size w w5 := chain (by repeat' (first | (with_reducible exact Below.refl _ _) | (with_reducible assumption) | (with_reducible refine below_drewN ?_ _) | (with_reducible refine Below.alloc ?_ ?_ _) | (with_reducible refine Below.drew ?_) | (with_reducible refine Below.setCell ?_ ?_ _) | go_size)) hw5
      have s5 := b5.size
      clear lv u0 u1 u2
      cases zz
      · rcases HC.out with ⟨rfl, rfl, hc⟩ | ⟨rfl, rfl, hc⟩ | ⟨hc1, hc2⟩
        · have GC := Lib.hid hc
          clear hc
          go_wp2_with fail
          refine (read_any s _ (by have := HS0.out; omega)).mono ?_; rintro e w8 ⟨rfl, hw8⟩
          have b8 : Below w.heap.size w w8 := chain (by repeat' (first | (with_reducible exact Below.refl _ _) | (with_reducible assumption) | (with_reducible refine below_drewN ?_ _) | (with_reducible refine Below.alloc ?_ ?_ _) | (with_reducible refine Below.drew ?_) | (with_reducible refine Below.setCell ?_ ?_ _) | go_size)) hw8
          have s8 := b8.size
          rw [RT.out]
          have B21 := BoxD.new w8 rc rx rp rb 29
          go_wp2_with fail
          refine (hear_any s _ (by have := HS0.out; omega)).mono ?_; rintro e w9 ⟨rfl, hw9⟩
          have b9 : Below w.heap.size w w9 := chain (by repeat' (first | (with_reducible exact Below.refl _ _) | (with_reducible assumption) | (with_reducible refine below_drewN ?_ _) | (with_reducible refine Below.alloc ?_ ?_ _) | (with_reducible refine Below.drew ?_) | (with_reducible refine Below.setCell ?_ ?_ _) | go_size)) hw9
          have s9 := b9.size
          rw [HT.out]
          have B21 := (B21.step (by repeat' (first | (with_reducible exact Below.refl _ _) | (with_reducible assumption) | (with_reducible refine below_drewN ?_ _) | (with_reducible refine Below.alloc ?_ ?_ _) | (with_reducible refine Below.drew ?_) | (with_reducible refine Below.setCell ?_ ?_ _) | go_size)) hw9).alloc (.cells #[.int .i64 ax, .int .i64 ak, sv ab] 32)
          obtain ⟨l21, k0, k1, k2, k3⟩ := B21
          go_wp2_with fail
          refine (GC.out _).mono ?_; rintro e w10 ⟨rfl, hw10⟩
          have b10 : Below w.heap.size w w10 := chain (by repeat' (first | (with_reducible exact Below.refl _ _) | (with_reducible assumption) | (with_reducible refine below_drewN ?_ _) | (with_reducible refine Below.alloc ?_ ?_ _) | (with_reducible refine Below.drew ?_) | (with_reducible refine Below.setCell ?_ ?_ _) | go_size)) hw10
          have s10 := b10.size
          go_wp2_with fail
          go_ret
          exact ⟨rfl, by assumption⟩
        · have GC := Lib.hid hc
          clear hc
          go_wp2_with fail
          refine (read_any s _ (by have := HS0.out; omega)).mono ?_; rintro e w8 ⟨rfl, hw8⟩
          have b8 : Below w.heap.size w w8 := chain (by repeat' (first | (with_reducible exact Below.refl _ _) | (with_reducible assumption) | (with_reducible refine below_drewN ?_ _) | (with_reducible refine Below.alloc ?_ ?_ _) | (with_reducible refine Below.drew ?_) | (with_reducible refine Below.setCell ?_ ?_ _) | go_size)) hw8
          have s8 := b8.size
          rw [RT.out]
          go_wp2_with fail
          refine (hear_any s _ (by have := HS0.out; omega)).mono ?_; rintro e w9 ⟨rfl, hw9⟩
          have b9 : Below w.heap.size w w9 := chain (by repeat' (first | (with_reducible exact Below.refl _ _) | (with_reducible assumption) | (with_reducible refine below_drewN ?_ _) | (with_reducible refine Below.alloc ?_ ?_ _) | (with_reducible refine Below.drew ?_) | (with_reducible refine Below.setCell ?_ ?_ _) | go_size)) hw9
          have s9 := b9.size
          rw [HT.out]
          have B22 := BoxA.new w9 ax ak ab 32 _ rfl
          obtain ⟨l22, k0, k1, k2⟩ := B22
          go_wp2_with fail
          refine (GC.out _).mono ?_; rintro e w10 ⟨rfl, hw10⟩
          have b10 : Below w.heap.size w w10 := chain (by repeat' (first | (with_reducible exact Below.refl _ _) | (with_reducible assumption) | (with_reducible refine below_drewN ?_ _) | (with_reducible refine Below.alloc ?_ ?_ _) | (with_reducible refine Below.drew ?_) | (with_reducible refine Below.setCell ?_ ?_ _) | go_size)) hw10
          have s10 := b10.size
          go_wp2_with fail
          go_ret
          exact ⟨rfl, by assumption⟩
        · go_wp2_with fail
          refine (read_any s _ (by have := HS0.out; omega)).mono ?_; rintro e w8 ⟨rfl, hw8⟩
          have b8 : Below w.heap.size w w8 := chain (by repeat' (first | (with_reducible exact Below.refl _ _) | (with_reducible assumption) | (with_reducible refine below_drewN ?_ _) | (with_reducible refine Below.alloc ?_ ?_ _) | (with_reducible refine Below.drew ?_) | (with_reducible refine Below.setCell ?_ ?_ _) | go_size)) hw8
          have s8 := b8.size
          rw [RT.out]
          go_wp2_with fail
          refine (hear_any s _ (by have := HS0.out; omega)).mono ?_; rintro e w9 ⟨rfl, hw9⟩
          have b9 : Below w.heap.size w w9 := chain (by repeat' (first | (with_reducible exact Below.refl _ _) | (with_reducible assumption) | (with_reducible refine below_drewN ?_ _) | (with_reducible refine Below.alloc ?_ ?_ _) | (with_reducible refine Below.drew ?_) | (with_reducible refine Below.setCell ?_ ?_ _) | go_size)) hw9
          have s9 := b9.size
          rw [HT.out]
          go_wp2_with fail
          go_ret
          exact ⟨rfl, by repeat' (first | (with_reducible exact Below.refl _ _) | (with_reducible assumption) | (with_reducible refine below_drewN ?_ _) | (with_reducible refine Below.alloc ?_ ?_ _) | (with_reducible refine Below.drew ?_) | (with_reducible refine Below.setCell ?_ ?_ _) | go_size)⟩
      · obtain ⟨r1, r2, r3⟩ := HX.out rfl
        have X1 := Lib.hid r1
        have X2 := Lib.hid r2
        clear r1 r2
        have A8 := A8.step (by repeat' (first | (with_reducible exact Below.refl _ _) | (with_reducible assumption) | (with_reducible refine below_drewN ?_ _) | (with_reducible refine Below.alloc ?_ ?_ _) | (with_reducible refine Below.drew ?_) | (with_reducible refine Below.setCell ?_ ?_ _) | go_size)) hw5
        go_wp2_with fail
        refine (hear_any X _ (by omega)).mono ?_; rintro e w6 ⟨rfl, hw6⟩
        have b6 : Below w.heap.size w w6 := chain (by repeat' (first | (with_reducible exact Below.refl _ _) | (with_reducible assumption) | (with_reducible refine below_drewN ?_ _) | (with_reducible refine Below.alloc ?_ ?_ _) | (with_reducible refine Below.drew ?_) | (with_reducible refine Below.setCell ?_ ?_ _) | go_size)) hw6
        have s6 := b6.size
        rw [X1.out]
        have B17 := BoxA.new w6 y e m 32 _ rfl
        have A8 := A8.below hw6
        go_wp2_with fail
        refine (read_any X _ (by omega)).mono ?_; rintro e w7 ⟨rfl, hw7⟩
        have b7 : Below w.heap.size w w7 := chain (by repeat' (first | (with_reducible exact Below.refl _ _) | (with_reducible assumption) | (with_reducible refine below_drewN ?_ _) | (with_reducible refine Below.alloc ?_ ?_ _) | (with_reducible refine Below.drew ?_) | (with_reducible refine Below.setCell ?_ ?_ _) | go_size)) hw7
        have s7 := b7.size
        rw [X2.out]
        have B17 := B17.step (by repeat' (first | (with_reducible exact Below.refl _ _) | (with_reducible assumption) | (with_reducible refine below_drewN ?_ _) | (with_reducible refine Below.alloc ?_ ?_ _) | (with_reducible refine Below.drew ?_) | (with_reducible refine Below.setCell ?_ ?_ _) | go_size)) hw7
        have A8 := A8.step (by repeat' (first | (with_reducible exact Below.refl _ _) | (with_reducible assumption) | (with_reducible refine below_drewN ?_ _) | (with_reducible refine Below.alloc ?_ ?_ _) | (with_reducible refine Below.drew ?_) | (with_reducible refine Below.setCell ?_ ?_ _) | go_size)) hw7
        obtain ⟨lv, u0, u1, u2⟩ := A8
        obtain ⟨lu, v0, v1, v2⟩ := B17
        rcases HC.out with ⟨rfl, rfl, hc⟩ | ⟨rfl, rfl, hc⟩ | ⟨hc1, hc2⟩
        · have GC := Lib.hid hc
          clear hc
          go_wp2_with fail
          refine (read_any s _ (by have := HS0.out; omega)).mono ?_; rintro e w8 ⟨rfl, hw8⟩
          have b8 : Below w.heap.size w w8 := chain (by repeat' (first | (with_reducible exact Below.refl _ _) | (with_reducible assumption) | (with_reducible refine below_drewN ?_ _) | (with_reducible refine Below.alloc ?_ ?_ _) | (with_reducible refine Below.drew ?_) | (with_reducible refine Below.setCell ?_ ?_ _) | go_size)) hw8
          have s8 := b8.size
          rw [RT.out]
          have B21 := BoxD.new w8 rc rx rp rb 29
          go_wp2_with fail
          refine (hear_any s _ (by have := HS0.out; omega)).mono ?_; rintro e w9 ⟨rfl, hw9⟩
          have b9 : Below w.heap.size w w9 := chain (by repeat' (first | (with_reducible exact Below.refl _ _) | (with_reducible assumption) | (with_reducible refine below_drewN ?_ _) | (with_reducible refine Below.alloc ?_ ?_ _) | (with_reducible refine Below.drew ?_) | (with_reducible refine Below.setCell ?_ ?_ _) | go_size)) hw9
          have s9 := b9.size
          rw [HT.out]
          have B21 := (B21.step (by repeat' (first | (with_reducible exact Below.refl _ _) | (with_reducible assumption) | (with_reducible refine below_drewN ?_ _) | (with_reducible refine Below.alloc ?_ ?_ _) | (with_reducible refine Below.drew ?_) | (with_reducible refine Below.setCell ?_ ?_ _) | go_size)) hw9).alloc (.cells #[.int .i64 ax, .int .i64 ak, sv ab] 32)
          obtain ⟨l21, k0, k1, k2, k3⟩ := B21
          go_wp2_with fail
          refine (GC.out _).mono ?_; rintro e w10 ⟨rfl, hw10⟩
          have b10 : Below w.heap.size w w10 := chain (by repeat' (first | (with_reducible exact Below.refl _ _) | (with_reducible assumption) | (with_reducible refine below_drewN ?_ _) | (with_reducible refine Below.alloc ?_ ?_ _) | (with_reducible refine Below.drew ?_) | (with_reducible refine Below.setCell ?_ ?_ _) | go_size)) hw10
          have s10 := b10.size
          go_wp2_with fail
          go_ret
          exact ⟨rfl, by assumption⟩
        · have GC := Lib.hid hc
          clear hc
          go_wp2_with fail
          refine (read_any s _ (by have := HS0.out; omega)).mono ?_; rintro e w8 ⟨rfl, hw8⟩
          have b8 : Below w.heap.size w w8 := chain (by repeat' (first | (with_reducible exact Below.refl _ _) | (with_reducible assumption) | (with_reducible refine below_drewN ?_ _) | (with_reducible refine Below.alloc ?_ ?_ _) | (with_reducible refine Below.drew ?_) | (with_reducible refine Below.setCell ?_ ?_ _) | go_size)) hw8
          have s8 := b8.size
          rw [RT.out]
          go_wp2_with fail
          refine (hear_any s _ (by have := HS0.out; omega)).mono ?_; rintro e w9 ⟨rfl, hw9⟩
          have b9 : Below w.heap.size w w9 := chain (by repeat' (first | (with_reducible exact Below.refl _ _) | (with_reducible assumption) | (with_reducible refine below_drewN ?_ _) | (with_reducible refine Below.alloc ?_ ?_ _) | (with_reducible refine Below.drew ?_) | (with_reducible refine Below.setCell ?_ ?_ _) | go_size)) hw9
          have s9 := b9.size
          rw [HT.out]
          have B22 := BoxA.new w9 ax ak ab 32 _ rfl
          obtain ⟨l22, k0, k1, k2⟩ := B22
          go_wp2_with fail
          refine (GC.out _).mono ?_; rintro e w10 ⟨rfl, hw10⟩
          have b10 : Below w.heap.size w w10 := chain (by repeat' (first | (with_reducible exact Below.refl _ _) | (with_reducible assumption) | (with_reducible refine below_drewN ?_ _) | (with_reducible refine Below.alloc ?_ ?_ _) | (with_reducible refine Below.drew ?_) | (with_reducible refine Below.setCell ?_ ?_ _) | go_size)) hw10
          have s10 := b10.size
          go_wp2_with fail
          go_ret
          exact ⟨rfl, by assumption⟩
        · go_wp2_with fail
          refine (read_any s _ (by have := HS0.out; omega)).mono ?_; rintro e w8 ⟨rfl, hw8⟩
          have b8 : Below w.heap.size w w8 := chain (by repeat' (first | (with_reducible exact Below.refl _ _) | (with_reducible assumption) | (with_reducible refine below_drewN ?_ _) | (with_reducible refine Below.alloc ?_ ?_ _) | (with_reducible refine Below.drew ?_) | (with_reducible refine Below.setCell ?_ ?_ _) | go_size)) hw8
          have s8 := b8.size
          rw [RT.out]
          go_wp2_with fail
          refine (hear_any s _ (by have := HS0.out; omega)).mono ?_; rintro e w9 ⟨rfl, hw9⟩
          have b9 : Below w.heap.size w w9 := chain (by repeat' (first | (with_reducible exact Below.refl _ _) | (with_reducible assumption) | (with_reducible refine below_drewN ?_ _) | (with_reducible refine Below.alloc ?_ ?_ _) | (with_reducible refine Below.drew ?_) | (with_reducible refine Below.setCell ?_ ?_ _) | go_size)) hw9
          have s9 := b9.size
          rw [HT.out]
          go_wp2_with fail
          go_ret
          exact ⟨rfl, by repeat' (first | (with_reducible exact Below.refl _ _) | (with_reducible assumption) | (with_reducible refine below_drewN ?_ _) | (with_reducible refine Below.alloc ?_ ?_ _) | (with_reducible refine Below.drew ?_) | (with_reducible refine Below.setCell ?_ ?_ _) | go_size)⟩
    · obtain ⟨hl1, rfl⟩ := H1.out.1 rfl
      rw [hl1] at y3
      clear hl1
      have h19 : p < 19 := of_decide_eq_true hlo
      have h19' : ¬ 19 ≤ p := by omega
      clear hlo
      obtain ⟨lv, u0, u1, u2⟩ := id A8
      go_wp2_with fail
      refine (TA.out _).mono ?_; rintro e w5 ⟨rfl, hw5⟩
      have b5 : Below w.heap.size w w5 := chain (by repeat' (first | (with_reducible exact Below.refl _ _) | (with_reducible assumption) | (with_reducible refine below_drewN ?_ _) | (with_reducible refine Below.alloc ?_ ?_ _) | (with_reducible refine Below.drew ?_) | (with_reducible refine Below.setCell ?_ ?_ _) | go_size)) hw5
      have s5 := b5.size
      clear lv u0 u1 u2
      cases zz
      · rcases HC.out with ⟨rfl, rfl, hc⟩ | ⟨rfl, rfl, hc⟩ | ⟨hc1, hc2⟩
        · have GC := Lib.hid hc
          clear hc
          go_wp2_with fail
          refine (read_any s _ (by have := HS0.out; omega)).mono ?_; rintro e w8 ⟨rfl, hw8⟩
          have b8 : Below w.heap.size w w8 := chain (by repeat' (first | (with_reducible exact Below.refl _ _) | (with_reducible assumption) | (with_reducible refine below_drewN ?_ _) | (with_reducible refine Below.alloc ?_ ?_ _) | (with_reducible refine Below.drew ?_) | (with_reducible refine Below.setCell ?_ ?_ _) | go_size)) hw8
          have s8 := b8.size
          rw [RT.out]
          have B21 := BoxD.new w8 rc rx rp rb 29
          go_wp2_with fail
          refine (hear_any s _ (by have := HS0.out; omega)).mono ?_; rintro e w9 ⟨rfl, hw9⟩
          have b9 : Below w.heap.size w w9 := chain (by repeat' (first | (with_reducible exact Below.refl _ _) | (with_reducible assumption) | (with_reducible refine below_drewN ?_ _) | (with_reducible refine Below.alloc ?_ ?_ _) | (with_reducible refine Below.drew ?_) | (with_reducible refine Below.setCell ?_ ?_ _) | go_size)) hw9
          have s9 := b9.size
          rw [HT.out]
          have B21 := (B21.step (by repeat' (first | (with_reducible exact Below.refl _ _) | (with_reducible assumption) | (with_reducible refine below_drewN ?_ _) | (with_reducible refine Below.alloc ?_ ?_ _) | (with_reducible refine Below.drew ?_) | (with_reducible refine Below.setCell ?_ ?_ _) | go_size)) hw9).alloc (.cells #[.int .i64 ax, .int .i64 ak, sv ab] 32)
          obtain ⟨l21, k0, k1, k2, k3⟩ := B21
          go_wp2_with fail
          refine (GC.out _).mono ?_; rintro e w10 ⟨rfl, hw10⟩
          have b10 : Below w.heap.size w w10 := chain (by repeat' (first | (with_reducible exact Below.refl _ _) | (with_reducible assumption) | (with_reducible refine below_drewN ?_ _) | (with_reducible refine Below.alloc ?_ ?_ _) | (with_reducible refine Below.drew ?_) | (with_reducible refine Below.setCell ?_ ?_ _) | go_size)) hw10
          have s10 := b10.size
          go_wp2_with fail
          go_ret
          exact ⟨rfl, by assumption⟩
        · have GC := Lib.hid hc
          clear hc
          go_wp2_with fail
          refine (read_any s _ (by have := HS0.out; omega)).mono ?_; rintro e w8 ⟨rfl, hw8⟩
          have b8 : Below w.heap.size w w8 := chain (by repeat' (first | (with_reducible exact Below.refl _ _) | (with_reducible assumption) | (with_reducible refine below_drewN ?_ _) | (with_reducible refine Below.alloc ?_ ?_ _) | (with_reducible refine Below.drew ?_) | (with_reducible refine Below.setCell ?_ ?_ _) | go_size)) hw8
          have s8 := b8.size
          rw [RT.out]
          go_wp2_with fail
          refine (hear_any s _ (by have := HS0.out; omega)).mono ?_; rintro e w9 ⟨rfl, hw9⟩
          have b9 : Below w.heap.size w w9 := chain (by repeat' (first | (with_reducible exact Below.refl _ _) | (with_reducible assumption) | (with_reducible refine below_drewN ?_ _) | (with_reducible refine Below.alloc ?_ ?_ _) | (with_reducible refine Below.drew ?_) | (with_reducible refine Below.setCell ?_ ?_ _) | go_size)) hw9
          have s9 := b9.size
          rw [HT.out]
          have B22 := BoxA.new w9 ax ak ab 32 _ rfl
          obtain ⟨l22, k0, k1, k2⟩ := B22
          go_wp2_with fail
          refine (GC.out _).mono ?_; rintro e w10 ⟨rfl, hw10⟩
          have b10 : Below w.heap.size w w10 := chain (by repeat' (first | (with_reducible exact Below.refl _ _) | (with_reducible assumption) | (with_reducible refine below_drewN ?_ _) | (with_reducible refine Below.alloc ?_ ?_ _) | (with_reducible refine Below.drew ?_) | (with_reducible refine Below.setCell ?_ ?_ _) | go_size)) hw10
          have s10 := b10.size
          go_wp2_with fail
          go_ret
          exact ⟨rfl, by assumption⟩
        · go_wp2_with fail
          refine (read_any s _ (by have := HS0.out; omega)).mono ?_; rintro e w8 ⟨rfl, hw8⟩
          have b8 : Below w.heap.size w w8 := chain (by repeat' (first | (with_reducible exact Below.refl _ _) | (with_reducible assumption) | (with_reducible refine below_drewN ?_ _) | (with_reducible refine Below.alloc ?_ ?_ _) | (with_reducible refine Below.drew ?_) | (with_reducible refine Below.setCell ?_ ?_ _) | go_size)) hw8
          have s8 := b8.size
          rw [RT.out]
          go_wp2_with fail
          refine (hear_any s _ (by have := HS0.out; omega)).mono ?_; rintro e w9 ⟨rfl, hw9⟩
          have b9 : Below w.heap.size w w9 := chain (by repeat' (first | (with_reducible exact Below.refl _ _) | (with_reducible assumption) | (with_reducible refine below_drewN ?_ _) | (with_reducible refine Below.alloc ?_ ?_ _) | (with_reducible refine Below.drew ?_) | (with_reducible refine Below.setCell ?_ ?_ _) | go_size)) hw9
          have s9 := b9.size
          rw [HT.out]
          go_wp2_with fail
          go_ret
          exact ⟨rfl, by repeat' (first | (with_reducible exact Below.refl _ _) | (with_reducible assumption) | (with_reducible refine below_drewN ?_ _) | (with_reducible refine Below.alloc ?_ ?_ _) | (with_reducible refine Below.drew ?_) | (with_reducible refine Below.setCell ?_ ?_ _) | go_size)⟩
      · obtain ⟨r1, r2, r3⟩ := HX.out rfl
        have X1 := Lib.hid r1
        have X2 := Lib.hid r2
        clear r1 r2
        have A8 := A8.step (by repeat' (first | (with_reducible exact Below.refl _ _) | (with_reducible assumption) | (with_reducible refine below_drewN ?_ _) | (with_reducible refine Below.alloc ?_ ?_ _) | (with_reducible refine Below.drew ?_) | (with_reducible refine Below.setCell ?_ ?_ _) | go_size)) hw5
        go_wp2_with fail
        refine (hear_any X _ (by omega)).mono ?_; rintro e w6 ⟨rfl, hw6⟩
        have b6 : Below w.heap.size w w6 := chain (by repeat' (first | (with_reducible exact Below.refl _ _) | (with_reducible assumption) | (with_reducible refine below_drewN ?_ _) | (with_reducible refine Below.alloc ?_ ?_ _) | (with_reducible refine Below.drew ?_) | (with_reducible refine Below.setCell ?_ ?_ _) | go_size)) hw6
        have s6 := b6.size
        rw [X1.out]
        have B17 := BoxA.new w6 y e m 32 _ rfl
        have A8 := A8.below hw6
        go_wp2_with fail
        refine (read_any X _ (by omega)).mono ?_; rintro e w7 ⟨rfl, hw7⟩
        have b7 : Below w.heap.size w w7 := chain (by repeat' (first | (with_reducible exact Below.refl _ _) | (with_reducible assumption) | (with_reducible refine below_drewN ?_ _) | (with_reducible refine Below.alloc ?_ ?_ _) | (with_reducible refine Below.drew ?_) | (with_reducible refine Below.setCell ?_ ?_ _) | go_size)) hw7
        have s7 := b7.size
        rw [X2.out]
        have B17 := B17.step (by repeat' (first | (with_reducible exact Below.refl _ _) | (with_reducible assumption) | (with_reducible refine below_drewN ?_ _) | (with_reducible refine Below.alloc ?_ ?_ _) | (with_reducible refine Below.drew ?_) | (with_reducible refine Below.setCell ?_ ?_ _) | go_size)) hw7
        have A8 := A8.step (by repeat' (first | (with_reducible exact Below.refl _ _) | (with_reducible assumption) | (with_reducible refine below_drewN ?_ _) | (with_reducible refine Below.alloc ?_ ?_ _) | (with_reducible refine Below.drew ?_) | (with_reducible refine Below.setCell ?_ ?_ _) | go_size)) hw7
        obtain ⟨lv, u0, u1, u2⟩ := A8
        obtain ⟨lu, v0, v1, v2⟩ := B17
        rcases HC.out with ⟨rfl, rfl, hc⟩ | ⟨rfl, rfl, hc⟩ | ⟨hc1, hc2⟩
        · have GC := Lib.hid hc
          clear hc
          go_wp2_with fail
          refine (read_any s _ (by have := HS0.out; omega)).mono ?_; rintro e w8 ⟨rfl, hw8⟩
          have b8 : Below w.heap.size w w8 := chain (by repeat' (first | (with_reducible exact Below.refl _ _) | (with_reducible assumption) | (with_reducible refine below_drewN ?_ _) | (with_reducible refine Below.alloc ?_ ?_ _) | (with_reducible refine Below.drew ?_) | (with_reducible refine Below.setCell ?_ ?_ _) | go_size)) hw8
          have s8 := b8.size
          rw [RT.out]
          have B21 := BoxD.new w8 rc rx rp rb 29
          go_wp2_with fail
          refine (hear_any s _ (by have := HS0.out; omega)).mono ?_; rintro e w9 ⟨rfl, hw9⟩
          have b9 : Below w.heap.size w w9 := chain (by repeat' (first | (with_reducible exact Below.refl _ _) | (with_reducible assumption) | (with_reducible refine below_drewN ?_ _) | (with_reducible refine Below.alloc ?_ ?_ _) | (with_reducible refine Below.drew ?_) | (with_reducible refine Below.setCell ?_ ?_ _) | go_size)) hw9
          have s9 := b9.size
          rw [HT.out]
          have B21 := (B21.step (by repeat' (first | (with_reducible exact Below.refl _ _) | (with_reducible assumption) | (with_reducible refine below_drewN ?_ _) | (with_reducible refine Below.alloc ?_ ?_ _) | (with_reducible refine Below.drew ?_) | (with_reducible refine Below.setCell ?_ ?_ _) | go_size)) hw9).alloc (.cells #[.int .i64 ax, .int .i64 ak, sv ab] 32)
          obtain ⟨l21, k0, k1, k2, k3⟩ := B21
          go_wp2_with fail
          refine (GC.out _).mono ?_; rintro e w10 ⟨rfl, hw10⟩
          have b10 : Below w.heap.size w w10 := chain (by repeat' (first | (with_reducible exact Below.refl _ _) | (with_reducible assumption) | (with_reducible refine below_drewN ?_ _) | (with_reducible refine Below.alloc ?_ ?_ _) | (with_reducible refine Below.drew ?_) | (with_reducible refine Below.setCell ?_ ?_ _) | go_size)) hw10
          have s10 := b10.size
          go_wp2_with fail
          go_ret
          exact ⟨rfl, by assumption⟩
        · have GC := Lib.hid hc
          clear hc
          go_wp2_with fail
          refine (read_any s _ (by have := HS0.out; omega)).mono ?_; rintro e w8 ⟨rfl, hw8⟩
          have b8 : Below w.heap.size w w8 := chain (by repeat' (first | (with_reducible exact Below.refl _ _) | (with_reducible assumption) | (with_reducible refine below_drewN ?_ _) | (with_reducible refine Below.alloc ?_ ?_ _) | (with_reducible refine Below.drew ?_) | (with_reducible refine Below.setCell ?_ ?_ _) | go_size)) hw8
          have s8 := b8.size
          rw [RT.out]
          go_wp2_with fail
          refine (hear_any s _ (by have := HS0.out; omega)).mono ?_; rintro e w9 ⟨rfl, hw9⟩
          have b9 : Below w.heap.size w w9 := chain (by repeat' (first | (with_reducible exact Below.refl _ _) | (with_reducible assumption) | (with_reducible refine below_drewN ?_ _) | (with_reducible refine Below.alloc ?_ ?_ _) | (with_reducible refine Below.drew ?_) | (with_reducible refine Below.setCell ?_ ?_ _) | go_size)) hw9
          have s9 := b9.size
          rw [HT.out]
          have B22 := BoxA.new w9 ax ak ab 32 _ rfl
          obtain ⟨l22, k0, k1, k2⟩ := B22
          go_wp2_with fail
          refine (GC.out _).mono ?_; rintro e w10 ⟨rfl, hw10⟩
          have b10 : Below w.heap.size w w10 := chain (by repeat' (first | (with_reducible exact Below.refl _ _) | (with_reducible assumption) | (with_reducible refine below_drewN ?_ _) | (with_reducible refine Below.alloc ?_ ?_ _) | (with_reducible refine Below.drew ?_) | (with_reducible refine Below.setCell ?_ ?_ _) | go_size)) hw10
          have s10 := b10.size
          go_wp2_with fail
          go_ret
          exact ⟨rfl, by assumption⟩
        · go_wp2_with fail
          refine (read_any s _ (by have := HS0.out; omega)).mono ?_; rintro e w8 ⟨rfl, hw8⟩
          have b8 : Below w.heap.size w w8 := chain (by repeat' (first | (with_reducible exact Below.refl _ _) | (with_reducible assumption) | (with_reducible refine below_drewN ?_ _) | (with_reducible refine Below.alloc ?_ ?_ _) | (with_reducible refine Below.drew ?_) | (with_reducible refine Below.setCell ?_ ?_ _) | go_size)) hw8
          have s8 := b8.size
          rw [RT.out]
          go_wp2_with fail
          refine (hear_any s _ (by have := HS0.out; omega)).mono ?_; rintro e w9 ⟨rfl, hw9⟩
          have b9 : Below w.heap.size w w9 := chain (by repeat' (first | (with_reducible exact Below.refl _ _) | (with_reducible assumption) | (with_reducible refine below_drewN ?_ _) | (with_reducible refine Below.alloc ?_ ?_ _) | (with_reducible refine Below.drew ?_) | (with_reducible refine Below.setCell ?_ ?_ _) | go_size)) hw9
          have s9 := b9.size
          rw [HT.out]
          go_wp2_with fail
          go_ret
          exact ⟨rfl, by repeat' (first | (with_reducible exact Below.refl _ _) | (with_reducible assumption) | (with_reducible refine below_drewN ?_ _) | (with_reducible refine Below.alloc ?_ ?_ _) | (with_reducible refine Below.drew ?_) | (with_reducible refine Below.setCell ?_ ?_ _) | go_size)⟩

set_option maxRecDepth 100000 in
set_option maxHeartbeats 3200000 in
theorem back_any (c x p : Int) (l : List UInt8) (y e : Int) (m s : List UInt8) (w : World) (hl : l.length ≤ maxLen) (hm : m.length ≤ maxLen) (hs : s.length ≤ maxLen) :
    Calls Try.prog 8 #[headV c x p l, ansV y e m, sv s] w fun r w' => r = .returned (.bool true) ∧ Below w.heap.size w w' := by
  unfold maxLen at hl hm hs
  by_cases hg : (l.length : Int) ≤ 10000 ∧ (m.length : Int) ≤ 10000 ∧ (s.length : Int) ≤ 10000
  · refine back_walk c x p l (if p < 19 then l else []) y e m s w (callS c x p l) (tellS y e m) (callE c x p l) (tellE y e m) (if p < 19 then 0 else 62) _ _ _ rfl rfl
      (Lib.hid fun W => cWrite_any c x p l W (by omega)) (Lib.hid fun W => tell_any y e m W (by omega)) (Lib.hid fun h => call_read (by simpa using h)) rfl (Lib.hid ⟨fun h => ?_, fun h => ?_⟩) (Lib.hid fun h => ?_)
      (readC s) (readX s) (readP s) (readE s) (hearX s) (hearK s) (hearE s) (readB s) (hearB s) (Lib.hid rfl) (Lib.hid rfl) (Lib.hid ?_) (by omega) (by omega) (by omega)
    · have h := of_decide_eq_true h
      exact ⟨if_pos h, if_pos h⟩
    · have h := of_decide_eq_false h
      exact ⟨if_neg h, if_neg h⟩
    · obtain ⟨h1, h2, h3⟩ := tell_hear (y := y) (e := e) (m := m) (by simpa using h)
      exact ⟨h1, h2, by omega⟩
    · by_cases h1 : readE s = 0
      · obtain ⟨a1, a2, a3⟩ := read_call h1
        refine .inl ⟨h1, a3, fun W => ?_⟩
        have := cWrite_any (readC s) (readX s) (readP s) (readB s) W (by
          have : (readB s).length ≤ s.length := by unfold readB; split <;> simp
          omega)
        rwa [a1, a2] at this
      · by_cases h2 : hearE s = 0
        · obtain ⟨a1, a2, a3⟩ := hear_tell h2
          refine .inr (.inl ⟨h2, a3, fun W => ?_⟩)
          have := tell_any (hearX s) (hearK s) (hearB s) W (by
            have : (hearB s).length ≤ s.length := by unfold hearB; split <;> simp
            omega)
          rwa [a1, a2] at this
        · exact .inr (.inr ⟨by simpa using h1, by simpa using h2⟩)
  · have D0 := (BoxD.new w c x p l 23).alloc (.cells #[.int .i64 y, .int .i64 e, sv m] 26)
    have A0 := BoxA.new (w.alloc (.cells #[.int .i64 c, .int .i64 x, .int .i64 p, sv l] 23)) y e m 26 _ rfl
    simp only [World.size_alloc] at D0 A0
    have hcs : (10000 : Int) < (l.length : Int) ∨ (¬ (10000 : Int) < (l.length : Int) ∧ (10000 : Int) < (m.length : Int)) ∨ (¬ (10000 : Int) < (l.length : Int) ∧ ¬ (10000 : Int) < (m.length : Int) ∧ (10000 : Int) < (s.length : Int)) := by omega
    rcases hcs with t1 | ⟨t1, t2⟩ | ⟨t1, t2, t3⟩
    all_goals
      clear hg
      go_enter Try.func8, Try.ntmps8
      go_wp2_with fail
      refine (works_any _).mono ?_; rintro e w1 ⟨rfl, hw1⟩
      have b1 : Below w.heap.size w w1 := chain (by repeat' (first | (with_reducible exact Below.refl _ _) | (with_reducible assumption) | (with_reducible refine below_drewN ?_ _) | (with_reducible refine Below.alloc ?_ ?_ _) | (with_reducible refine Below.drew ?_) | (with_reducible refine Below.setCell ?_ ?_ _) | go_size)) hw1
      have s1 := b1.size
      have D0 := D0.step (by repeat' (first | (with_reducible exact Below.refl _ _) | (with_reducible assumption) | (with_reducible refine below_drewN ?_ _) | (with_reducible refine Below.alloc ?_ ?_ _) | (with_reducible refine Below.drew ?_) | (with_reducible refine Below.setCell ?_ ?_ _) | go_size)) hw1
      have A0 := A0.step (by repeat' (first | (with_reducible exact Below.refl _ _) | (with_reducible assumption) | (with_reducible refine below_drewN ?_ _) | (with_reducible refine Below.alloc ?_ ?_ _) | (with_reducible refine Below.drew ?_) | (with_reducible refine Below.setCell ?_ ?_ _) | go_size)) hw1
      obtain ⟨la, x0, x1, x2, x3⟩ := D0
      obtain ⟨lb, y0, y1, y2⟩ := A0
      go_wp2_with fail
      refine (works_any _).mono ?_; rintro e w2 ⟨rfl, hw2⟩
      have b2 : Below w.heap.size w w2 := chain (by repeat' (first | (with_reducible exact Below.refl _ _) | (with_reducible assumption) | (with_reducible refine below_drewN ?_ _) | (with_reducible refine Below.alloc ?_ ?_ _) | (with_reducible refine Below.drew ?_) | (with_reducible refine Below.setCell ?_ ?_ _) | go_size)) hw2
      have s2 := b2.size
      go_wp2_with fail
      go_ret
      exact ⟨rfl, by assumption⟩

theorem back_law : Walks Try.prog 8 Try.f8 := by
  intro H enc W args ds p base hval hA hz
  rw [Try.params8] at hA hval hz
  obtain ⟨v0, v1, v2, d0, d1, d2, p0, p1, p2, rfl, rfl, rfl, h0, h1, h2⟩ := trodAll_three hA
  obtain ⟨a0, a1, a2, l, rfl, _, _, _, hl⟩ := open_head (hval 0 _ v0 rfl rfl) h0
  obtain ⟨c0, c1, m, rfl, _, _, hm⟩ := open_ans (hval 1 _ v1 rfl rfl) h1
  obtain ⟨s, rfl, hs⟩ := open_text (hval 2 _ v2 rfl rfl) h2
  exact back_any a0 a1 a2 l c0 c1 m s W hl hm hs

theorem CallBack_holds : Rows.CallBackSaid :=
  OpenClaim.holds_of_wide 8 Try.f8 rfl rfl rfl rfl rfl rfl rfl ⟨rfl, rfl, rfl, rfl, rfl⟩ rfl rfl rfl rfl rfl (by kernel_rfl) Try.func8 (by kernel_rfl)
    (of_decide_eq_true (by kernel_rfl)) (by unfold Func.isWrapper; first | (rw [if_pos (by decide +kernel)]; kernel_rfl) | (rw [if_neg (by decide +kernel)]; exact ⟨rfl, rfl⟩))
    (fun os started H enc _ => law_lifted (C := Try.checked) (s := Rows.callBackSpec) own started (by kernel_rfl) Try.func8 laidOut rfl rfl Try.underlying4
      (by have h : ∀ u ∈ Try.f8.params.toList, (Try.prog.readableRec u && decide (u < Try.prog.types.size)) = true := List.all_eq_true.1 (by kernel_rfl)
          intro u hu; have := h u hu; rw [Bool.and_eq_true, decide_eq_true_eq] at this; exact this)
      (by intro H l hl; rw [show Try.f8.params.size = 3 from by rw [Try.params8]; rfl] at hl; match l, hl with | [d0, d1, d2], _ => rfl)
      H enc (ChangeSpec.witness6 (enc := enc) (C := Try.checked) false ⟨#[], #[.agg #[.int .i64 0, .int .i64 0, .int .i64 0, .string ⟨#[]⟩], .agg #[.int .i64 0, .int .i64 0, .string ⟨#[]⟩], .string ⟨#[]⟩], []⟩ 8 (by kernel_rfl) (by kernel_rfl) (by kernel_rfl) (by kernel_rfl)) back_law)
#print axioms CallBack_holds
end Go.Proofs.Ytaobfidjnnhniaa
