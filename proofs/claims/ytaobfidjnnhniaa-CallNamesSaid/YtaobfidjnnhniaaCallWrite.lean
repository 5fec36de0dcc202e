/- call.Write: a call's bytes. -/
import Derived.Test.YtaobfidjnnhniaaReadBack
import Derived.Test.YtaobfidjnnhniaaRoom
import Derived.Test.YtaobfidjnnhniaaOpenBytes
namespace Go.Proofs.Ytaobfidjnnhniaa
set_option linter.unusedVariables false
set_option linter.unusedSimpArgs false
open Go.ChangeShapes Go.WideShapes Go.ChangeAt Go.RowKit Pl
attribute [local go_sem] ba_toList ba_size

def isW (n : Int) : Bool := decide (0 ≤ n) && decide (n ≤ 4294967295)
def isC (n : Int) : Bool := decide (1 ≤ n) && decide (n ≤ 16)
def wsI (l : List Int) : List UInt8 := l.flatMap fun n => be 4 n.toNat
/-- A call's bytes, and the error. -/
def callB (c x p : Int) (l : List UInt8) : List UInt8 := wsI [x, 0, 284, 3, c, p] ++ l
def callE (c x p : Int) (l : List UInt8) : Int := if (isC c && isW x && isW p && decide (l.length % 4 = 0)) = true then (if l.length ≤ 4072 then 0 else 40) else 1
def callS (c x p : Int) (l : List UInt8) : List UInt8 := if callE c x p l = 0 then callB c x p l else []

theorem client_any (n : Int) (w : World) : Calls Try.prog 20 #[.int .i64 n] w fun e w' => e = .returned (.bool (isC n)) ∧ w = w' := by
  cases h1 : decide (1 ≤ n) <;> cases h2 : decide (n ≤ 16)
  all_goals
    have hr : isC n = (decide (1 ≤ n) && decide (n ≤ 16)) := rfl
    rw [h1, h2] at hr
    rw [hr]
    clear hr
    go_enter Try.func20, Try.ntmps20
    go_wp2_with fail
    go_ret
    exact ⟨rfl, rfl⟩
theorem word_any (n : Int) (w : World) : Calls Try.prog 21 #[.int .i64 n] w fun e w' => e = .returned (.bool (isW n)) ∧ w = w' := by
  cases h1 : decide (0 ≤ n) <;> cases h2 : decide (n ≤ 4294967295)
  all_goals
    have hr : isW n = (decide (0 ≤ n) && decide (n ≤ 4294967295)) := rfl
    rw [h1, h2] at hr
    rw [hr]
    clear hr
    go_enter Try.func21, Try.ntmps21
    go_wp2_with fail
    go_ret
    exact ⟨rfl, rfl⟩

theorem callE_bad {c x p : Int} {l : List UInt8} (h : isC c = false ∨ isW x = false ∨ isW p = false ∨ ((l.length : Int) % 4 != 0) = true) : callE c x p l = 1 ∧ callS c x p l = [] := by
  have he : callE c x p l = 1 := by
    refine if_neg (fun e => ?_)
    simp only [Bool.and_eq_true, decide_eq_true_eq] at e
    obtain ⟨⟨⟨e1, e2⟩, e3⟩, e4⟩ := e
    rcases h with h | h | h | h
    · rw [e1] at h; cases h
    · rw [e2] at h; cases h
    · rw [e3] at h; cases h
    · rw [bne_iff_ne] at h; omega
  exact ⟨he, if_neg (by rw [he]; decide)⟩
theorem callE_good {c x p : Int} {l : List UInt8} (h1 : isC c = true) (h2 : isW x = true) (h3 : isW p = true) (h4 : ((l.length : Int) % 4 != 0) = false) :
    (l.length ≤ 4072 → callE c x p l = 0 ∧ callS c x p l = callB c x p l) ∧ (4072 < l.length → callE c x p l = 40 ∧ callS c x p l = []) := by
  have hd : (isC c && isW x && isW p && decide (l.length % 4 = 0)) = true := by
    rw [h1, h2, h3]
    rw [bne_eq_false_iff_eq] at h4
    simp
    omega
  have he : callE c x p l = if l.length ≤ 4072 then 0 else 40 := if_pos hd
  refine ⟨fun h => ?_, fun h => ?_⟩
  · rw [if_pos h] at he
    exact ⟨he, if_pos he⟩
  · rw [if_neg (by omega)] at he
    exact ⟨he, if_neg (by rw [he]; decide)⟩
theorem isW_bounds {n : Int} (h : isW n = true) : 0 ≤ n ∧ n ≤ 4294967295 := by simpa [isW] using h
theorem isC_bounds {n : Int} (h : isC n = true) : 1 ≤ n ∧ n ≤ 16 := by simpa [isC] using h

set_option maxRecDepth 100000 in
set_option maxHeartbeats 3200000 in
theorem cWrite_any (c x p : Int) (l : List UInt8) (w : World) (hl : l.length ≤ 9223372036854775807) :
    Calls Try.prog 9 #[.agg #[.int .i64 c, .int .i64 x, .int .i64 p, sv l]] w fun e w' => e = .returned (.tuple #[sv (callS c x p l), .int .i64 (callE c x p l)]) ∧ Below w.heap.size w w' := by
  have HC := fun W : World => client_any c W
  have HX := fun W : World => word_any x W
  have HP := fun W : World => word_any p W
  cases h1 : isC c
  · obtain ⟨he, hs⟩ := callE_bad (c := c) (x := x) (p := p) (l := l) (.inl h1)
    rw [he, hs]
    rw [h1] at HC
    have GC := Lib.hid HC
    clear HC HX HP he hs h1
    go_enter Try.func9, Try.ntmps9
    go_wp2_with fail
    refine (GC.out _).mono ?_; rintro e w' ⟨rfl, rfl⟩
    go_wp2_with fail
    go_ret2
    exact ⟨rfl, by repeat' (first | (with_reducible exact Below.refl _ _) | (with_reducible assumption) | (with_reducible refine below_drewN ?_ _) | (with_reducible refine Below.alloc ?_ ?_ _) | (with_reducible refine Below.drew ?_) | (with_reducible refine Below.setCell ?_ ?_ _) | go_size)⟩
  cases h2 : isW x
  · obtain ⟨he, hs⟩ := callE_bad (c := c) (x := x) (p := p) (l := l) (.inr (.inl h2))
    rw [he, hs]
    rw [h1] at HC
    rw [h2] at HX
    have GC := Lib.hid HC
    have GX := Lib.hid HX
    clear HC HX HP he hs h1 h2
    go_enter Try.func9, Try.ntmps9
    go_wp2_with fail
    refine (GC.out _).mono ?_; rintro e w' ⟨rfl, rfl⟩
    go_wp2_with fail
    refine (GX.out _).mono ?_; rintro e w' ⟨rfl, rfl⟩
    go_wp2_with fail
    go_ret2
    exact ⟨rfl, by repeat' (first | (with_reducible exact Below.refl _ _) | (with_reducible assumption) | (with_reducible refine below_drewN ?_ _) | (with_reducible refine Below.alloc ?_ ?_ _) | (with_reducible refine Below.drew ?_) | (with_reducible refine Below.setCell ?_ ?_ _) | go_size)⟩
  cases h3 : isW p
  · obtain ⟨he, hs⟩ := callE_bad (c := c) (x := x) (p := p) (l := l) (.inr (.inr (.inl h3)))
    rw [he, hs]
    rw [h1] at HC
    rw [h2] at HX
    rw [h3] at HP
    have GC := Lib.hid HC
    have GX := Lib.hid HX
    have GP := Lib.hid HP
    clear HC HX HP he hs h1 h2 h3
    go_enter Try.func9, Try.ntmps9
    go_wp2_with fail
    refine (GC.out _).mono ?_; rintro e w' ⟨rfl, rfl⟩
    go_wp2_with fail
    refine (GX.out _).mono ?_; rintro e w' ⟨rfl, rfl⟩
    go_wp2_with fail
    refine (GP.out _).mono ?_; rintro e w' ⟨rfl, rfl⟩
    go_wp2_with fail
    go_ret2
    exact ⟨rfl, by repeat' (first | (with_reducible exact Below.refl _ _) | (with_reducible assumption) | (with_reducible refine below_drewN ?_ _) | (with_reducible refine Below.alloc ?_ ?_ _) | (with_reducible refine Below.drew ?_) | (with_reducible refine Below.setCell ?_ ?_ _) | go_size)⟩
  rw [h1] at HC
  rw [h2] at HX
  rw [h3] at HP
  have GC := Lib.hid HC
  have GX := Lib.hid HX
  have GP := Lib.hid HP
  clear HC HX HP
  cases h4 : ((l.length : Int) % 4 != 0)
  · obtain ⟨g1, g2⟩ := callE_good (c := c) (x := x) (p := p) (l := l) h1 h2 h3 h4
    have bx := isW_bounds h2
    have bp := isW_bounds h3
    have bc := isC_bounds h1
    clear h1 h2 h3
    by_cases hbig : 4072 < l.length
    · obtain ⟨he, hs⟩ := g2 hbig
      rw [he, hs]
      have hb1 : (4072 : Int) < (l.length : Int) := by omega
      clear he hs g1 g2
      go_enter Try.func9, Try.ntmps9
      go_wp2_with fail
      refine (GC.out _).mono ?_; rintro e w' ⟨rfl, rfl⟩
      go_wp2_with fail
      refine (GX.out _).mono ?_; rintro e w' ⟨rfl, rfl⟩
      go_wp2_with fail
      refine (GP.out _).mono ?_; rintro e w' ⟨rfl, rfl⟩
      go_wp2_with fail
      go_ret2
      exact ⟨rfl, by repeat' (first | (with_reducible exact Below.refl _ _) | (with_reducible assumption) | (with_reducible refine below_drewN ?_ _) | (with_reducible refine Below.alloc ?_ ?_ _) | (with_reducible refine Below.drew ?_) | (with_reducible refine Below.setCell ?_ ?_ _) | go_size)⟩
    obtain ⟨he, hs⟩ := g1 (by omega)
    rw [he, hs]
    have hb1 : ¬ (4072 : Int) < (l.length : Int) := by omega
    clear he hs g1 g2
    have hbox := cell_new w #[.int .i64 c, .int .i64 x, .int .i64 p, sv l] 29 w.heap.size 3 rfl
    go_enter Try.func9, Try.ntmps9
    go_wp2_with fail
    refine (GC.out _).mono ?_; rintro e w' ⟨rfl, rfl⟩
    go_wp2_with fail
    refine (GX.out _).mono ?_; rintro e w' ⟨rfl, rfl⟩
    go_wp2_with fail
    refine (GP.out _).mono ?_; rintro e w' ⟨rfl, rfl⟩
    have hfx : fixB l = l := by
      rw [bne_eq_false_iff_eq] at h4
      have : padN l.length = 0 := by unfold padN; omega
      unfold fixB
      rw [this]
      simp [zeros]
    have i0 : ∀ w : World, (Instr.index 59 (.agg #[.int .i64 x, .int .i64 0, .int .i64 284, .int .i64 3, .int .i64 c, .int .i64 p]) (.int .i64 0)).run Try.prog w = .ok (.int .i64 x) w := fun _ => by kernel_rfl
    have i1 : ∀ w : World, (Instr.index 59 (.agg #[.int .i64 x, .int .i64 0, .int .i64 284, .int .i64 3, .int .i64 c, .int .i64 p]) (.int .i64 1)).run Try.prog w = .ok (.int .i64 0) w := fun _ => by kernel_rfl
    have i2 : ∀ w : World, (Instr.index 59 (.agg #[.int .i64 x, .int .i64 0, .int .i64 284, .int .i64 3, .int .i64 c, .int .i64 p]) (.int .i64 2)).run Try.prog w = .ok (.int .i64 284) w := fun _ => by kernel_rfl
    have i3 : ∀ w : World, (Instr.index 59 (.agg #[.int .i64 x, .int .i64 0, .int .i64 284, .int .i64 3, .int .i64 c, .int .i64 p]) (.int .i64 3)).run Try.prog w = .ok (.int .i64 3) w := fun _ => by kernel_rfl
    have i4 : ∀ w : World, (Instr.index 59 (.agg #[.int .i64 x, .int .i64 0, .int .i64 284, .int .i64 3, .int .i64 c, .int .i64 p]) (.int .i64 4)).run Try.prog w = .ok (.int .i64 c) w := fun _ => by kernel_rfl
    have i5 : ∀ w : World, (Instr.index 59 (.agg #[.int .i64 x, .int .i64 0, .int .i64 284, .int .i64 3, .int .i64 c, .int .i64 p]) (.int .i64 5)).run Try.prog w = .ok (.int .i64 p) w := fun _ => by kernel_rfl
    have HF := Lib.hid hfx
    have HB := Lib.hid hbox
    clear hfx hbox
    go_wp2_with fail
    go_loopw [4, 6, 43] (fun b _ i W => ∃ q : Nat, q ≤ 6 ∧ i = .int .i64 q ∧ BytesV W b (wsI ([x, 0, 284, 3, c, p].take q)) ∧ Below (w.heap.size + 1) (w.alloc (.cells #[.int .i64 c, .int .i64 x, .int .i64 p, sv l] 29)) W) (fun _ _ i _ => 6 - (intOf i).toNat)
    case atStart => exact ⟨0, by omega, rfl, BytesV.nil _, Below.refl _ _⟩
    case round =>
      obtain ⟨q, hq, rfl, hb, bW⟩ := hrel
      have bw : Below w.heap.size w wr := Below.trans (by repeat' (first | (with_reducible exact Below.refl _ _) | (with_reducible assumption) | (with_reducible refine below_drewN ?_ _) | (with_reducible refine Below.alloc ?_ ?_ _) | (with_reducible refine Below.drew ?_) | (with_reducible refine Below.setCell ?_ ?_ _) | go_size)) (bW.mono (by simp))
      have sW := bW.size
      have hq6 : q = 6 ∨ q < 6 := by omega
      rcases hq6 with rfl | hlt
      · have hc := (bW.cell (p := ⟨w.heap.size, 3, none⟩) (by simp)).trans HB.out
        have hc : wr.cell? ⟨w.heap.size, 3, none⟩ = some (sv l) := hc
        have hlen : (wsI [x, 0, 284, 3, c, p]).length = 24 := by simp [wsI]
        go_wp2_with fail
        refine (Fixed_any _ (wsI [x, 0, 284, 3, c, p]) l _ hb (by omega)).mono ?_; rintro e w3 ⟨v3, rfl, r3, hw3⟩
        rw [HF.out] at r3
        have hcv := r3.string (P := Try.prog) Try.underlying58 Try.underlying5 Try.underlying9
        go_wp2_with fail
        go_ret2
        exact ⟨rfl, chain bw hw3⟩
      · have hlen : (wsI ([x, 0, 284, 3, c, p].take q)).length ≤ 24 := by
          have : q = 0 ∨ q = 1 ∨ q = 2 ∨ q = 3 ∨ q = 4 ∨ q = 5 := by omega
          rcases this with rfl | rfl | rfl | rfl | rfl | rfl <;> simp [wsI]
        have : q = 0 ∨ q = 1 ∨ q = 2 ∨ q = 3 ∨ q = 4 ∨ q = 5 := by omega
        rcases this with rfl | rfl | rfl | rfl | rfl | rfl
        · go_wp2_with fail
          refine (Word_any _ _ _ _ hb (by omega) (by omega) (by omega)).mono ?_; rintro e w3 ⟨v3, rfl, r3, hw3⟩
          go_wp2_with fail
          go_roundw
          case rel => exact ⟨1, by omega, rfl, by simpa [wsI] using r3.bytes, bW.trans (hw3.mono (by simp at sW; omega))⟩
          case measure => simp [intOf]
        · go_wp2_with fail
          refine (Word_any _ _ _ _ hb (by omega) (by omega) (by omega)).mono ?_; rintro e w3 ⟨v3, rfl, r3, hw3⟩
          go_wp2_with fail
          go_roundw
          case rel => exact ⟨2, by omega, rfl, by simpa [wsI] using r3.bytes, bW.trans (hw3.mono (by simp at sW; omega))⟩
          case measure => simp [intOf]
        · go_wp2_with fail
          refine (Word_any _ _ _ _ hb (by omega) (by omega) (by omega)).mono ?_; rintro e w3 ⟨v3, rfl, r3, hw3⟩
          go_wp2_with fail
          go_roundw
          case rel => exact ⟨3, by omega, rfl, by simpa [wsI] using r3.bytes, bW.trans (hw3.mono (by simp at sW; omega))⟩
          case measure => simp [intOf]
        · go_wp2_with fail
          refine (Word_any _ _ _ _ hb (by omega) (by omega) (by omega)).mono ?_; rintro e w3 ⟨v3, rfl, r3, hw3⟩
          go_wp2_with fail
          go_roundw
          case rel => exact ⟨4, by omega, rfl, by simpa [wsI] using r3.bytes, bW.trans (hw3.mono (by simp at sW; omega))⟩
          case measure => simp [intOf]
        · go_wp2_with fail
          refine (Word_any _ _ _ _ hb (by omega) (by omega) (by omega)).mono ?_; rintro e w3 ⟨v3, rfl, r3, hw3⟩
          go_wp2_with fail
          go_roundw
          case rel => exact ⟨5, by omega, rfl, by simpa [wsI] using r3.bytes, bW.trans (hw3.mono (by simp at sW; omega))⟩
          case measure => simp [intOf]
        · go_wp2_with fail
          refine (Word_any _ _ _ _ hb (by omega) (by omega) (by omega)).mono ?_; rintro e w3 ⟨v3, rfl, r3, hw3⟩
          go_wp2_with fail
          go_roundw
          case rel => exact ⟨6, by omega, rfl, by simpa [wsI] using r3.bytes, bW.trans (hw3.mono (by simp at sW; omega))⟩
          case measure => simp [intOf]
  · obtain ⟨he, hs⟩ := callE_bad (c := c) (x := x) (p := p) (l := l) (.inr (.inr (.inr h4)))
    rw [he, hs]
    clear he hs h1 h2 h3
    go_enter Try.func9, Try.ntmps9
    go_wp2_with fail
    refine (GC.out _).mono ?_; rintro e w' ⟨rfl, rfl⟩
    go_wp2_with fail
    refine (GX.out _).mono ?_; rintro e w' ⟨rfl, rfl⟩
    go_wp2_with fail
    refine (GP.out _).mono ?_; rintro e w' ⟨rfl, rfl⟩
    go_wp2_with fail
    go_ret2
    exact ⟨rfl, by repeat' (first | (with_reducible exact Below.refl _ _) | (with_reducible assumption) | (with_reducible refine below_drewN ?_ _) | (with_reducible refine Below.alloc ?_ ?_ _) | (with_reducible refine Below.drew ?_) | (with_reducible refine Below.setCell ?_ ?_ _) | go_size)⟩
end Go.Proofs.Ytaobfidjnnhniaa
