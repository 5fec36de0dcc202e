/- jettyref03.Write: the document's bytes of a call. -/
import Derived.Test.YtaobfidjnnhniaaCallWrite
import Derived.Test.YtaobfidjnnhniaaXdrRefWrite
namespace Go.Proofs.Ytaobfidjnnhniaa
set_option linter.unusedVariables false
set_option linter.unusedSimpArgs false
open Go.ChangeShapes Go.WideShapes Go.ChangeAt Go.RowKit Pl
attribute [local go_sem] ba_toList ba_size ba_app

theorem refword_any (n : Int) (w : World) : Calls Try.prog 24 #[.int .i64 n] w fun e w' => e = .returned (.bool (isW n)) ∧ w = w' := by
  cases h1 : decide (0 ≤ n) <;> cases h2 : decide (n < 4294967296)
  all_goals
    have hr : isW n = (decide (0 ≤ n) && decide (n < 4294967296)) := by unfold isW; congr 1; simp; omega
    rw [h1, h2] at hr
    rw [hr]
    clear hr
    go_enter Try.func24, Try.ntmps24
    go_wp2_with fail
    go_ret
    exact ⟨rfl, rfl⟩

theorem refWord_int (v : Value) (l : List UInt8) (n : Int) (w : World) (hl : BytesV w v l) (h0 : 0 ≤ n) (hn : n < 4294967296) (hsum : l.length + 4 ≤ 140737488355328) :
    Calls Try.prog 25 #[v, .int .u32 n] w fun e w' => ∃ v', e = .returned v' ∧ BytesV w' v' (l ++ be 4 n.toNat) ∧ Below w.heap.size w w' := by
  obtain ⟨n, rfl⟩ := Int.eq_ofNat_of_zero_le h0
  exact refWord_any v l n w hl (by omega) hsum

set_option maxRecDepth 100000 in
set_option maxHeartbeats 3200000 in
theorem refWrite_any (c x p : Int) (l : List UInt8) (w : World) (hl : l.length ≤ 10000) :
    Calls Try.prog 10 #[.agg #[.int .i64 c, .int .i64 x, .int .i64 p, sv l]] w fun e w' => e = .returned (.tuple #[sv (callS c x p l), .int .i64 (callE c x p l)]) ∧ Below w.heap.size w w' := by
  have HX := fun W : World => refword_any x W
  have HP := fun W : World => refword_any p W
  cases h1 : isC c
  · obtain ⟨he, hs⟩ := callE_bad (c := c) (x := x) (p := p) (l := l) (.inl h1)
    rw [he, hs]
    clear HX HP he hs
    by_cases h1a : c < 1
    · go_enter Try.func10, Try.ntmps10
      go_wp2_with fail
      go_ret2
      exact ⟨rfl, by repeat' (first | (with_reducible exact Below.refl _ _) | (with_reducible assumption) | (with_reducible refine below_drewN ?_ _) | (with_reducible refine Below.alloc ?_ ?_ _) | (with_reducible refine Below.drew ?_) | (with_reducible refine Below.setCell ?_ ?_ _) | go_size)⟩
    · have h1b : 16 < c := by
        have : ¬ isC c = true := by rw [h1]; decide
        simp [isC] at this
        omega
      clear h1
      go_enter Try.func10, Try.ntmps10
      go_wp2_with fail
      go_ret2
      exact ⟨rfl, by repeat' (first | (with_reducible exact Below.refl _ _) | (with_reducible assumption) | (with_reducible refine below_drewN ?_ _) | (with_reducible refine Below.alloc ?_ ?_ _) | (with_reducible refine Below.drew ?_) | (with_reducible refine Below.setCell ?_ ?_ _) | go_size)⟩
  have bc := isC_bounds h1
  have h1a : ¬ c < 1 := by omega
  have h1b : ¬ 16 < c := by omega
  cases h2 : isW x
  · obtain ⟨he, hs⟩ := callE_bad (c := c) (x := x) (p := p) (l := l) (.inr (.inl h2))
    rw [he, hs]
    rw [h2] at HX
    have GX := Lib.hid HX
    clear HX HP he hs h1 h2
    go_enter Try.func10, Try.ntmps10
    go_wp2_with fail
    refine (GX.out _).mono ?_; rintro e w' ⟨rfl, rfl⟩
    go_wp2_with fail
    go_ret2
    exact ⟨rfl, by repeat' (first | (with_reducible exact Below.refl _ _) | (with_reducible assumption) | (with_reducible refine below_drewN ?_ _) | (with_reducible refine Below.alloc ?_ ?_ _) | (with_reducible refine Below.drew ?_) | (with_reducible refine Below.setCell ?_ ?_ _) | go_size)⟩
  cases h3 : isW p
  · obtain ⟨he, hs⟩ := callE_bad (c := c) (x := x) (p := p) (l := l) (.inr (.inr (.inl h3)))
    rw [he, hs]
    rw [h2] at HX
    rw [h3] at HP
    have GX := Lib.hid HX
    have GP := Lib.hid HP
    clear HX HP he hs h1 h2 h3
    go_enter Try.func10, Try.ntmps10
    go_wp2_with fail
    refine (GX.out _).mono ?_; rintro e w' ⟨rfl, rfl⟩
    go_wp2_with fail
    refine (GP.out _).mono ?_; rintro e w' ⟨rfl, rfl⟩
    go_wp2_with fail
    go_ret2
    exact ⟨rfl, by repeat' (first | (with_reducible exact Below.refl _ _) | (with_reducible assumption) | (with_reducible refine below_drewN ?_ _) | (with_reducible refine Below.alloc ?_ ?_ _) | (with_reducible refine Below.drew ?_) | (with_reducible refine Below.setCell ?_ ?_ _) | go_size)⟩
  rw [h2] at HX
  rw [h3] at HP
  have GX := Lib.hid HX
  have GP := Lib.hid HP
  clear HX HP
  cases h4 : ((l.length : Int) % 4 != 0)
  · have hgood := callE_good (c := c) (x := x) (p := p) (l := l) h1 h2 h3 h4
    have GG := Lib.hid hgood
    have bx := isW_bounds h2
    have bp := isW_bounds h3
    clear h1 h2 h3 hgood
    have hbox := cell_new w #[.int .i64 c, .int .i64 x, .int .i64 p, sv l] 23 w.heap.size 3 rfl
    have HB := Lib.hid hbox
    clear hbox
    go_enter Try.func10, Try.ntmps10
    go_wp2_with fail
    refine (GX.out _).mono ?_; rintro e w' ⟨rfl, rfl⟩
    go_wp2_with fail
    refine (GP.out _).mono ?_; rintro e w' ⟨rfl, rfl⟩
    have hrow : ∀ q, (#[Value.int .i64 x, .int .i64 0, .int .i64 284, .int .i64 3, .int .i64 c, .int .i64 p] : Array Value)[q]? = ((w.alloc (.cells #[.int .i64 c, .int .i64 x, .int .i64 p, sv l] 23)).alloc (.cells #[.int .i64 x, .int .i64 0, .int .i64 284, .int .i64 3, .int .i64 c, .int .i64 p] 3)).cell? ⟨w.heap.size + 1, q, none⟩ := fun q => (cell_new _ _ _ _ q (by simp)).symm
    have HRW := Lib.hid hrow
    clear hrow
    go_wp2_with fail
    go_loopw [5, 6] (fun b i W => ∃ q : Nat, q ≤ 6 ∧ i = .int .i64 q ∧ BytesV W b (wsI ([x, 0, 284, 3, c, p].take q)) ∧ Below (w.heap.size + 2) ((w.alloc (.cells #[.int .i64 c, .int .i64 x, .int .i64 p, sv l] 23)).alloc (.cells #[.int .i64 x, .int .i64 0, .int .i64 284, .int .i64 3, .int .i64 c, .int .i64 p] 3)) W) (fun _ i _ => 6 - (intOf i).toNat)
    case atStart => exact ⟨0, by omega, rfl, BytesV.nil _, Below.refl _ _⟩
    case round =>
      obtain ⟨q, hq, rfl, hb, bW⟩ := hrel
      have bw : Below w.heap.size w wr := Below.trans (by repeat' (first | (with_reducible exact Below.refl _ _) | (with_reducible assumption) | (with_reducible refine below_drewN ?_ _) | (with_reducible refine Below.alloc ?_ ?_ _) | (with_reducible refine Below.drew ?_) | (with_reducible refine Below.setCell ?_ ?_ _) | go_size)) (bW.mono (by omega))
      have sW := bW.size
      have hq6 : q = 6 ∨ q < 6 := by omega
      rcases hq6 with rfl | hlt
      · have hc := (bW.cell (p := ⟨w.heap.size, 3, none⟩) (by simp)).trans ((Below.cell (w := w.alloc (.cells #[.int .i64 c, .int .i64 x, .int .i64 p, sv l] 23)) ((Below.refl _ _).alloc (Nat.le_refl _) _) (p := ⟨w.heap.size, 3, none⟩) (by simp)).trans HB.out)
        have hc : wr.cell? ⟨w.heap.size, 3, none⟩ = some (sv l) := hc
        have hcv := hb.string (P := Try.prog) Try.underlying58 Try.underlying5 Try.underlying9
        have hlen : (wsI [x, 0, 284, 3, c, p]).length = 24 := by simp [wsI]
        have HC : callB c x p l = wsI [x, 0, 284, 3, c, p] ++ l := rfl
        have e6 : wsI ([x, 0, 284, 3, c, p].take 6) = wsI [x, 0, 284, 3, c, p] := rfl
        rw [e6] at hcv
        generalize wsI [x, 0, 284, 3, c, p] = C at hcv hlen HC
        have HCC := Lib.hid HC
        have t2 : ¬ (9223372036854775807 : Int) < (C.length : Int) + (l.length : Int) := by omega
        clear HC e6
        by_cases hbig : 4072 < l.length
        · obtain ⟨he, hs⟩ := GG.out.2 hbig
          have HE := Lib.hid he
          have HS := Lib.hid hs
          have t1 : (4096 : Int) < (C.length : Int) + (l.length : Int) := by omega
          clear he hs hlen
          go_wp2_with fail
          go_ret2
          refine ⟨?_, bw⟩
          rw [HE.out, HS.out]
          rfl
        · obtain ⟨he, hs⟩ := GG.out.1 (by omega)
          have HE := Lib.hid he
          have HS := Lib.hid hs
          have t1 : decide ((4096 : Int) < (C.length : Int) + (l.length : Int)) = false := decide_eq_false (by omega)
          clear he hs hlen
          go_wp2_with fail
          go_ret2
          refine ⟨?_, bw⟩
          rw [HE.out, HS.out, HCC.out]
          rfl
      · have hlen : (wsI ([x, 0, 284, 3, c, p].take q)).length ≤ 24 := by
          have : q = 0 ∨ q = 1 ∨ q = 2 ∨ q = 3 ∨ q = 4 ∨ q = 5 := by omega
          rcases this with rfl | rfl | rfl | rfl | rfl | rfl <;> simp [wsI]
        have hcq := (bW.cell (p := ⟨w.heap.size + 1, q, none⟩) (by simp)).trans (HRW.out q).symm
        have : q = 0 ∨ q = 1 ∨ q = 2 ∨ q = 3 ∨ q = 4 ∨ q = 5 := by omega
        rcases this with rfl | rfl | rfl | rfl | rfl | rfl
        · have hcq : wr.cell? ⟨w.heap.size + 1, 0, none⟩ = some (.int .i64 x) := hcq
          go_wp2_with fail
          refine (refWord_int _ _ _ _ hb (by omega) (by omega) (by omega)).mono ?_; rintro e w3 ⟨v3, rfl, r3, hw3⟩
          go_wp2_with fail
          go_roundw
          case rel => exact ⟨1, by omega, rfl, by simpa [wsI] using r3, bW.trans (hw3.mono (by simp at sW; omega))⟩
          case measure => simp [intOf]
        · have hcq : wr.cell? ⟨w.heap.size + 1, 1, none⟩ = some (.int .i64 0) := hcq
          go_wp2_with fail
          refine (refWord_int _ _ _ _ hb (by omega) (by omega) (by omega)).mono ?_; rintro e w3 ⟨v3, rfl, r3, hw3⟩
          go_wp2_with fail
          go_roundw
          case rel => exact ⟨2, by omega, rfl, by simpa [wsI] using r3, bW.trans (hw3.mono (by simp at sW; omega))⟩
          case measure => simp [intOf]
        · have hcq : wr.cell? ⟨w.heap.size + 1, 2, none⟩ = some (.int .i64 284) := hcq
          go_wp2_with fail
          refine (refWord_int _ _ _ _ hb (by omega) (by omega) (by omega)).mono ?_; rintro e w3 ⟨v3, rfl, r3, hw3⟩
          go_wp2_with fail
          go_roundw
          case rel => exact ⟨3, by omega, rfl, by simpa [wsI] using r3, bW.trans (hw3.mono (by simp at sW; omega))⟩
          case measure => simp [intOf]
        · have hcq : wr.cell? ⟨w.heap.size + 1, 3, none⟩ = some (.int .i64 3) := hcq
          go_wp2_with fail
          refine (refWord_int _ _ _ _ hb (by omega) (by omega) (by omega)).mono ?_; rintro e w3 ⟨v3, rfl, r3, hw3⟩
          go_wp2_with fail
          go_roundw
          case rel => exact ⟨4, by omega, rfl, by simpa [wsI] using r3, bW.trans (hw3.mono (by simp at sW; omega))⟩
          case measure => simp [intOf]
        · have hcq : wr.cell? ⟨w.heap.size + 1, 4, none⟩ = some (.int .i64 c) := hcq
          go_wp2_with fail
          refine (refWord_int _ _ _ _ hb (by omega) (by omega) (by omega)).mono ?_; rintro e w3 ⟨v3, rfl, r3, hw3⟩
          go_wp2_with fail
          go_roundw
          case rel => exact ⟨5, by omega, rfl, by simpa [wsI] using r3, bW.trans (hw3.mono (by simp at sW; omega))⟩
          case measure => simp [intOf]
        · have hcq : wr.cell? ⟨w.heap.size + 1, 5, none⟩ = some (.int .i64 p) := hcq
          go_wp2_with fail
          refine (refWord_int _ _ _ _ hb (by omega) (by omega) (by omega)).mono ?_; rintro e w3 ⟨v3, rfl, r3, hw3⟩
          go_wp2_with fail
          go_roundw
          case rel => exact ⟨6, by omega, rfl, by simpa [wsI] using r3, bW.trans (hw3.mono (by simp at sW; omega))⟩
          case measure => simp [intOf]
  · obtain ⟨he, hs⟩ := callE_bad (c := c) (x := x) (p := p) (l := l) (.inr (.inr (.inr h4)))
    rw [he, hs]
    clear he hs h1 h2 h3
    go_enter Try.func10, Try.ntmps10
    go_wp2_with fail
    refine (GX.out _).mono ?_; rintro e w' ⟨rfl, rfl⟩
    go_wp2_with fail
    refine (GP.out _).mono ?_; rintro e w' ⟨rfl, rfl⟩
    go_wp2_with fail
    go_ret2
    exact ⟨rfl, by repeat' (first | (with_reducible exact Below.refl _ _) | (with_reducible assumption) | (with_reducible refine below_drewN ?_ _) | (with_reducible refine Below.alloc ?_ ?_ _) | (with_reducible refine Below.drew ?_) | (with_reducible refine Below.setCell ?_ ?_ _) | go_size)⟩
end Go.Proofs.Ytaobfidjnnhniaa
