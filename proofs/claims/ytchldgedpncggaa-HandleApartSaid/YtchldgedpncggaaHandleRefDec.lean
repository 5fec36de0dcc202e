/- What the reference's Decode computes (walk). Conditions: bounds of machine numbers. -/
import Derived.Test.YtchldgedpncggaaHandleDec
import Derived.Deep.RegionHeld3
import Derived.Deep.DeepCutAuto
namespace Go.Proofs.Ytchldgedpncggaa
set_option linter.unusedVariables false
set_option linter.unusedSimpArgs false
open Go.RowKit Pl
attribute [local go_sem] ba_toList

theorem decodeR_short (l : List UInt8) (w : World) (h : l.length ≠ 24) : Calls Try.prog 13 #[sv l] w fun e w' => e = .returned (.tuple #[hv 0 0 0, .int .i64 4]) ∧ Below w.heap.size w w' := by
  have h1 : ((l.length : Int) != 24) = true := by simp; omega
  go_enter Try.func13, Try.ntmps13
  go_wp2_with fail
  go_returns
  exact ⟨rfl, by go_grown⟩

set_option maxHeartbeats 1600000 in
theorem decodeR_long (l : List UInt8) (w : World) (h : l.length = 24) : Calls Try.prog 13 #[sv l] w fun e w' => e = .returned (.tuple #[hv (decA l 4) (decA l 8) (decA l 12), .int .i64 (decE l)]) ∧ Below w.heap.size w w' := by
  have h1 : ((l.length : Int) != 24) = false := by simp; omega
  have hge : 24 ≤ l.length := by omega
  have H := Lib.hid h
  clear h
  have s4 : ∀ w, (Instr.slice 9 (.string ⟨l.toArray⟩) (some (.int .i64 4)) (some (.int .i64 8)) none).run Try.prog w = .ok (sv ((l.drop 4).take 4)) w := fun w => slice_sv Try.underlying9 l 4 8 (by omega) (by omega) w
  have s8 : ∀ w, (Instr.slice 9 (.string ⟨l.toArray⟩) (some (.int .i64 8)) (some (.int .i64 12)) none).run Try.prog w = .ok (sv ((l.drop 8).take 4)) w := fun w => slice_sv Try.underlying9 l 8 12 (by omega) (by omega) w
  have s12 : ∀ w, (Instr.slice 9 (.string ⟨l.toArray⟩) (some (.int .i64 12)) (some (.int .i64 16)) none).run Try.prog w = .ok (sv ((l.drop 12).take 4)) w := fun w => slice_sv Try.underlying9 l 12 16 (by omega) (by omega) w
  have l4 : ((l.drop 4).take 4).length = 4 := by simp; omega
  have l8 : ((l.drop 8).take 4).length = 4 := by simp; omega
  have l12 : ((l.drop 12).take 4).length = 4 := by simp; omega
  generalize e4 : (l.drop 4).take 4 = x4 at s4 l4
  generalize e8 : (l.drop 8).take 4 = x8 at s8 l8
  generalize e12 : (l.drop 12).take 4 = x12 at s12 l12
  have L4 := Lib.hid l4
  have L8 := Lib.hid l8
  have L12 := Lib.hid l12
  clear l4 l8 l12
  obtain ⟨w0, hw0⟩ : ∃ w0 : World, w0 = w.alloc (.cells #[.int .i64 0, .int .i64 0, .int .i64 0] 23) := ⟨_, rfl⟩
  have HW0 := Lib.hid hw0
  have E4 : part4 l 4 = unbe 0 x4 := by unfold part4; rw [e4]
  have E8 : part4 l 8 = unbe 0 x8 := by unfold part4; rw [e8]
  have E12 : part4 l 12 = unbe 0 x12 := by unfold part4; rw [e12]
  have F4 := Lib.hid E4
  have F8 := Lib.hid E8
  have F12 := Lib.hid E12
  clear hw0 E4 E8 E12 e4 e8 e12
  go_enter Try.func13, Try.ntmps13
  go_upto_region 3 with (fail)
  go_cut [4] (fun p wc => p = .pointer (some ⟨w.heap.size + 1, 0, none⟩) ∧ Below (w.heap.size + 1) w0 wc ∧ wc.heap.size = w.heap.size + 1 + 1 ∧ ∀ j, j < 3 → wc.cell? ⟨w.heap.size + 1, j, none⟩ = some (.int .i64 ([(unbe 0 x4 : Int), (unbe 0 x8 : Int), (unbe 0 x12 : Int)].getD j 0)))
  case first =>
    go_region_held3 (fun _ => True) (trivial) (first | (go_at_call 24; refine (number_any _ _ (by first | exact L4.out | exact L8.out | exact L12.out)).mono ?_; rintro e w' ⟨rfl, n, rfl⟩))
    all_goals
      go_wp2_with fail
      go_meet
      have hB : w0.heap.size = w.heap.size + 1 := by rw [HW0.out]; simp
      refine ⟨rfl, by rw [HW0.out]; repeat' (first | (with_reducible exact Below.refl _ _) | (with_reducible assumption) | (with_reducible refine below_drewN ?_ _) | (with_reducible refine Below.alloc ?_ ?_ _) | (with_reducible refine Below.drew ?_) | (with_reducible refine Below.setCell ?_ ?_ _) | go_size), by simp, fun j hj => ?_⟩
      obtain rfl | rfl | rfl : j = 0 ∨ j = 1 ∨ j = 2 := by omega
      all_goals first | (simp; done) | (simp [go_sem, cell_new]; done)
  case rest =>
    obtain ⟨rfl, hb, hsz, hc⟩ := hcut
    have hc0 : wc.cell? ⟨w.heap.size + 1, 0, none⟩ = some (.int .i64 (part4 l 4 : Int)) := by rw [hc 0 (by omega), F4.out]; rfl
    have hc1 : wc.cell? ⟨w.heap.size + 1, 1, none⟩ = some (.int .i64 (part4 l 8 : Int)) := by rw [hc 1 (by omega), F8.out]; rfl
    have hc2 : wc.cell? ⟨w.heap.size + 1, 2, none⟩ = some (.int .i64 (part4 l 12 : Int)) := by rw [hc 2 (by omega), F12.out]; rfl
    clear hc
    have hbox : ∀ j, j < 3 → wc.cell? ⟨w.heap.size, j, none⟩ = some (.int .i64 0) ∧ wc.frozen? ⟨w.heap.size, j, none⟩ = false := by
      intro j hj
      rw [hb.cell (p := ⟨w.heap.size, j, none⟩) (by simp), hb.frozen (p := ⟨w.heap.size, j, none⟩) (by simp), HW0.out]
      obtain rfl | rfl | rfl : j = 0 ∨ j = 1 ∨ j = 2 := by omega
      all_goals exact ⟨by simp, by simp⟩
    have hbel : Below w.heap.size w wc := Below.trans (by rw [HW0.out]; go_grown) (hb.mono (by omega))
    have hdec : decOk l = (mayH (part4 l 4) (part4 l 8) (part4 l 12) && (hBytes (part4 l 4) (part4 l 8) (part4 l 12) == l)) := by unfold decOk; rw [H.out]; simp
    have HD := Lib.hid hdec
    have HSZ := Lib.hid hsz
    have hlw : w.heap.size + 1 < wc.heap.size := by omega
    clear hdec hsz hb
    have fin : ∀ ok : Bool, decOk l = ok → (decA l 4 = if ok then (part4 l 4 : Int) else 0) ∧ (decA l 8 = if ok then (part4 l 8 : Int) else 0) ∧ (decA l 12 = if ok then (part4 l 12 : Int) else 0) ∧ decE l = if ok then 0 else 4 := by
      intro ok h; unfold decA decE; rw [h]; exact ⟨rfl, rfl, rfl, rfl⟩
    have FIN := Lib.hid fin
    clear fin
    generalize part4 l 4 = y4 at hc0 HD FIN
    generalize part4 l 8 = y8 at hc1 HD FIN
    generalize part4 l 12 = y12 at hc2 HD FIN
    have keep : ∀ w2 : World, Below wc.heap.size wc w2 → ((∀ j, j < 3 → w2.cell? ⟨w.heap.size, j, none⟩ = some (.int .i64 0) ∧ w2.frozen? ⟨w.heap.size, j, none⟩ = false) ∧
        (∀ j, j < 3 → w2.cell? ⟨w.heap.size + 1, j, none⟩ = wc.cell? ⟨w.heap.size + 1, j, none⟩) ∧ w.heap.size < w2.heap.size ∧ Below w.heap.size w w2) := by
      intro w2 h2
      have hs2 := h2.size
      refine ⟨fun j hj => ?_, fun j hj => h2.cell (p := ⟨w.heap.size + 1, j, none⟩) hlw, by omega, hbel.trans (h2.mono (by omega))⟩
      rw [h2.cell (p := ⟨w.heap.size, j, none⟩) (by simp; omega), h2.frozen (p := ⟨w.heap.size, j, none⟩) (by simp; omega)]
      exact hbox j hj
    have KEEP := Lib.hid keep
    clear keep hbox
    cases hm : mayH (y4 : Int) (y8 : Int) (y12 : Int)
    · have hk : decOk l = false := by rw [HD.out, hm]; rfl
      have HM := Lib.hid hm
      have HK := Lib.hid hk
      clear hm hk
      go_wp2_with fail
      refine (encodeR_no _ _ _ _ HM.out).mono ?_; rintro e w2 ⟨rfl, hw2⟩
      obtain ⟨k1, k2, k3, k4⟩ := KEEP.out w2 hw2
      obtain ⟨b0, g0⟩ := k1 0 (by omega)
      obtain ⟨b1, g1⟩ := k1 1 (by omega)
      obtain ⟨b2, g2⟩ := k1 2 (by omega)
      clear k1 k2
      go_wp2_with fail
      ((try simp only [Exit.inBlock, Exit.then]); refine bodyPost_ret (by simp [results, Try.results13, go_sem, b0, b1, b2]; try rfl) rfl ?_)
      obtain ⟨f1, f2, f3, f4⟩ := FIN.out _ HK.out
      rw [f1, f2, f3, f4]
      exact ⟨rfl, by go_grown⟩
    · by_cases hq : hBytes y4 y8 y12 = l
      · have hk : decOk l = true := by rw [HD.out, hm, hq]; simp
        have hq' : (hBytes y4 y8 y12 == l) = true := by rw [hq]; simp
        have HM := Lib.hid hm
        have HK := Lib.hid hk
        clear hm hk hq
        go_wp2_with fail
        refine (encodeR_yes _ _ _ _ HM.out).mono ?_; rintro e w2 ⟨rfl, hw2⟩
        obtain ⟨k1, k2, k3, k4⟩ := KEEP.out w2 hw2
        obtain ⟨b0, g0⟩ := k1 0 (by omega)
        obtain ⟨b1, g1⟩ := k1 1 (by omega)
        obtain ⟨b2, g2⟩ := k1 2 (by omega)
        have q0 := (k2 0 (by omega)).trans hc0
        have q1 := (k2 1 (by omega)).trans hc1
        have q2 := (k2 2 (by omega)).trans hc2
        clear k1 k2
        simp only [Int.toNat_natCast]
        go_wp2_with fail
        ((try simp only [Exit.inBlock, Exit.then]); refine bodyPost_ret (by simp [results, Try.results13, go_sem, b0, b1, b2]; try rfl) rfl ?_)
        obtain ⟨f1, f2, f3, f4⟩ := FIN.out _ HK.out
        rw [f1, f2, f3, f4]
        exact ⟨rfl, by go_grown⟩
      · have hk : decOk l = false := by rw [HD.out, hm]; simpa using hq
        have hq' : (hBytes y4 y8 y12 == l) = false := by simpa using hq
        have HM := Lib.hid hm
        have HK := Lib.hid hk
        clear hm hk hq
        go_wp2_with fail
        refine (encodeR_yes _ _ _ _ HM.out).mono ?_; rintro e w2 ⟨rfl, hw2⟩
        obtain ⟨k1, k2, k3, k4⟩ := KEEP.out w2 hw2
        obtain ⟨b0, g0⟩ := k1 0 (by omega)
        obtain ⟨b1, g1⟩ := k1 1 (by omega)
        obtain ⟨b2, g2⟩ := k1 2 (by omega)
        clear k1 k2
        simp only [Int.toNat_natCast]
        go_wp2_with fail
        ((try simp only [Exit.inBlock, Exit.then]); refine bodyPost_ret (by simp [results, Try.results13, go_sem, b0, b1, b2]; try rfl) rfl ?_)
        obtain ⟨f1, f2, f3, f4⟩ := FIN.out _ HK.out
        rw [f1, f2, f3, f4]
        exact ⟨rfl, by go_grown⟩
end Go.Proofs.Ytchldgedpncggaa
