/- The example that each statement of handles asks: awake is true (walk). Conditions: none. -/
import Derived.Test.YtchldgedpncggaaHandleRefDec
namespace Go.Proofs.Ytchldgedpncggaa
set_option linter.unusedVariables false
set_option linter.unusedSimpArgs false
open Go.RowKit Pl
attribute [local go_sem] ba_toList ba_size

theorem encode_any (a b c : Int) (w : World) : Calls Try.prog 10 #[hv a b c] w fun e w' => e = .returned (.tuple #[sv (encB a b c), .int .i64 (encE a b c)]) ∧ Below w.heap.size w w' := by
  unfold encB encE
  cases h : mayH a b c
  · exact encode_no a b c w h
  · exact encode_yes a b c w h
theorem encodeR_any (a b c : Int) (w : World) : Calls Try.prog 11 #[hv a b c] w fun e w' => e = .returned (.tuple #[sv (encB a b c), .int .i64 (encE a b c)]) ∧ Below w.heap.size w w' := by
  unfold encB encE
  cases h : mayH a b c
  · exact encodeR_no a b c w h
  · exact encodeR_yes a b c w h
theorem dec_short {l : List UInt8} (h : l.length ≠ 24) : (∀ k, decA l k = 0) ∧ decE l = 4 := by
  have hk : decOk l = false := by unfold decOk; simp [h]
  exact ⟨fun k => by unfold decA; rw [hk]; rfl, by unfold decE; rw [hk]; rfl⟩
theorem decode_any (l : List UInt8) (w : World) : Calls Try.prog 12 #[sv l] w fun e w' => e = .returned (.tuple #[hv (decA l 4) (decA l 8) (decA l 12), .int .i64 (decE l)]) ∧ Below w.heap.size w w' := by
  by_cases h : l.length = 24
  · exact decode_long l w h
  · obtain ⟨h1, h2⟩ := dec_short h
    rw [h1, h1, h1, h2]
    exact decode_short l w h
theorem decodeR_any (l : List UInt8) (w : World) : Calls Try.prog 13 #[sv l] w fun e w' => e = .returned (.tuple #[hv (decA l 4) (decA l 8) (decA l 12), .int .i64 (decE l)]) ∧ Below w.heap.size w w' := by
  by_cases h : l.length = 24
  · exact decodeR_long l w h
  · obtain ⟨h1, h2⟩ := dec_short h
    rw [h1, h1, h1, h2]
    exact decodeR_short l w h

theorem root_any (n : Int) (w : World) : Calls Try.prog 18 #[.int .i64 n] w fun e w' => e = .returned (hv n 1 0) ∧ Below w.heap.size w w' := by
  go_enter Try.func18, Try.ntmps18
  go_wp2
  go_returns
  exact ⟨rfl, by go_grown⟩
theorem snapDir_any (w : World) : Calls Try.prog 19 #[] w fun e w' => e = .returned (hv 0 2147483647 0) ∧ Below w.heap.size w w' := by
  go_enter Try.func19, Try.ntmps19
  go_wp2
  go_returns
  exact ⟨rfl, by go_grown⟩

theorem ex_plain : encB 0 1 0 = hBytes 0 1 0 ∧ encE 0 1 0 = 0 ∧ decA (hBytes 0 1 0) 4 = 0 ∧ decA (hBytes 0 1 0) 8 = 1 ∧ decA (hBytes 0 1 0) 12 = 0 ∧ decE (hBytes 0 1 0) = 0 ∧
    (hBytes 0 1 0).take 16 = [0, 0, 0, 1, 0, 0, 0, 0, 0, 0, 0, 1, 0, 0, 0, 0] ∧ mayH 0 1 0 = true ∧ lessH 0 1 0 0 2147483647 0 = true ∧ lessH 0 1 0 0 1 0 = false := by
  decide +kernel

set_option maxHeartbeats 1600000 in
theorem awake_any (w : World) : Calls Try.prog 9 #[] w fun e w' => e = .returned (.bool true) ∧ Below w.heap.size w w' := by
  obtain ⟨x1, x2, x3, x4, x5, x6, x7, x8, x9, x10⟩ := ex_plain
  have hlen : (hBytes 0 1 0).length = 24 := hBytes_length _ _ _
  have hsl : ∀ w, (Instr.slice 9 (.string ⟨(hBytes 0 1 0).toArray⟩) none (some (.int .i64 16)) none).run Try.prog w = .ok (sv [0, 0, 0, 1, 0, 0, 0, 0, 0, 0, 0, 1, 0, 0, 0, 0]) w := by
    intro w
    rw [← x7]
    exact slice_sv_h Try.underlying9 _ 16 (by rw [hlen]; omega) w
  have CE : ∀ w, Calls Try.prog 10 #[hv 0 1 0] w fun e w' => e = .returned (.tuple #[sv (hBytes 0 1 0), .int .i64 0]) ∧ Below w.heap.size w w' := fun w => by
    have := encode_any 0 1 0 w; rw [x1, x2] at this; exact this
  have CD : ∀ w, Calls Try.prog 12 #[sv (hBytes 0 1 0)] w fun e w' => e = .returned (.tuple #[hv 0 1 0, .int .i64 0]) ∧ Below w.heap.size w w' := fun w => by
    have := decode_any (hBytes 0 1 0) w; rw [x3, x4, x5, x6] at this; exact this
  have CM : ∀ w, Calls Try.prog 14 #[hv 0 1 0] w fun e w' => e = .returned (.bool true) ∧ Below w.heap.size w w' := fun w => by
    have := may_any 0 1 0 w; rw [x8] at this; exact this
  have CL : ∀ w, Calls Try.prog 16 #[hv 0 1 0, hv 0 2147483647 0] w fun e w' => e = .returned (.bool true) ∧ Below w.heap.size w w' := fun w => by
    have := less_any 0 1 0 0 2147483647 0 w; rw [x9] at this; exact this
  have CN : ∀ w, Calls Try.prog 16 #[hv 0 1 0, hv 0 1 0] w fun e w' => e = .returned (.bool false) ∧ Below w.heap.size w w' := fun w => by
    have := less_any 0 1 0 0 1 0 w; rw [x10] at this; exact this
  have HE := Lib.hid CE
  have HD := Lib.hid CD
  have HM := Lib.hid CM
  have HL := Lib.hid CL
  have HN := Lib.hid CN
  clear CE CD CM CL CN x1 x2 x3 x4 x5 x6 x7 x8 x9 x10
  generalize hBytes 0 1 0 = L at hlen hsl HE HD
  go_enter Try.func9, Try.ntmps9
  go_wp2_with fail
  refine (HE.out _).mono ?_; rintro e w1 ⟨rfl, hw1⟩
  go_wp2_with fail
  refine (HD.out _).mono ?_; rintro e w2 ⟨rfl, hw2⟩
  go_wp2_with fail
  have c0 : ∀ n : Ext (w2.alloc (.cells #[.int .i64 0, .int .i64 1, .int .i64 0] 23)), n.W.cell? ⟨w2.heap.size, 0, none⟩ = some (.int .i64 0) := Ext.cell (by simp) (by simp)
  have c1 : ∀ n : Ext (w2.alloc (.cells #[.int .i64 0, .int .i64 1, .int .i64 0] 23)), n.W.cell? ⟨w2.heap.size, 1, none⟩ = some (.int .i64 1) := Ext.cell (by simp) (by simp)
  have c2 : ∀ n : Ext (w2.alloc (.cells #[.int .i64 0, .int .i64 1, .int .i64 0] 23)), n.W.cell? ⟨w2.heap.size, 2, none⟩ = some (.int .i64 0) := Ext.cell (by simp) (by simp)
  have hlen' : ((L.length : Int) == 24) = true := by simp; omega
  clear hlen
  refine wp_region_ext (by kernel_rfl) (by kernel_rfl) ?_
  repeat (go_big_quiet_step ((first | (go_at_call 18; exact Ext.of_call (root_any 0 _)) | (go_at_call 19; exact Ext.of_call (snapDir_any _)) | (go_at_call 14; exact Ext.of_call (HM.out _)) | (go_at_call 16; with_reducible exact Ext.of_call (HL.out _)) | (go_at_call 16; with_reducible exact Ext.of_call (HN.out _)))))
  refine wpQuiet_nil ?_
  intro n1
  go_wp2_with fail
  go_ret
  have s1 := hw1.size
  have s2 := hw2.size
  have s3 : w.heap.size ≤ w2.heap.size := by omega
  exact ⟨rfl, Below.trans hw1 ((hw2.mono (by have := hw1.size; omega)).trans (Below.trans (by repeat' (first | (with_reducible exact Below.refl _ _) | (with_reducible assumption) | (with_reducible refine below_drewN ?_ _) | (with_reducible refine Below.alloc ?_ ?_ _) | (with_reducible refine Below.drew ?_) | (with_reducible refine Below.setCell ?_ ?_ _) | go_size)) (n1.below.mono (by have := hw1.size; have := hw2.size; simp; omega))))⟩
end Go.Proofs.Ytchldgedpncggaa
