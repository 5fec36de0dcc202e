/- block.To. -/
import Derived.Test.YtjhgimdpgnnffaaBlkSum
namespace Go.Proofs.Ytjhgimdpgnnffaa
set_option linter.unusedVariables false
set_option linter.unusedSimpArgs false
open Go.ChangeShapes Go.WideShapes Go.ChangeAt Go.RowKit Pl
attribute [local go_sem] ba_toList ba_size

abbrev ptrV (a b s : Int) : Value := .agg #[.int .i64 a, .int .i64 b, .int .u64 s]
def toOK (a : Int) (l : List UInt8) : Bool := openOK l && decide (1 ≤ a) && decide (a < 8192)
def toE (a : Int) (l : List UInt8) : Int := if openOK l = true then (if 1 ≤ a ∧ a < 8192 then 0 else 1) else 4
def toV (a : Int) (l : List UInt8) : Value := if toE a l = 0 then .tuple #[ptrV a (oB l) (bSum l), .int .i64 0] else .tuple #[ptrV 0 0 0, .int .i64 (toE a l)]

theorem openV_yes {l : List UInt8} (h : openOK l = true) : openV l = .tuple #[.int .u8 ((oK l).toNat : Int), .int .i64 (oB l), sv (oS l), .int .i64 0] := if_pos h
theorem openV_no {l : List UInt8} (h : openOK l = false) : openV l = .tuple #[.int .u8 0, .int .i64 0, sv [], .int .i64 4] := if_neg (by rw [h]; decide)

set_option maxHeartbeats 3200000 in
theorem to_any (a : Int) (l : List UInt8) (w : World) (hl : l.length = 512) :
    Calls Try.prog 16 #[.int .i64 a, blk l] w fun r w' => r = .returned (toV a l) ∧ Below w.heap.size w w' := by
  have L0 := (Lies.new w l _ rfl).alloc (.cells #[.int .i64 0, .int .i64 0, .int .u64 0] 26)
  have H0 := Lib.hid L0
  have OA := fun W : World => open_any l W hl
  have SA := fun W : World => bsum_any l W hl
  have HL := Lib.hid hl
  have z0 := cell_new (w.alloc (.cells (ac l) 23)) #[.int .i64 0, .int .i64 0, .int .u64 0] 26 (w.heap.size + 1) 0 (by simp)
  have z1 := cell_new (w.alloc (.cells (ac l) 23)) #[.int .i64 0, .int .i64 0, .int .u64 0] 26 (w.heap.size + 1) 1 (by simp)
  have z2 := cell_new (w.alloc (.cells (ac l) 23)) #[.int .i64 0, .int .i64 0, .int .u64 0] 26 (w.heap.size + 1) 2 (by simp)
  have f0 : ∀ j, ((w.alloc (.cells (ac l) 23)).alloc (.cells #[.int .i64 0, .int .i64 0, .int .u64 0] 26)).frozen? ⟨w.heap.size + 1, j, none⟩ = false := fun j => by
    have := frozen_of_row ((w.alloc (.cells (ac l) 23)).alloc (.cells #[.int .i64 0, .int .i64 0, .int .u64 0] 26)) (w.heap.size + 1) j _ _ (by rw [show w.heap.size + 1 = (w.alloc (.cells (ac l) 23)).heap.size from by simp]; exact heap_alloc_new _ _)
    exact this
  have Z := Lib.hid (And.intro z0 (And.intro z1 (And.intro z2 f0)))
  clear L0 hl z0 z1 z2 f0
  have fin : ∀ w1 : World, Below ((w.alloc (.cells (ac l) 23)).alloc (.cells #[.int .i64 0, .int .i64 0, .int .u64 0] 26)).heap.size ((w.alloc (.cells (ac l) 23)).alloc (.cells #[.int .i64 0, .int .i64 0, .int .u64 0] 26)) w1 →
      (w1.cell? ⟨w.heap.size + 1, 0, none⟩ = some (.int .i64 0) ∧ w1.cell? ⟨w.heap.size + 1, 1, none⟩ = some (.int .i64 0) ∧ w1.cell? ⟨w.heap.size + 1, 2, none⟩ = some (.int .u64 0)) ∧
      (w1.frozen? ⟨w.heap.size + 1, 0, none⟩ = false ∧ w1.frozen? ⟨w.heap.size + 1, 1, none⟩ = false ∧ w1.frozen? ⟨w.heap.size + 1, 2, none⟩ = false) ∧ w.heap.size + 1 < w1.heap.size := by
    intro w1 h
    have hs := h.size
    simp only [World.size_alloc] at hs
    obtain ⟨z0, z1, z2, f0⟩ := Z.out
    exact ⟨⟨(h.cell (p := ⟨w.heap.size + 1, 0, none⟩) (by simp)).trans z0, (h.cell (p := ⟨w.heap.size + 1, 1, none⟩) (by simp)).trans z1, (h.cell (p := ⟨w.heap.size + 1, 2, none⟩) (by simp)).trans z2⟩,
      ⟨(h.frozen (p := ⟨w.heap.size + 1, 0, none⟩) (by simp)).trans (f0 0), (h.frozen (p := ⟨w.heap.size + 1, 1, none⟩) (by simp)).trans (f0 1), (h.frozen (p := ⟨w.heap.size + 1, 2, none⟩) (by simp)).trans (f0 2)⟩, by omega⟩
  have FIN := Lib.hid fin
  clear fin
  have hV : toV a l = if toE a l = 0 then .tuple #[ptrV a (oB l) (bSum l), .int .i64 0] else .tuple #[ptrV 0 0 0, .int .i64 (toE a l)] := rfl
  cases ho : openOK l
  · have hE : toE a l = 4 := if_neg (by rw [ho]; decide)
    rw [hE, if_neg (by decide)] at hV
    have HV := Lib.hid hV
    simp only [openV_no ho] at OA
    have GA := Lib.hid OA
    clear hV hE OA SA ho
    go_enter Try.func16, Try.ntmps16
    go_wp2_with (with_reducible refine wpList_load_blk rfl _ rfl rfl H0.out HL.out ?_)
    go_wp2_with fail
    refine (GA.out _).mono ?_; rintro e w1 ⟨rfl, hw1⟩
    have b1 : Below w.heap.size w w1 := chain (by repeat' (first | (with_reducible exact Below.refl _ _) | (with_reducible assumption) | (with_reducible refine below_drewN ?_ _) | (with_reducible refine Below.alloc ?_ ?_ _) | (with_reducible refine Below.drew ?_) | (with_reducible refine Below.setCell ?_ ?_ _) | go_size)) hw1
    obtain ⟨⟨q0, q1, q2⟩, ⟨j0, j1, j2⟩, lt⟩ := FIN.out w1 hw1
    go_wp2_with fail
    ((try simp only [Exit.inBlock, Exit.then]); refine bodyPost_ret (by simp [results, Try.results16, go_sem, q0, q1, q2, lt]; try rfl) rfl ?_)
    exact ⟨HV.out.symm ▸ rfl, by repeat' (first | (with_reducible exact Below.refl _ _) | (with_reducible assumption) | (with_reducible refine below_drewN ?_ _) | (with_reducible refine Below.alloc ?_ ?_ _) | (with_reducible refine Below.drew ?_) | (with_reducible refine Below.setCell ?_ ?_ _) | go_size)⟩
  · simp only [openV_yes ho] at OA
    have GA := Lib.hid OA
    have GS := Lib.hid SA
    by_cases hr : 1 ≤ a ∧ a < 8192
    · have hE : toE a l = 0 := by unfold toE; rw [if_pos ho, if_pos hr]
      rw [hE, if_pos rfl] at hV
      have HV := Lib.hid hV
      have r1 : ¬ a < 1 := by omega
      have r2 : ¬ 8192 ≤ a := by omega
      clear hV hE OA SA ho hr
      go_enter Try.func16, Try.ntmps16
      go_wp2_with (with_reducible refine wpList_load_blk rfl _ rfl rfl H0.out HL.out ?_)
      go_wp2_with fail
      refine (GA.out _).mono ?_; rintro e w1 ⟨rfl, hw1⟩
      have b1 : Below w.heap.size w w1 := chain (by repeat' (first | (with_reducible exact Below.refl _ _) | (with_reducible assumption) | (with_reducible refine below_drewN ?_ _) | (with_reducible refine Below.alloc ?_ ?_ _) | (with_reducible refine Below.drew ?_) | (with_reducible refine Below.setCell ?_ ?_ _) | go_size)) hw1
      have L1 := H0.out.below hw1
      have H1 := Lib.hid L1
      clear L1
      go_wp2_with (with_reducible refine wpList_load_blk rfl _ rfl rfl H1.out HL.out ?_)
      go_wp2_with fail
      refine (GS.out _).mono ?_; rintro e w2 ⟨rfl, hw2⟩
      have b2 : Below w.heap.size w w2 := chain b1 hw2
      obtain ⟨⟨q0, q1, q2⟩, ⟨j0, j1, j2⟩, lt⟩ := FIN.out w2 (hw1.trans (hw2.mono hw1.size))
      go_wp2_with fail
      ((try simp only [Exit.inBlock, Exit.then]); refine bodyPost_ret (by simp [results, Try.results16, go_sem, q0, q1, q2, lt]; try rfl) rfl ?_)
      exact ⟨HV.out.symm ▸ rfl, by repeat' (first | (with_reducible exact Below.refl _ _) | (with_reducible assumption) | (with_reducible refine below_drewN ?_ _) | (with_reducible refine Below.alloc ?_ ?_ _) | (with_reducible refine Below.drew ?_) | (with_reducible refine Below.setCell ?_ ?_ _) | go_size)⟩
    · have hE : toE a l = 1 := by unfold toE; rw [if_pos ho, if_neg hr]
      rw [hE, if_neg (by decide)] at hV
      have HV := Lib.hid hV
      clear hV hE OA SA ho
      by_cases r1 : a < 1
      all_goals
        try have r2 : 8192 ≤ a := by omega
        clear hr
        go_enter Try.func16, Try.ntmps16
        go_wp2_with (with_reducible refine wpList_load_blk rfl _ rfl rfl H0.out HL.out ?_)
        go_wp2_with fail
        refine (GA.out _).mono ?_; rintro e w1 ⟨rfl, hw1⟩
        have b1 : Below w.heap.size w w1 := chain (by repeat' (first | (with_reducible exact Below.refl _ _) | (with_reducible assumption) | (with_reducible refine below_drewN ?_ _) | (with_reducible refine Below.alloc ?_ ?_ _) | (with_reducible refine Below.drew ?_) | (with_reducible refine Below.setCell ?_ ?_ _) | go_size)) hw1
        obtain ⟨⟨q0, q1, q2⟩, ⟨j0, j1, j2⟩, lt⟩ := FIN.out w1 hw1
        go_wp2_with fail
        ((try simp only [Exit.inBlock, Exit.then]); refine bodyPost_ret (by simp [results, Try.results16, go_sem, q0, q1, q2, lt]; try rfl) rfl ?_)
        exact ⟨HV.out.symm ▸ rfl, by repeat' (first | (with_reducible exact Below.refl _ _) | (with_reducible assumption) | (with_reducible refine below_drewN ?_ _) | (with_reducible refine Below.alloc ?_ ?_ _) | (with_reducible refine Below.drew ?_) | (with_reducible refine Below.setCell ?_ ?_ _) | go_size)⟩
end Go.Proofs.Ytjhgimdpgnnffaa
