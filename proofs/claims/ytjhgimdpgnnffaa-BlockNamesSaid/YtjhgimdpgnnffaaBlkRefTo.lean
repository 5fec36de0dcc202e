/- jettyref08.To, jettyref08.Check. -/
import Derived.Test.YtjhgimdpgnnffaaBlkRefOpen
import Derived.Test.YtjhgimdpgnnffaaBlkCheck
namespace Go.Proofs.Ytjhgimdpgnnffaa
set_option linter.unusedVariables false
set_option linter.unusedSimpArgs false
open Go.ChangeShapes Go.WideShapes Go.ChangeAt Go.RowKit Pl
attribute [local go_sem] ba_toList ba_size

set_option maxHeartbeats 3200000 in
theorem rto_any (a : Int) (l : List UInt8) (w : World) (hl : l.length = 512) :
    Calls Try.prog 17 #[.int .i64 a, blk l] w fun r w' => r = .returned (toV a l) ∧ Below w.heap.size w w' := by
  have L0 := (Lies.new w l _ rfl).alloc (.cells #[.int .i64 0, .int .i64 0, .int .u64 0] 26)
  have H0 := Lib.hid L0
  have OA := fun W : World => ropen_any l W hl
  have SA := fun W : World => rbsum_any l W hl
  have HL := Lib.hid hl
  have z0 := cell_new (w.alloc (.cells (ac l) 23)) #[.int .i64 0, .int .i64 0, .int .u64 0] 26 (w.heap.size + 1) 0 (by simp)
  have z1 := cell_new (w.alloc (.cells (ac l) 23)) #[.int .i64 0, .int .i64 0, .int .u64 0] 26 (w.heap.size + 1) 1 (by simp)
  have z2 := cell_new (w.alloc (.cells (ac l) 23)) #[.int .i64 0, .int .i64 0, .int .u64 0] 26 (w.heap.size + 1) 2 (by simp)
  have f0 : ∀ j, ((w.alloc (.cells (ac l) 23)).alloc (.cells #[.int .i64 0, .int .i64 0, .int .u64 0] 26)).frozen? ⟨w.heap.size + 1, j, none⟩ = false := fun j => by
    have := frozen_of_row ((w.alloc (.cells (ac l) 23)).alloc (.cells #[.int .i64 0, .int .i64 0, .int .u64 0] 26)) (w.heap.size + 1) j _ _ (by rw [show w.heap.size + 1 = (w.alloc (.cells (ac l) 23)).heap.size from by simp]; exact heap_alloc_new _ _)
    exact this
  have Z := Lib.hid (And.intro z0 (And.intro z1 (And.intro z2 f0)))
  clear L0 hl z0 z1 z2 f0
  have fin : ∀ w1 : World, Below ((w.alloc (.cells (ac l) 23)).alloc (.cells #[.int .i64 0, .int .i64 0, .int .u64 0] 26)).heap.size ((w.alloc (.cells (ac l) 23)).alloc (.cells #[.int .i64 0, .int .i64 0, .int .u64 0] 26)) w1 →
      (w1.cell? ⟨w.heap.size + 1, 0, none⟩ = some (.int .i64 0) ∧ w1.cell? ⟨w.heap.size + 1, 1, none⟩ = some (.int .i64 0) ∧ w1.cell? ⟨w.heap.size + 1, 2, none⟩ = some (.int .u64 0)) ∧
      (w1.frozen? ⟨w.heap.size + 1, 0, none⟩ = false ∧ w1.frozen? ⟨w.heap.size + 1, 1, none⟩ = false ∧ w1.frozen? ⟨w.heap.size + 1, 2, none⟩ = false) ∧ w.heap.size + 1 < w1.heap.size := by
    intro w1 h
    have hs := h.size
    simp only [World.size_alloc] at hs
    obtain ⟨z0, z1, z2, f0⟩ := Z.out
    exact ⟨⟨(h.cell (p := ⟨w.heap.size + 1, 0, none⟩) (by simp)).trans z0, (h.cell (p := ⟨w.heap.size + 1, 1, none⟩) (by simp)).trans z1, (h.cell (p := ⟨w.heap.size + 1, 2, none⟩) (by simp)).trans z2⟩,
      ⟨(h.frozen (p := ⟨w.heap.size + 1, 0, none⟩) (by simp)).trans (f0 0), (h.frozen (p := ⟨w.heap.size + 1, 1, none⟩) (by simp)).trans (f0 1), (h.frozen (p := ⟨w.heap.size + 1, 2, none⟩) (by simp)).trans (f0 2)⟩, by omega⟩
  have FIN := Lib.hid fin
  clear fin
  have hV : toV a l = if toE a l = 0 then .tuple #[ptrV a (oB l) (bSum l), .int .i64 0] else .tuple #[ptrV 0 0 0, .int .i64 (toE a l)] := rfl
  cases ho : openOK l
  · have hE : toE a l = 4 := if_neg (by rw [ho]; decide)
    rw [hE, if_neg (by decide)] at hV
    have HV := Lib.hid hV
    simp only [openV_no ho] at OA
    have GA := Lib.hid OA
    clear hV hE OA SA ho
    go_enter Try.func17, Try.ntmps17
    go_wp2_with (with_reducible refine wpList_load_blk rfl _ rfl rfl H0.out HL.out ?_)
    go_wp2_with fail
    refine (GA.out _).mono ?_; rintro e w1 ⟨rfl, hw1⟩
    have b1 : Below w.heap.size w w1 := chain (by repeat' (first | (with_reducible exact Below.refl _ _) | (with_reducible assumption) | (with_reducible refine below_drewN ?_ _) | (with_reducible refine Below.alloc ?_ ?_ _) | (with_reducible refine Below.drew ?_) | (with_reducible refine Below.setCell ?_ ?_ _) | go_size)) hw1
    obtain ⟨⟨q0, q1, q2⟩, ⟨j0, j1, j2⟩, lt⟩ := FIN.out w1 hw1
    go_wp2_with fail
    ((try simp only [Exit.inBlock, Exit.then]); refine bodyPost_ret (by simp [results, Try.results17, go_sem, q0, q1, q2, lt]; try rfl) rfl ?_)
    exact ⟨HV.out.symm ▸ rfl, by repeat' (first | (with_reducible exact Below.refl _ _) | (with_reducible assumption) | (with_reducible refine below_drewN ?_ _) | (with_reducible refine Below.alloc ?_ ?_ _) | (with_reducible refine Below.drew ?_) | (with_reducible refine Below.setCell ?_ ?_ _) | go_size)⟩
  · simp only [openV_yes ho] at OA
    have GA := Lib.hid OA
    have GS := Lib.hid SA
    by_cases hr : 1 ≤ a ∧ a < 8192
    · have hE : toE a l = 0 := by unfold toE; rw [if_pos ho, if_pos hr]
      rw [hE, if_pos rfl] at hV
      have HV := Lib.hid hV
      have r1 : ¬ a < 1 := by omega
      have r2 : ¬ 8191 < a := by omega
      clear hV hE OA SA ho hr
      go_enter Try.func17, Try.ntmps17
      go_wp2_with (with_reducible refine wpList_load_blk rfl _ rfl rfl H0.out HL.out ?_)
      go_wp2_with fail
      refine (GA.out _).mono ?_; rintro e w1 ⟨rfl, hw1⟩
      have b1 : Below w.heap.size w w1 := chain (by repeat' (first | (with_reducible exact Below.refl _ _) | (with_reducible assumption) | (with_reducible refine below_drewN ?_ _) | (with_reducible refine Below.alloc ?_ ?_ _) | (with_reducible refine Below.drew ?_) | (with_reducible refine Below.setCell ?_ ?_ _) | go_size)) hw1
      have L1 := H0.out.below hw1
      have H1 := Lib.hid L1
      clear L1
      go_wp2_with (with_reducible refine wpList_load_blk rfl _ rfl rfl H1.out HL.out ?_)
      go_wp2_with fail
      refine (GS.out _).mono ?_; rintro e w2 ⟨rfl, hw2⟩
      have b2 : Below w.heap.size w w2 := chain b1 hw2
      obtain ⟨⟨q0, q1, q2⟩, ⟨j0, j1, j2⟩, lt⟩ := FIN.out w2 (hw1.trans (hw2.mono hw1.size))
      go_wp2_with fail
      ((try simp only [Exit.inBlock, Exit.then]); refine bodyPost_ret (by simp [results, Try.results17, go_sem, q0, q1, q2, lt]; try rfl) rfl ?_)
      exact ⟨HV.out.symm ▸ rfl, by repeat' (first | (with_reducible exact Below.refl _ _) | (with_reducible assumption) | (with_reducible refine below_drewN ?_ _) | (with_reducible refine Below.alloc ?_ ?_ _) | (with_reducible refine Below.drew ?_) | (with_reducible refine Below.setCell ?_ ?_ _) | go_size)⟩
    · have hE : toE a l = 1 := by unfold toE; rw [if_pos ho, if_neg hr]
      rw [hE, if_neg (by decide)] at hV
      have HV := Lib.hid hV
      clear hV hE OA SA ho
      by_cases r1 : a < 1
      all_goals
        try have r2 : 8191 < a := by omega
        clear hr
        go_enter Try.func17, Try.ntmps17
        go_wp2_with (with_reducible refine wpList_load_blk rfl _ rfl rfl H0.out HL.out ?_)
        go_wp2_with fail
        refine (GA.out _).mono ?_; rintro e w1 ⟨rfl, hw1⟩
        have b1 : Below w.heap.size w w1 := chain (by repeat' (first | (with_reducible exact Below.refl _ _) | (with_reducible assumption) | (with_reducible refine below_drewN ?_ _) | (with_reducible refine Below.alloc ?_ ?_ _) | (with_reducible refine Below.drew ?_) | (with_reducible refine Below.setCell ?_ ?_ _) | go_size)) hw1
        obtain ⟨⟨q0, q1, q2⟩, ⟨j0, j1, j2⟩, lt⟩ := FIN.out w1 hw1
        go_wp2_with fail
        ((try simp only [Exit.inBlock, Exit.then]); refine bodyPost_ret (by simp [results, Try.results17, go_sem, q0, q1, q2, lt]; try rfl) rfl ?_)
        exact ⟨HV.out.symm ▸ rfl, by repeat' (first | (with_reducible exact Below.refl _ _) | (with_reducible assumption) | (with_reducible refine below_drewN ?_ _) | (with_reducible refine Below.alloc ?_ ?_ _) | (with_reducible refine Below.drew ?_) | (with_reducible refine Below.setCell ?_ ?_ _) | go_size)⟩

set_option maxHeartbeats 3200000 in
theorem rcheck_any (a b s : Int) (l : List UInt8) (w : World) (hl : l.length = 512) :
    Calls Try.prog 19 #[ptrV a b s, blk l] w fun r w' => r = .returned (chV a b s l) ∧ Below w.heap.size w w' := by
  have L0 := Lies.new (w.alloc (.cells #[.int .i64 a, .int .i64 b, .int .u64 s] 26)) l (w.heap.size + 1) (by simp)
  have H0 := Lib.hid L0
  have OA := fun W : World => ropen_any l W hl
  have SA := fun W : World => rbsum_any l W hl
  have GS := Lib.hid SA
  have HL := Lib.hid hl
  have hV : chV a b s l = if chE a b s l = 0 then .tuple #[.int .u8 ((oK l).toNat : Int), sv (oS l), .int .i64 0] else .tuple #[.int .u8 0, sv [], .int .i64 (chE a b s l)] := rfl
  have old : ∀ w1 : World, Below ((w.alloc (.cells #[.int .i64 a, .int .i64 b, .int .u64 s] 26)).alloc (.cells (ac l) 23)).heap.size ((w.alloc (.cells #[.int .i64 a, .int .i64 b, .int .u64 s] 26)).alloc (.cells (ac l) 23)) w1 →
      w1.cell? ⟨w.heap.size, 0, none⟩ = some (.int .i64 a) ∧ w1.cell? ⟨w.heap.size, 1, none⟩ = some (.int .i64 b) ∧ w1.cell? ⟨w.heap.size, 2, none⟩ = some (.int .u64 s) ∧ Lies w1 (w.heap.size + 1) l ∧ Below w.heap.size w w1 := by
    intro w1 h
    exact ⟨(h.cell (p := ⟨w.heap.size, 0, none⟩) (by simp; omega)).trans (by simp), (h.cell (p := ⟨w.heap.size, 1, none⟩) (by simp; omega)).trans (by simp), (h.cell (p := ⟨w.heap.size, 2, none⟩) (by simp; omega)).trans (by simp), H0.out.below h, chain (by repeat' (first | (with_reducible exact Below.refl _ _) | (with_reducible assumption) | (with_reducible refine below_drewN ?_ _) | (with_reducible refine Below.alloc ?_ ?_ _) | (with_reducible refine Below.drew ?_) | (with_reducible refine Below.setCell ?_ ?_ _) | go_size)) h⟩
  have OLD := Lib.hid old
  clear L0 hl SA old
  by_cases ha : a = 0
  · have hE : chE a b s l = 52 := if_pos (.inl ha)
    rw [hE, if_neg (by decide)] at hV
    have HV := Lib.hid hV
    have ha' : (a == 0) = true := by rw [ha]; rfl
    clear hV hE OA ha
    go_enter Try.func19, Try.ntmps19
    go_wp2_with fail
    go_quiet (fail)
    go_wp2_with fail
    ((try simp only [Exit.inBlock, Exit.then]); refine bodyPost_ret (by simp [results, Try.results19, go_sem, HL]; try rfl) rfl ?_)
    exact ⟨HV.out.symm ▸ rfl, by repeat' (first | (with_reducible exact Below.refl _ _) | (with_reducible assumption) | (with_reducible refine below_drewN ?_ _) | (with_reducible refine Below.alloc ?_ ?_ _) | (with_reducible refine Below.drew ?_) | (with_reducible refine Below.setCell ?_ ?_ _) | go_size)⟩
  · have ha' : (a == 0) = false := by rw [beq_eq_false_iff_ne]; exact ha
    have hu := Try.underlying23
    have hi : (Try.prog.info? 23).map (·.size) = some (bc l).length := by rw [info_blk, bc_length, HL.out]
    have hc5 : (bc l).length = 512 := by rw [bc_length, HL.out]
    have h1c := bc_one l
    by_cases hs : bSum l = s
    · have hs' : (bSum l != s) = false := by rw [bne_eq_false_iff_eq]; exact hs
      cases ho : openOK l
      · have hE : chE a b s l = 4 := by unfold chE; rw [if_neg (fun h => h.elim ha (fun h => h hs)), if_neg (by rw [ho]; decide)]
        rw [hE, if_neg (by decide)] at hV
        have HV := Lib.hid hV
        simp only [openV_no ho] at OA
        have GA := Lib.hid OA
        clear hV hE OA ho hs ha
        go_enter Try.func19, Try.ntmps19
        go_wp2_with fail
        obtain ⟨X0, hX⟩ : ∃ X0 : World, X0 = (w.alloc (.cells #[.int .i64 a, .int .i64 b, .int .u64 s] 26)).alloc (.cells (ac l) 23) := ⟨_, rfl⟩
        have OLD' := OLD.out
        rw [← hX] at OLD' ⊢
        have OLX := Lib.hid OLD'
        clear OLD' hX
        go_region_held3 (fun W => Below X0.heap.size X0 W ∧ W.cell? ⟨w.heap.size, 0, none⟩ = some (.int .i64 a) ∧ W.cell? ⟨w.heap.size, 2, none⟩ = some (.int .u64 s) ∧ W.rangeAt (w.heap.size + 1) 0 (bc l))
          ((refine (fun hB => ⟨hB, (OLX.out _ hB).1, (OLX.out _ hB).2.2.1, (OLX.out _ hB).2.2.2.1.range⟩) ?_; first | exact (Below.refl _ _).drew | assumption | ((try go_split_ands); assumption)))
          ((go_at_call 15; refine (GS.out _).mono ?_; rintro r w' ⟨rfl, hw'⟩; (try go_split_ands); have bq : Below X0.heap.size X0 w' := chain (by assumption) hw'))
        have bq2 : Below X0.heap.size X0 w' := by (try go_split_ands); assumption
        obtain ⟨k0, k1, k2, L1, bw⟩ := OLX.out _ bq2
        have lt1 : w.heap.size + 1 < w'.heap.size := L1.lt
        have H1 := Lib.hid L1
        clear L1 hu hi hc5 h1c
        go_wp2_with (with_reducible refine wpList_load_blk rfl _ rfl rfl H1.out HL.out ?_)
        go_wp2_with fail
        refine (GA.out _).mono ?_; rintro e w2 ⟨rfl, hw2⟩
        have b2 : Below w.heap.size w w2 := chain bw hw2
        go_wp2_with fail
        ((try simp only [Exit.inBlock, Exit.then]); refine bodyPost_ret (by simp [results, Try.results19, go_sem, HL]; try rfl) rfl ?_)
        exact ⟨HV.out.symm ▸ rfl, b2⟩
      · simp only [openV_yes ho] at OA
        have GA := Lib.hid OA
        by_cases hb : oB l = b
        · have hb' : (oB l != b) = false := by rw [bne_eq_false_iff_eq]; exact hb
          have hE : chE a b s l = 0 := by unfold chE; rw [if_neg (fun h => h.elim ha (fun h => h hs)), if_pos ho, if_pos hb]
          rw [hE, if_pos rfl] at hV
          have HV := Lib.hid hV
          clear hV hE OA ho hs ha hb
          go_enter Try.func19, Try.ntmps19
          go_wp2_with fail
          obtain ⟨X0, hX⟩ : ∃ X0 : World, X0 = (w.alloc (.cells #[.int .i64 a, .int .i64 b, .int .u64 s] 26)).alloc (.cells (ac l) 23) := ⟨_, rfl⟩
          have OLD' := OLD.out
          rw [← hX] at OLD' ⊢
          have OLX := Lib.hid OLD'
          clear OLD' hX
          go_region_held3 (fun W => Below X0.heap.size X0 W ∧ W.cell? ⟨w.heap.size, 0, none⟩ = some (.int .i64 a) ∧ W.cell? ⟨w.heap.size, 2, none⟩ = some (.int .u64 s) ∧ W.rangeAt (w.heap.size + 1) 0 (bc l))
            ((refine (fun hB => ⟨hB, (OLX.out _ hB).1, (OLX.out _ hB).2.2.1, (OLX.out _ hB).2.2.2.1.range⟩) ?_; first | exact (Below.refl _ _).drew | assumption | ((try go_split_ands); assumption)))
            ((go_at_call 15; refine (GS.out _).mono ?_; rintro r w' ⟨rfl, hw'⟩; (try go_split_ands); have bq : Below X0.heap.size X0 w' := chain (by assumption) hw'))
          have bq2 : Below X0.heap.size X0 w' := by (try go_split_ands); assumption
          obtain ⟨k0, k1, k2, L1, bw⟩ := OLX.out _ bq2
          have lt1 : w.heap.size + 1 < w'.heap.size := L1.lt
          have H1 := Lib.hid L1
          clear L1 hu hi hc5 h1c
          go_wp2_with (with_reducible refine wpList_load_blk rfl _ rfl rfl H1.out HL.out ?_)
          go_wp2_with fail
          refine (GA.out _).mono ?_; rintro e w2 ⟨rfl, hw2⟩
          have b2 : Below w.heap.size w w2 := chain bw hw2
          have k1' := (hw2.cell (p := ⟨w.heap.size, 1, none⟩) (by simp; omega)).trans k1
          go_wp2_with fail
          ((try simp only [Exit.inBlock, Exit.then]); refine bodyPost_ret (by simp [results, Try.results19, go_sem, HL]; try rfl) rfl ?_)
          exact ⟨HV.out.symm ▸ rfl, b2⟩
        · have hb' : (oB l != b) = true := by rw [bne_iff_ne]; exact hb
          have hE : chE a b s l = 52 := by unfold chE; rw [if_neg (fun h => h.elim ha (fun h => h hs)), if_pos ho, if_neg hb]
          rw [hE, if_neg (by decide)] at hV
          have HV := Lib.hid hV
          clear hV hE OA ho hs ha hb
          go_enter Try.func19, Try.ntmps19
          go_wp2_with fail
          obtain ⟨X0, hX⟩ : ∃ X0 : World, X0 = (w.alloc (.cells #[.int .i64 a, .int .i64 b, .int .u64 s] 26)).alloc (.cells (ac l) 23) := ⟨_, rfl⟩
          have OLD' := OLD.out
          rw [← hX] at OLD' ⊢
          have OLX := Lib.hid OLD'
          clear OLD' hX
          go_region_held3 (fun W => Below X0.heap.size X0 W ∧ W.cell? ⟨w.heap.size, 0, none⟩ = some (.int .i64 a) ∧ W.cell? ⟨w.heap.size, 2, none⟩ = some (.int .u64 s) ∧ W.rangeAt (w.heap.size + 1) 0 (bc l))
            ((refine (fun hB => ⟨hB, (OLX.out _ hB).1, (OLX.out _ hB).2.2.1, (OLX.out _ hB).2.2.2.1.range⟩) ?_; first | exact (Below.refl _ _).drew | assumption | ((try go_split_ands); assumption)))
            ((go_at_call 15; refine (GS.out _).mono ?_; rintro r w' ⟨rfl, hw'⟩; (try go_split_ands); have bq : Below X0.heap.size X0 w' := chain (by assumption) hw'))
          have bq2 : Below X0.heap.size X0 w' := by (try go_split_ands); assumption
          obtain ⟨k0, k1, k2, L1, bw⟩ := OLX.out _ bq2
          have lt1 : w.heap.size + 1 < w'.heap.size := L1.lt
          have H1 := Lib.hid L1
          clear L1 hu hi hc5 h1c
          go_wp2_with (with_reducible refine wpList_load_blk rfl _ rfl rfl H1.out HL.out ?_)
          go_wp2_with fail
          refine (GA.out _).mono ?_; rintro e w2 ⟨rfl, hw2⟩
          have b2 : Below w.heap.size w w2 := chain bw hw2
          have k1' := (hw2.cell (p := ⟨w.heap.size, 1, none⟩) (by simp; omega)).trans k1
          go_wp2_with fail
          ((try simp only [Exit.inBlock, Exit.then]); refine bodyPost_ret (by simp [results, Try.results19, go_sem, HL]; try rfl) rfl ?_)
          exact ⟨HV.out.symm ▸ rfl, b2⟩
    · have hs' : (bSum l != s) = true := by rw [bne_iff_ne]; exact hs
      have hE : chE a b s l = 52 := if_pos (.inr hs)
      rw [hE, if_neg (by decide)] at hV
      have HV := Lib.hid hV
      clear hV hE OA hs ha
      go_enter Try.func19, Try.ntmps19
      go_wp2_with fail
      obtain ⟨X0, hX⟩ : ∃ X0 : World, X0 = (w.alloc (.cells #[.int .i64 a, .int .i64 b, .int .u64 s] 26)).alloc (.cells (ac l) 23) := ⟨_, rfl⟩
      have OLD' := OLD.out
      rw [← hX] at OLD' ⊢
      have OLX := Lib.hid OLD'
      clear OLD' hX
      go_region_held3 (fun W => Below X0.heap.size X0 W ∧ W.cell? ⟨w.heap.size, 0, none⟩ = some (.int .i64 a) ∧ W.cell? ⟨w.heap.size, 2, none⟩ = some (.int .u64 s) ∧ W.rangeAt (w.heap.size + 1) 0 (bc l))
        ((refine (fun hB => ⟨hB, (OLX.out _ hB).1, (OLX.out _ hB).2.2.1, (OLX.out _ hB).2.2.2.1.range⟩) ?_; first | exact (Below.refl _ _).drew | assumption | ((try go_split_ands); assumption)))
        ((go_at_call 15; refine (GS.out _).mono ?_; rintro r w' ⟨rfl, hw'⟩; (try go_split_ands); have bq : Below X0.heap.size X0 w' := chain (by assumption) hw'))
      have bq2 : Below X0.heap.size X0 w' := by (try go_split_ands); assumption
      obtain ⟨k0, k1, k2, L1, bw⟩ := OLX.out _ bq2
      have lt1 : w.heap.size + 1 < w'.heap.size := L1.lt
      have H1 := Lib.hid L1
      clear L1 hu hi hc5 h1c
      go_wp2_with fail
      ((try simp only [Exit.inBlock, Exit.then]); refine bodyPost_ret (by simp [results, Try.results19, go_sem, HL]; try rfl) rfl ?_)
      exact ⟨HV.out.symm ▸ rfl, bw⟩
end Go.Proofs.Ytjhgimdpgnnffaa
