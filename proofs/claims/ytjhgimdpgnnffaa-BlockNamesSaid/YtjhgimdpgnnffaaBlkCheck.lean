/- block.Check. -/
import Derived.Test.YtjhgimdpgnnffaaBlkTo
import Derived.Deep.MidRow
namespace Go.Proofs.Ytjhgimdpgnnffaa
set_option linter.unusedVariables false
set_option linter.unusedSimpArgs false
open Go.ChangeShapes Go.WideShapes Go.ChangeAt Go.RowKit Pl
attribute [local go_sem] ba_toList ba_size

def chE (a b s : Int) (l : List UInt8) : Int := if a = 0 ∨ bSum l ≠ s then 52 else if openOK l = true then (if oB l = b then 0 else 52) else 4
def chV (a b s : Int) (l : List UInt8) : Value := if chE a b s l = 0 then .tuple #[.int .u8 ((oK l).toNat : Int), sv (oS l), .int .i64 0] else .tuple #[.int .u8 0, sv [], .int .i64 (chE a b s l)]

theorem Lies.range {w : World} {g : Nat} {l : List UInt8} (h : Lies w g l) : w.rangeAt g 0 (bc l) := fun j v hj => by
  rw [Nat.zero_add, cell_of_row w g j _ _ _ h]
  simpa [ac] using hj

set_option maxHeartbeats 3200000 in
theorem check_any (a b s : Int) (l : List UInt8) (w : World) (hl : l.length = 512) :
    Calls Try.prog 18 #[ptrV a b s, blk l] w fun r w' => r = .returned (chV a b s l) ∧ Below w.heap.size w w' := by
  have L0 := Lies.new (w.alloc (.cells #[.int .i64 a, .int .i64 b, .int .u64 s] 26)) l (w.heap.size + 1) (by simp)
  have H0 := Lib.hid L0
  have OA := fun W : World => open_any l W hl
  have SA := fun W : World => bsum_any l W hl
  have GS := Lib.hid SA
  have HL := Lib.hid hl
  have hV : chV a b s l = if chE a b s l = 0 then .tuple #[.int .u8 ((oK l).toNat : Int), sv (oS l), .int .i64 0] else .tuple #[.int .u8 0, sv [], .int .i64 (chE a b s l)] := rfl
  have old : ∀ w1 : World, Below ((w.alloc (.cells #[.int .i64 a, .int .i64 b, .int .u64 s] 26)).alloc (.cells (ac l) 23)).heap.size ((w.alloc (.cells #[.int .i64 a, .int .i64 b, .int .u64 s] 26)).alloc (.cells (ac l) 23)) w1 →
      w1.cell? ⟨w.heap.size, 0, none⟩ = some (.int .i64 a) ∧ w1.cell? ⟨w.heap.size, 1, none⟩ = some (.int .i64 b) ∧ w1.cell? ⟨w.heap.size, 2, none⟩ = some (.int .u64 s) ∧ Lies w1 (w.heap.size + 1) l ∧ Below w.heap.size w w1 := by
    intro w1 h
    exact ⟨(h.cell (p := ⟨w.heap.size, 0, none⟩) (by simp; omega)).trans (by simp), (h.cell (p := ⟨w.heap.size, 1, none⟩) (by simp; omega)).trans (by simp), (h.cell (p := ⟨w.heap.size, 2, none⟩) (by simp; omega)).trans (by simp), H0.out.below h, chain (by repeat' (first | (with_reducible exact Below.refl _ _) | (with_reducible assumption) | (with_reducible refine below_drewN ?_ _) | (with_reducible refine Below.alloc ?_ ?_ _) | (with_reducible refine Below.drew ?_) | (with_reducible refine Below.setCell ?_ ?_ _) | go_size)) h⟩
  have OLD := Lib.hid old
  clear L0 hl SA old
  by_cases ha : a = 0
  · have hE : chE a b s l = 52 := if_pos (.inl ha)
    rw [hE, if_neg (by decide)] at hV
    have HV := Lib.hid hV
    have ha' : (a == 0) = true := by rw [ha]; rfl
    clear hV hE OA ha
    go_enter Try.func18, Try.ntmps18
    go_wp2_with fail
    go_quiet (fail)
    go_wp2_with fail
    ((try simp only [Exit.inBlock, Exit.then]); refine bodyPost_ret (by simp [results, Try.results18, go_sem, HL]; try rfl) rfl ?_)
    exact ⟨HV.out.symm ▸ rfl, by repeat' (first | (with_reducible exact Below.refl _ _) | (with_reducible assumption) | (with_reducible refine below_drewN ?_ _) | (with_reducible refine Below.alloc ?_ ?_ _) | (with_reducible refine Below.drew ?_) | (with_reducible refine Below.setCell ?_ ?_ _) | go_size)⟩
  · have ha' : (a == 0) = false := by rw [beq_eq_false_iff_ne]; exact ha
    have hu := Try.underlying23
    have hi : (Try.prog.info? 23).map (·.size) = some (bc l).length := by rw [info_blk, bc_length, HL.out]
    have hc5 : (bc l).length = 512 := by rw [bc_length, HL.out]
    have h1c := bc_one l
    by_cases hs : bSum l = s
    · have hs' : (bSum l != s) = false := by rw [bne_eq_false_iff_eq]; exact hs
      cases ho : openOK l
      · have hE : chE a b s l = 4 := by unfold chE; rw [if_neg (fun h => h.elim ha (fun h => h hs)), if_neg (by rw [ho]; decide)]
        rw [hE, if_neg (by decide)] at hV
        have HV := Lib.hid hV
        simp only [openV_no ho] at OA
        have GA := Lib.hid OA
        clear hV hE OA ho hs ha
        go_enter Try.func18, Try.ntmps18
        go_wp2_with fail
        obtain ⟨X0, hX⟩ : ∃ X0 : World, X0 = (w.alloc (.cells #[.int .i64 a, .int .i64 b, .int .u64 s] 26)).alloc (.cells (ac l) 23) := ⟨_, rfl⟩
        have OLD' := OLD.out
        rw [← hX] at OLD' ⊢
        have OLX := Lib.hid OLD'
        clear OLD' hX
        go_region_held3 (fun W => Below X0.heap.size X0 W ∧ W.cell? ⟨w.heap.size, 0, none⟩ = some (.int .i64 a) ∧ W.cell? ⟨w.heap.size, 2, none⟩ = some (.int .u64 s) ∧ W.rangeAt (w.heap.size + 1) 0 (bc l))
          ((refine (fun hB => ⟨hB, (OLX.out _ hB).1, (OLX.out _ hB).2.2.1, (OLX.out _ hB).2.2.2.1.range⟩) ?_; first | exact (Below.refl _ _).drew | assumption | ((try go_split_ands); assumption)))
          ((go_at_call 14; refine (GS.out _).mono ?_; rintro r w' ⟨rfl, hw'⟩; (try go_split_ands); have bq : Below X0.heap.size X0 w' := chain (by assumption) hw'))
        have bq2 : Below X0.heap.size X0 w' := by (try go_split_ands); assumption
        obtain ⟨k0, k1, k2, L1, bw⟩ := OLX.out _ bq2
        have lt1 : w.heap.size + 1 < w'.heap.size := L1.lt
        have H1 := Lib.hid L1
        clear L1 hu hi hc5 h1c
        go_wp2_with (with_reducible refine wpList_load_blk rfl _ rfl rfl H1.out HL.out ?_)
        go_wp2_with fail
        refine (GA.out _).mono ?_; rintro e w2 ⟨rfl, hw2⟩
        have b2 : Below w.heap.size w w2 := chain bw hw2
        go_wp2_with fail
        ((try simp only [Exit.inBlock, Exit.then]); refine bodyPost_ret (by simp [results, Try.results18, go_sem, HL]; try rfl) rfl ?_)
        exact ⟨HV.out.symm ▸ rfl, b2⟩
      · simp only [openV_yes ho] at OA
        have GA := Lib.hid OA
        by_cases hb : oB l = b
        · have hb' : (oB l != b) = false := by rw [bne_eq_false_iff_eq]; exact hb
          have hE : chE a b s l = 0 := by unfold chE; rw [if_neg (fun h => h.elim ha (fun h => h hs)), if_pos ho, if_pos hb]
          rw [hE, if_pos rfl] at hV
          have HV := Lib.hid hV
          clear hV hE OA ho hs ha hb
          go_enter Try.func18, Try.ntmps18
          go_wp2_with fail
          obtain ⟨X0, hX⟩ : ∃ X0 : World, X0 = (w.alloc (.cells #[.int .i64 a, .int .i64 b, .int .u64 s] 26)).alloc (.cells (ac l) 23) := ⟨_, rfl⟩
          have OLD' := OLD.out
          rw [← hX] at OLD' ⊢
          have OLX := Lib.hid OLD'
          clear OLD' hX
          go_region_held3 (fun W => Below X0.heap.size X0 W ∧ W.cell? ⟨w.heap.size, 0, none⟩ = some (.int .i64 a) ∧ W.cell? ⟨w.heap.size, 2, none⟩ = some (.int .u64 s) ∧ W.rangeAt (w.heap.size + 1) 0 (bc l))
            ((refine (fun hB => ⟨hB, (OLX.out _ hB).1, (OLX.out _ hB).2.2.1, (OLX.out _ hB).2.2.2.1.range⟩) ?_; first | exact (Below.refl _ _).drew | assumption | ((try go_split_ands); assumption)))
            ((go_at_call 14; refine (GS.out _).mono ?_; rintro r w' ⟨rfl, hw'⟩; (try go_split_ands); have bq : Below X0.heap.size X0 w' := chain (by assumption) hw'))
          have bq2 : Below X0.heap.size X0 w' := by (try go_split_ands); assumption
          obtain ⟨k0, k1, k2, L1, bw⟩ := OLX.out _ bq2
          have lt1 : w.heap.size + 1 < w'.heap.size := L1.lt
          have H1 := Lib.hid L1
          clear L1 hu hi hc5 h1c
          go_wp2_with (with_reducible refine wpList_load_blk rfl _ rfl rfl H1.out HL.out ?_)
          go_wp2_with fail
          refine (GA.out _).mono ?_; rintro e w2 ⟨rfl, hw2⟩
          have b2 : Below w.heap.size w w2 := chain bw hw2
          have k1' := (hw2.cell (p := ⟨w.heap.size, 1, none⟩) (by simp; omega)).trans k1
          go_wp2_with fail
          ((try simp only [Exit.inBlock, Exit.then]); refine bodyPost_ret (by simp [results, Try.results18, go_sem, HL]; try rfl) rfl ?_)
          exact ⟨HV.out.symm ▸ rfl, b2⟩
        · have hb' : (oB l != b) = true := by rw [bne_iff_ne]; exact hb
          have hE : chE a b s l = 52 := by unfold chE; rw [if_neg (fun h => h.elim ha (fun h => h hs)), if_pos ho, if_neg hb]
          rw [hE, if_neg (by decide)] at hV
          have HV := Lib.hid hV
          clear hV hE OA ho hs ha hb
          go_enter Try.func18, Try.ntmps18
          go_wp2_with fail
          obtain ⟨X0, hX⟩ : ∃ X0 : World, X0 = (w.alloc (.cells #[.int .i64 a, .int .i64 b, .int .u64 s] 26)).alloc (.cells (ac l) 23) := ⟨_, rfl⟩
          have OLD' := OLD.out
          rw [← hX] at OLD' ⊢
          have OLX := Lib.hid OLD'
          clear OLD' hX
          go_region_held3 (fun W => Below X0.heap.size X0 W ∧ W.cell? ⟨w.heap.size, 0, none⟩ = some (.int .i64 a) ∧ W.cell? ⟨w.heap.size, 2, none⟩ = some (.int .u64 s) ∧ W.rangeAt (w.heap.size + 1) 0 (bc l))
            ((refine (fun hB => ⟨hB, (OLX.out _ hB).1, (OLX.out _ hB).2.2.1, (OLX.out _ hB).2.2.2.1.range⟩) ?_; first | exact (Below.refl _ _).drew | assumption | ((try go_split_ands); assumption)))
            ((go_at_call 14; refine (GS.out _).mono ?_; rintro r w' ⟨rfl, hw'⟩; (try go_split_ands); have bq : Below X0.heap.size X0 w' := chain (by assumption) hw'))
          have bq2 : Below X0.heap.size X0 w' := by (try go_split_ands); assumption
          obtain ⟨k0, k1, k2, L1, bw⟩ := OLX.out _ bq2
          have lt1 : w.heap.size + 1 < w'.heap.size := L1.lt
          have H1 := Lib.hid L1
          clear L1 hu hi hc5 h1c
          go_wp2_with (with_reducible refine wpList_load_blk rfl _ rfl rfl H1.out HL.out ?_)
          go_wp2_with fail
          refine (GA.out _).mono ?_; rintro e w2 ⟨rfl, hw2⟩
          have b2 : Below w.heap.size w w2 := chain bw hw2
          have k1' := (hw2.cell (p := ⟨w.heap.size, 1, none⟩) (by simp; omega)).trans k1
          go_wp2_with fail
          ((try simp only [Exit.inBlock, Exit.then]); refine bodyPost_ret (by simp [results, Try.results18, go_sem, HL]; try rfl) rfl ?_)
          exact ⟨HV.out.symm ▸ rfl, b2⟩
    · have hs' : (bSum l != s) = true := by rw [bne_iff_ne]; exact hs
      have hE : chE a b s l = 52 := if_pos (.inr hs)
      rw [hE, if_neg (by decide)] at hV
      have HV := Lib.hid hV
      clear hV hE OA hs ha
      go_enter Try.func18, Try.ntmps18
      go_wp2_with fail
      obtain ⟨X0, hX⟩ : ∃ X0 : World, X0 = (w.alloc (.cells #[.int .i64 a, .int .i64 b, .int .u64 s] 26)).alloc (.cells (ac l) 23) := ⟨_, rfl⟩
      have OLD' := OLD.out
      rw [← hX] at OLD' ⊢
      have OLX := Lib.hid OLD'
      clear OLD' hX
      go_region_held3 (fun W => Below X0.heap.size X0 W ∧ W.cell? ⟨w.heap.size, 0, none⟩ = some (.int .i64 a) ∧ W.cell? ⟨w.heap.size, 2, none⟩ = some (.int .u64 s) ∧ W.rangeAt (w.heap.size + 1) 0 (bc l))
        ((refine (fun hB => ⟨hB, (OLX.out _ hB).1, (OLX.out _ hB).2.2.1, (OLX.out _ hB).2.2.2.1.range⟩) ?_; first | exact (Below.refl _ _).drew | assumption | ((try go_split_ands); assumption)))
        ((go_at_call 14; refine (GS.out _).mono ?_; rintro r w' ⟨rfl, hw'⟩; (try go_split_ands); have bq : Below X0.heap.size X0 w' := chain (by assumption) hw'))
      have bq2 : Below X0.heap.size X0 w' := by (try go_split_ands); assumption
      obtain ⟨k0, k1, k2, L1, bw⟩ := OLX.out _ bq2
      have lt1 : w.heap.size + 1 < w'.heap.size := L1.lt
      have H1 := Lib.hid L1
      clear L1 hu hi hc5 h1c
      go_wp2_with fail
      ((try simp only [Exit.inBlock, Exit.then]); refine bodyPost_ret (by simp [results, Try.results18, go_sem, HL]; try rfl) rfl ?_)
      exact ⟨HV.out.symm ▸ rfl, bw⟩
end Go.Proofs.Ytjhgimdpgnnffaa
