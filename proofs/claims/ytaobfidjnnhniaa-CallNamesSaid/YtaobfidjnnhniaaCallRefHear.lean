/- jettyref03.Hear. -/
import Derived.Test.YtaobfidjnnhniaaCallRefRead
namespace Go.Proofs.Ytaobfidjnnhniaa
set_option linter.unusedVariables false
set_option linter.unusedSimpArgs false
open Go.ChangeShapes Go.WideShapes Go.ChangeAt Go.RowKit Pl
attribute [local go_sem] ba_toList ba_size

set_option maxRecDepth 100000 in
set_option maxHeartbeats 3200000 in
theorem refHear_any (s : List UInt8) (w : World) (hl : s.length ≤ 10000) :
    Calls Try.prog 16 #[sv s] w fun r w' => r = .returned (hearV s) ∧ Below w.heap.size w w' := by
  by_cases h12 : s.length < 12
  · have h1 : (s.length : Int) < 12 := by omega
    have he := Lib.hid (hear_no (s := s) (by unfold hearOK; simp; omega))
    clear h12
    go_enter Try.func16, Try.ntmps16
    go_wp2_with fail
    ((try simp only [Exit.inBlock, Exit.then]); refine bodyPost_ret (by simp [results, Try.results16, go_sem, hl]; try rfl) rfl ?_)
    exact ⟨he.out.symm ▸ rfl, by repeat' (first | (with_reducible exact Below.refl _ _) | (with_reducible assumption) | (with_reducible refine below_drewN ?_ _) | (with_reducible refine Below.alloc ?_ ?_ _) | (with_reducible refine Below.drew ?_) | (with_reducible refine Below.setCell ?_ ?_ _) | go_size)⟩
  have h12' : 12 ≤ s.length := by omega
  have h1 : ¬ (s.length : Int) < 12 := by omega
  have hsl : ∀ W, (Instr.slice 9 (.string ⟨s.toArray⟩) none (some (.int .i64 12)) none).run Try.prog W = .ok (sv (s.take 12)) W := fun W => slice_sv_h Try.underlying9 s 12 h12' W
  have hst : ∀ W, (Instr.slice 9 (.string ⟨s.toArray⟩) (some (.int .i64 12)) none none).run Try.prog W = .ok (sv (s.drop 12)) W := fun W => slice_sv_t Try.underlying9 s 12 h12' W
  have htl : (s.take 12).length = 12 := by simp; omega
  have HTL := Lib.hid htl
  have v0 : wr? (s.take 12) 0 = wd s 0 := (wr_eq (by omega)).trans (wd_take (by omega))
  have v1' : wr? (s.take 12) 1 = wd s 1 := (wr_eq (by omega)).trans (wd_take (by omega))
  have v2 : wr? (s.take 12) 2 = wd s 2 := (wr_eq (by omega)).trans (wd_take (by omega))
  have V0 := Lib.hid v0
  have V1 := Lib.hid v1'
  have V2 := Lib.hid v2
  clear v0 v1' v2 htl h12
  have hd : ∀ j, j < 3 → (w.alloc (.cells #[.int .i64 0, .int .i64 0, .string ⟨#[]⟩] 26)).cell? ⟨w.heap.size, j, none⟩ = (#[Value.int .i64 0, .int .i64 0, .string ⟨#[]⟩] : Array Value)[j]? ∧
      (w.alloc (.cells #[.int .i64 0, .int .i64 0, .string ⟨#[]⟩] 26)).frozen? ⟨w.heap.size, j, none⟩ = false := fun j _ => ⟨cell_new _ _ _ _ j rfl, frozen_new _ _ _ _⟩
  have HD := Lib.hid hd
  clear hd
  go_enter Try.func16, Try.ntmps16
  go_wp2_with (with_reducible refine wpList_bytes_of_string rfl _ rfl Try.underlying9 Try.underlying58 Try.underlying5 rfl ?_ ?_)
  · unfold maxLen; have := HTL.out; omega
  intro v1 w1 hr1 hw1 _
  have s1 : w.heap.size + 1 ≤ w1.heap.size := by have := hw1.size; simpa using this
  have hv1 := hr1.bytes
  go_wp2_with fail
  refine (rrNew_any _ (s.take 12) _ hv1 (by have := HTL.out; omega)).mono ?_; rintro r w2 ⟨g, h, rfl, rd, hw2, hg0, hh0, hg1, hh1⟩
  have c2 := hw1.trans (hw2.mono s1)
  have s2 := hw2.size
  go_wp2_with fail
  refine (rrWord_any (r := stR (s.take 12) 0) _ rd).mono ?_; rintro e w3 ⟨rfl, h3, g3⟩
  have h3 : Rd w3 g h (stR (s.take 12) 1) := h3
  have e0 : ((wordR (stR (s.take 12) 0)).1 : Int) = wr? (s.take 12) 0 := rfl
  rw [e0, V0.out]
  clear e0
  have s3 := g3.size
  have b0 := wd_bounds s 0
  have b1 := wd_bounds s 1
  have b2 := wd_bounds s 2
  have n0 : w3.heap.size ≠ g := by omega
  have m0 : w.heap.size ≠ g := by omega
  go_wp2_with fail
  refine (rrWord_any (r := stR (s.take 12) 1) _ (h3.below (by repeat' (first | (with_reducible exact Below.refl _ _) | (with_reducible assumption) | (with_reducible refine below_drewN ?_ _) | (with_reducible refine Below.alloc ?_ ?_ _) | (with_reducible refine Below.drew ?_) | (with_reducible refine Below.setCell ?_ ?_ _) | go_size)))).mono ?_; rintro e w4 ⟨rfl, h4, g4⟩
  have h4 : Rd w4 g h (stR (s.take 12) 2) := h4
  have e1 : ((wordR (stR (s.take 12) 1)).1 : Int) = wr? (s.take 12) 1 := rfl
  rw [e1, V1.out]
  clear e1
  have s4 : w3.heap.size + 1 ≤ w4.heap.size := by have := g4.size; simpa using this
  go_wp2_with fail
  refine (rrWord_any (r := stR (s.take 12) 2) _ h4).mono ?_; rintro e w5 ⟨rfl, h5, g5⟩
  have h5 : Rd w5 g h (stR (s.take 12) 3) := h5
  have e2 : ((wordR (stR (s.take 12) 2)).1 : Int) = wr? (s.take 12) 2 := rfl
  rw [e2, V2.out]
  clear e2
  have s5 := g5.size
  have k45 := gtrans g4 g5
  have z0 : w5.cell? ⟨w3.heap.size, 0, none⟩ = some (.int .i64 (wd s 0)) := (kept k45 (by simp) n0 0).1.trans (cell_new _ _ _ _ 0 rfl)
  have z1 : w5.cell? ⟨w3.heap.size, 1, none⟩ = some (.int .i64 0) := (kept k45 (by simp) n0 1).1.trans (cell_new _ _ _ _ 1 rfl)
  have z2 : w5.cell? ⟨w3.heap.size, 2, none⟩ = some (.string ⟨#[]⟩) := (kept k45 (by simp) n0 2).1.trans (cell_new _ _ _ _ 2 rfl)
  have f0 : w5.frozen? ⟨w3.heap.size, 0, none⟩ = false := (kept k45 (by simp) n0 0).2.trans (frozen_new _ _ _ _)
  have f1 : w5.frozen? ⟨w3.heap.size, 1, none⟩ = false := (kept k45 (by simp) n0 1).2.trans (frozen_new _ _ _ _)
  have f2 : w5.frozen? ⟨w3.heap.size, 2, none⟩ = false := (kept k45 (by simp) n0 2).2.trans (frozen_new _ _ _ _)
  have old : ∀ j, j < 3 → w5.cell? ⟨w.heap.size, j, none⟩ = (#[Value.int .i64 0, .int .i64 0, .string ⟨#[]⟩] : Array Value)[j]? ∧ w5.frozen? ⟨w.heap.size, j, none⟩ = false := by
    intro j hj
    have a2 := c2.cell (p := ⟨w.heap.size, j, none⟩) (by simp)
    have a3 := c2.frozen (p := ⟨w.heap.size, j, none⟩) (by simp)
    have a4 := kept g3 (b := w.heap.size) (by omega) m0 j
    have a5 := kept k45 (b := w.heap.size) (by simp; omega) m0 j
    have a6 := HD.out j hj
    have lt3 : w.heap.size < w3.heap.size := by omega
    exact ⟨a5.1.trans ((World.cell?_alloc_lt _ _ _ lt3).trans (a4.1.trans (a2.trans a6.1))), a5.2.trans ((World.frozen?_alloc_past _ _ _ lt3).trans (a4.2.trans (a3.trans a6.2)))⟩
  obtain ⟨p0, o0⟩ := old 0 (by omega)
  obtain ⟨p1, o1⟩ := old 1 (by omega)
  obtain ⟨p2, o2⟩ := old 2 (by omega)
  have p0 : w5.cell? ⟨w.heap.size, 0, none⟩ = some (.int .i64 0) := p0
  have p1 : w5.cell? ⟨w.heap.size, 1, none⟩ = some (.int .i64 0) := p1
  have p2 : w5.cell? ⟨w.heap.size, 2, none⟩ = some (.string ⟨#[]⟩) := p2
  have ltb : w3.heap.size < w5.heap.size := by omega
  have lt0 : w.heap.size < w5.heap.size := by omega
  have nw : w.heap.size ≠ w3.heap.size := by omega
  have bw : Below w.heap.size w w5 := by
    have q2 : Below w.heap.size w w2 := Below.trans (by repeat' (first | (with_reducible exact Below.refl _ _) | (with_reducible assumption) | (with_reducible refine below_drewN ?_ _) | (with_reducible refine Below.alloc ?_ ?_ _) | (with_reducible refine Below.drew ?_) | (with_reducible refine Below.setCell ?_ ?_ _) | go_size)) (c2.mono (by omega))
    have q3 := below_by q2 g3 (by omega) (by omega)
    exact below_by (q3.alloc (by omega) _) k45 (by simp; omega) (by omega)
  clear old
  have hlen' : (s.drop 12).length ≤ 9223372036854775807 := by simp; omega
  have HM := fun W : World => refmay_any (wd s 0) (wd s 2) (s.drop 12) W hlen'
  clear h3 h4 h5 hsl rd HD
  by_cases hw1 : wd s 1 = 1
  · rw [hw1]
    cases hm : mayA (wd s 0) (wd s 2) (s.drop 12)
    · have he := Lib.hid (hear_no (s := s) (by unfold hearOK; rw [hm]; simp))
      rw [hm] at HM
      have GM := Lib.hid HM
      clear HM hm hw1
      go_wp2_with fail
      refine (GM.out _).mono ?_; rintro r w7 ⟨rfl, hw7⟩
      have P : ∀ j x, w5.cell? ⟨w.heap.size, j, none⟩ = some x → w5.frozen? ⟨w.heap.size, j, none⟩ = false → w7.cell? ⟨w.heap.size, j, none⟩ = some x ∧ w7.frozen? ⟨w.heap.size, j, none⟩ = false := fun j x h1 h2 =>
        ⟨(hw7.cell (p := ⟨w.heap.size, j, none⟩) (by simpa using lt0)).trans ((World.cell?_setCell_other _ _ _ _ (fun e => nw (congrArg Addr.block e).symm)).trans ((World.cell?_setCell_other _ _ _ _ (fun e => nw (congrArg Addr.block e).symm)).trans h1)), (hw7.frozen (p := ⟨w.heap.size, j, none⟩) (by simpa using lt0)).trans (by simpa using h2)⟩
      obtain ⟨x0, y0⟩ := P 0 _ p0 o0
      obtain ⟨x1, y1⟩ := P 1 _ p1 o1
      obtain ⟨x2, y2⟩ := P 2 _ p2 o2
      have u0 : w7.cell? ⟨w3.heap.size, 0, none⟩ = some (.int .i64 (wd s 0)) := (hw7.cell (p := ⟨w3.heap.size, 0, none⟩) (by simpa using ltb)).trans ((World.cell?_setCell_other _ _ _ _ (fun e => by cases e)).trans ((World.cell?_setCell_other _ _ _ _ (fun e => by cases e)).trans z0))
      have u1 : w7.cell? ⟨w3.heap.size, 1, none⟩ = some (.int .i64 (wd s 2)) := (hw7.cell (p := ⟨w3.heap.size, 1, none⟩) (by simpa using ltb)).trans ((World.cell?_setCell_other _ _ _ _ (fun e => by cases e)).trans (World.cell?_setCell_same _ _ _ z1))
      have u2 : w7.cell? ⟨w3.heap.size, 2, none⟩ = some (sv (s.drop 12)) := (hw7.cell (p := ⟨w3.heap.size, 2, none⟩) (by simpa using ltb)).trans (World.cell?_setCell_same _ _ _ ((World.cell?_setCell_other _ _ _ _ (fun e => by cases e)).trans z2))
      have lt7 : w.heap.size < w7.heap.size := by have := hw7.size; simp at this; omega
      have bw7 : Below w.heap.size w w7 := Below.trans (by repeat' (first | (with_reducible exact Below.refl _ _) | (with_reducible assumption) | (with_reducible refine below_drewN ?_ _) | (with_reducible refine Below.alloc ?_ ?_ _) | (with_reducible refine Below.drew ?_) | (with_reducible refine Below.setCell ?_ ?_ _) | go_size)) (hw7.mono (by simp; omega))
      clear P z0 z1 z2 p0 p1 p2 o0 o1 o2
      go_wp2_with fail
      ((try simp only [Exit.inBlock, Exit.then]); refine bodyPost_ret (by simp [results, Try.results16, go_sem, x0, x1, x2, lt7]; try rfl) rfl ?_)
      exact ⟨he.out.symm ▸ rfl, by repeat' (first | (with_reducible exact Below.refl _ _) | (with_reducible assumption) | (with_reducible refine below_drewN ?_ _) | (with_reducible refine Below.alloc ?_ ?_ _) | (with_reducible refine Below.drew ?_) | (with_reducible refine Below.setCell ?_ ?_ _) | go_size)⟩
    · have he := Lib.hid (hear_yes (s := s) (by unfold hearOK; rw [hm, hw1]; simp; omega))
      rw [hm] at HM
      have GM := Lib.hid HM
      clear HM hm hw1
      go_wp2_with fail
      refine (GM.out _).mono ?_; rintro r w7 ⟨rfl, hw7⟩
      have P : ∀ j x, w5.cell? ⟨w.heap.size, j, none⟩ = some x → w5.frozen? ⟨w.heap.size, j, none⟩ = false → w7.cell? ⟨w.heap.size, j, none⟩ = some x ∧ w7.frozen? ⟨w.heap.size, j, none⟩ = false := fun j x h1 h2 =>
        ⟨(hw7.cell (p := ⟨w.heap.size, j, none⟩) (by simpa using lt0)).trans ((World.cell?_setCell_other _ _ _ _ (fun e => nw (congrArg Addr.block e).symm)).trans ((World.cell?_setCell_other _ _ _ _ (fun e => nw (congrArg Addr.block e).symm)).trans h1)), (hw7.frozen (p := ⟨w.heap.size, j, none⟩) (by simpa using lt0)).trans (by simpa using h2)⟩
      obtain ⟨x0, y0⟩ := P 0 _ p0 o0
      obtain ⟨x1, y1⟩ := P 1 _ p1 o1
      obtain ⟨x2, y2⟩ := P 2 _ p2 o2
      have u0 : w7.cell? ⟨w3.heap.size, 0, none⟩ = some (.int .i64 (wd s 0)) := (hw7.cell (p := ⟨w3.heap.size, 0, none⟩) (by simpa using ltb)).trans ((World.cell?_setCell_other _ _ _ _ (fun e => by cases e)).trans ((World.cell?_setCell_other _ _ _ _ (fun e => by cases e)).trans z0))
      have u1 : w7.cell? ⟨w3.heap.size, 1, none⟩ = some (.int .i64 (wd s 2)) := (hw7.cell (p := ⟨w3.heap.size, 1, none⟩) (by simpa using ltb)).trans ((World.cell?_setCell_other _ _ _ _ (fun e => by cases e)).trans (World.cell?_setCell_same _ _ _ z1))
      have u2 : w7.cell? ⟨w3.heap.size, 2, none⟩ = some (sv (s.drop 12)) := (hw7.cell (p := ⟨w3.heap.size, 2, none⟩) (by simpa using ltb)).trans (World.cell?_setCell_same _ _ _ ((World.cell?_setCell_other _ _ _ _ (fun e => by cases e)).trans z2))
      have lt7 : w.heap.size < w7.heap.size := by have := hw7.size; simp at this; omega
      have bw7 : Below w.heap.size w w7 := Below.trans (by repeat' (first | (with_reducible exact Below.refl _ _) | (with_reducible assumption) | (with_reducible refine below_drewN ?_ _) | (with_reducible refine Below.alloc ?_ ?_ _) | (with_reducible refine Below.drew ?_) | (with_reducible refine Below.setCell ?_ ?_ _) | go_size)) (hw7.mono (by simp; omega))
      clear P z0 z1 z2 p0 p1 p2 o0 o1 o2
      go_wp2_with fail
      ((try simp only [Exit.inBlock, Exit.then]); refine bodyPost_ret (by simp [results, Try.results16, go_sem, x0, x1, x2, lt7]; try rfl) rfl ?_)
      exact ⟨he.out.symm ▸ rfl, by repeat' (first | (with_reducible exact Below.refl _ _) | (with_reducible assumption) | (with_reducible refine below_drewN ?_ _) | (with_reducible refine Below.alloc ?_ ?_ _) | (with_reducible refine Below.drew ?_) | (with_reducible refine Below.setCell ?_ ?_ _) | go_size)⟩
  · have hw1' : (wd s 1 != 1) = true := by rw [bne_iff_ne]; exact hw1
    have he := Lib.hid (hear_no (s := s) (by unfold hearOK; rw [beq_eq_false_iff_ne.2 hw1]; simp))
    clear hw1 HM
    go_wp2_with fail
    ((try simp only [Exit.inBlock, Exit.then]); refine bodyPost_ret (by simp [results, Try.results16, go_sem, p0, p1, p2, lt0]; try rfl) rfl ?_)
    exact ⟨he.out.symm ▸ rfl, by repeat' (first | (with_reducible exact Below.refl _ _) | (with_reducible assumption) | (with_reducible refine below_drewN ?_ _) | (with_reducible refine Below.alloc ?_ ?_ _) | (with_reducible refine Below.drew ?_) | (with_reducible refine Below.setCell ?_ ?_ _) | go_size)⟩
end Go.Proofs.Ytaobfidjnnhniaa
