/- jettyref03.Read. -/
import Derived.Test.YtaobfidjnnhniaaCallHear
namespace Go.Proofs.Ytaobfidjnnhniaa
set_option linter.unusedVariables false
set_option linter.unusedSimpArgs false
open Go.ChangeShapes Go.WideShapes Go.ChangeAt Go.RowKit Pl
attribute [local go_sem] ba_toList ba_size

theorem info_i64 : (Try.prog.info? 3).map (fun i => (i.zero, i.size, i.bytes)) = some (some (.int .i64 0), 1, 8) := by kernel_rfl

theorem wd_take {s : List UInt8} {q k : Nat} (h : 4 * (q + 1) ≤ k) : wd (s.take k) q = wd s q := by
  unfold wd
  rw [List.drop_take, List.take_take, Nat.min_eq_left (by omega)]

/-- 's[i:]' of a string. -/
theorem slice_sv_t {P : Program} {t : TypeId} (ht : P.underlying t = some .string) (l : List UInt8) (i : Nat) (hi : i ≤ l.length) (w : World) :
    (Instr.slice t (.string ⟨l.toArray⟩) (some (.int .i64 (i : Int))) none none).run P w = .ok (.string ⟨(l.drop i).toArray⟩) w := by
  rw [run_slice_string_l w t ⟨l.toArray⟩ ht .i64 i (by omega) (by rw [ba_size]; omega), ba_extract, ba_size]
  have : (l.drop i).take (l.length - i) = l.drop i := List.take_of_length_le (by simp)
  rw [Int.toNat_natCast, this]

def wds (s : List UInt8) (q : Nat) : List Value := (List.range q).map fun j => Value.int .i64 (wr? s j)
theorem wds_succ (s : List UInt8) (q : Nat) : wds s (q + 1) = wds s q ++ [.int .i64 (wr? s q)] := by simp [wds, List.range_succ]

theorem own_ne {W : World} {base e n : Nat} {v : Value} {xs : List Value} (h : W.ownsRow base e 1 v n xs) {g : Nat} (hg : g < base) : some g ≠ v.ownBlock := fun e => by
  have := (h.lt g e.symm).1
  omega

set_option maxRecDepth 100000 in
set_option maxHeartbeats 3200000 in
theorem refRead_any (s : List UInt8) (w : World) (hl : s.length ≤ 10000) :
    Calls Try.prog 14 #[sv s] w fun r w' => r = .returned (readV s) ∧ Below w.heap.size w w' := by
  by_cases hg : 4096 < s.length ∨ s.length % 4 ≠ 0 ∨ s.length < 24
  · have he : readE s = 4 := if_neg (fun h => by simp only [Bool.and_eq_true, decide_eq_true_eq] at h; omega)
    have h0 : readV s = .tuple #[headV 0 0 0 [], .int .i64 4] := by
      unfold readV readC readX readP readB
      rw [he]
      rfl
    rw [h0]
    clear he h0
    by_cases h1 : (4096 : Int) < (s.length : Int)
    · go_enter Try.func14, Try.ntmps14
      go_wp2_with fail
      ((try simp only [Exit.inBlock, Exit.then]); refine bodyPost_ret (by simp [results, Try.results14, go_sem, hl]; try rfl) rfl ?_)
      exact ⟨rfl, by repeat' (first | (with_reducible exact Below.refl _ _) | (with_reducible assumption) | (with_reducible refine below_drewN ?_ _) | (with_reducible refine Below.alloc ?_ ?_ _) | (with_reducible refine Below.drew ?_) | (with_reducible refine Below.setCell ?_ ?_ _) | go_size)⟩
    · by_cases h2 : s.length % 4 = 0
      · have h2' : ((s.length : Int) % 4 != 0) = false := by rw [bne_eq_false_iff_eq]; omega
        have h3 : (s.length : Int) < 24 := by omega
        clear hg h2
        go_enter Try.func14, Try.ntmps14
        go_wp2_with fail
        ((try simp only [Exit.inBlock, Exit.then]); refine bodyPost_ret (by simp [results, Try.results14, go_sem, hl]; try rfl) rfl ?_)
        exact ⟨rfl, by repeat' (first | (with_reducible exact Below.refl _ _) | (with_reducible assumption) | (with_reducible refine below_drewN ?_ _) | (with_reducible refine Below.alloc ?_ ?_ _) | (with_reducible refine Below.drew ?_) | (with_reducible refine Below.setCell ?_ ?_ _) | go_size)⟩
      · have h2' : ((s.length : Int) % 4 != 0) = true := by rw [bne_iff_ne]; omega
        clear hg h2
        go_enter Try.func14, Try.ntmps14
        go_wp2_with fail
        ((try simp only [Exit.inBlock, Exit.then]); refine bodyPost_ret (by simp [results, Try.results14, go_sem, hl]; try rfl) rfl ?_)
        exact ⟨rfl, by repeat' (first | (with_reducible exact Below.refl _ _) | (with_reducible assumption) | (with_reducible refine below_drewN ?_ _) | (with_reducible refine Below.alloc ?_ ?_ _) | (with_reducible refine Below.drew ?_) | (with_reducible refine Below.setCell ?_ ?_ _) | go_size)⟩
  have h1 : ¬ (4096 : Int) < (s.length : Int) := by omega
  have h2 : ((s.length : Int) % 4 != 0) = false := by rw [bne_eq_false_iff_eq]; omega
  have h3 : ¬ (s.length : Int) < 24 := by omega
  have h24 : 24 ≤ s.length := by omega
  have hbase : (decide (s.length ≤ 4096) && decide (s.length % 4 = 0) && decide (24 ≤ s.length)) = true := by
    simp
    omega
  have HBs := Lib.hid hbase
  have hsl : ∀ W, (Instr.slice 9 (.string ⟨s.toArray⟩) none (some (.int .i64 24)) none).run Try.prog W = .ok (sv (s.take 24)) W := fun W => slice_sv_h Try.underlying9 s 24 h24 W
  have hst : ∀ W, (Instr.slice 9 (.string ⟨s.toArray⟩) (some (.int .i64 24)) none none).run Try.prog W = .ok (sv (s.drop 24)) W := fun W => slice_sv_t Try.underlying9 s 24 h24 W
  have htl : (s.take 24).length = 24 := by simp; omega
  have HTL := Lib.hid htl
  clear hg hbase htl
  obtain ⟨i0, hi, hz0, hz1, hz2⟩ := info_parts info_i64
  have HI := Lib.hid hi
  have hd : ∀ j, j < 4 → (w.alloc (.cells #[.int .i64 0, .int .i64 0, .int .i64 0, .string ⟨#[]⟩] 23)).cell? ⟨w.heap.size, j, none⟩ = (#[Value.int .i64 0, .int .i64 0, .int .i64 0, .string ⟨#[]⟩] : Array Value)[j]? ∧
      (w.alloc (.cells #[.int .i64 0, .int .i64 0, .int .i64 0, .string ⟨#[]⟩] 23)).frozen? ⟨w.heap.size, j, none⟩ = false := fun j _ => ⟨cell_new _ _ _ _ j rfl, frozen_new _ _ _ _⟩
  have HD := Lib.hid hd
  clear hd hi
  go_enter Try.func14, Try.ntmps14
  go_wp2_with (with_reducible refine wpList_bytes_of_string rfl _ rfl Try.underlying9 Try.underlying58 Try.underlying5 rfl ?_ ?_)
  · unfold maxLen; have := HTL.out; omega
  intro v1 w1 hr1 hw1 _
  have s1 : w.heap.size + 1 ≤ w1.heap.size := by have := hw1.size; simpa using this
  have hv1 := hr1.bytes
  go_wp2_with fail
  refine (rrNew_any _ (s.take 24) _ hv1 (by have := HTL.out; omega)).mono ?_; rintro r w2 ⟨g, h, rfl, rd, hw2, hg0, hh0, hg1, hh1⟩
  have c2 := hw1.trans (hw2.mono s1)
  have s2 := hw2.size
  clear hsl
  go_wp2_with fail
  go_loopw [5, 6] (fun v i W => ∃ q : Nat, q ≤ 6 ∧ i = .int .i64 q ∧ Rd W g h (stR (s.take 24) q) ∧ W.ownsRow w2.heap.size 3 1 v q (wds (s.take 24) q) ∧
      Below (w.heap.size + 1) (w.alloc (.cells #[.int .i64 0, .int .i64 0, .int .i64 0, .string ⟨#[]⟩] 23)) W ∧ w2.heap.size ≤ W.heap.size) (fun _ i _ => 6 - (intOf i).toNat)
  case atStart => exact ⟨0, by omega, rfl, rd, World.ownsRow_nil _ _ _ _, c2, Nat.le_refl _⟩
  case round =>
    obtain ⟨q, hq, rfl, hR, hO, bW, hsz⟩ := hrel
    by_cases hlt : q < 6
    · have hq6 : (q : Int) < 6 := by omega
      go_wp2_with fail
      refine (rrWord_any _ hR).mono ?_; rintro r w3 ⟨rfl, hr3, g3⟩
      have bnd := wr_bounds (s.take 24) q
      have hwr : ((wordR (stR (s.take 24) q)).1 : Int) = wr? (s.take 24) q := rfl
      rw [hwr]
      clear hwr
      have hO3 := hO.kept g3 (.inr (fun e => own_ne hO hg1 e.symm))
      have b3 := below_by bW g3 (by have := bW.size; simp at this; omega) (by omega)
      have sz3 := g3.size
      have HO := Lib.hid hO3
      have HI' := HI.out
      clear hO hO3
      go_wp2_with (at_builtin; refine wpList_push rfl _ _ 48 rfl Try.underlying48 HI' hz0 hz1 hz2 rfl rfl rfl HO.out rfl ?_ ?_ (by omega) ?_)
      · unfold maxLen; omega
      · omega
      · intro v4 w4 hown4 hgr4 hw4
        have gne : some g ≠ Value.ownBlock u5 := own_ne HO.out hg1
        have hne : some h ≠ Value.ownBlock u5 := own_ne HO.out hh1
        have sz4 := hgr4.size
        go_wp2_with fail
        go_roundw
        case rel => exact ⟨q + 1, by omega, by go_num, hr3.but hgr4 gne hne, by rw [wds_succ]; exact hown4, b3.trans (hw4.mono (by omega)), by omega⟩
        case measure => simp [intOf]; omega
    · obtain rfl : 6 = q := by omega
      rcases hO.2 with ⟨_, h6⟩ | ⟨gr, cap, cur, rfl, hgr0, hgr1, hcap, hcm, _, _⟩
      · omega
      have hcell : ∀ j, (hj : j < 6) → wr.cell? ⟨gr, j, none⟩ = some (.int .i64 (wd s j)) := by
        intro j hj
        have := hO.cellAt j (by omega)
        rw [this]
        have e : wr? (s.take 24) j = wd s j := (wr_eq (by have := HTL.out; omega)).trans (wd_take (by omega))
        simp [wds, hj, e]
      have x0 := hcell 0 (by omega)
      have x1 := hcell 1 (by omega)
      have x2 := hcell 2 (by omega)
      have x3 := hcell 3 (by omega)
      have x4 := hcell 4 (by omega)
      have x5 := hcell 5 (by omega)
      have y0 := HD.out 0 (by omega)
      have y1 := HD.out 1 (by omega)
      have y2 := HD.out 2 (by omega)
      have y3 := HD.out 3 (by omega)
      have k0 : wr.cell? ⟨w.heap.size, 0, none⟩ = some (.int .i64 0) := (bW.cell (p := ⟨w.heap.size, 0, none⟩) (by simp)).trans y0.1
      have k1 : wr.cell? ⟨w.heap.size, 1, none⟩ = some (.int .i64 0) := (bW.cell (p := ⟨w.heap.size, 1, none⟩) (by simp)).trans y1.1
      have k2 : wr.cell? ⟨w.heap.size, 2, none⟩ = some (.int .i64 0) := (bW.cell (p := ⟨w.heap.size, 2, none⟩) (by simp)).trans y2.1
      have k3 : wr.cell? ⟨w.heap.size, 3, none⟩ = some (.string ⟨#[]⟩) := (bW.cell (p := ⟨w.heap.size, 3, none⟩) (by simp)).trans y3.1
      have j0 : wr.frozen? ⟨w.heap.size, 0, none⟩ = false := (bW.frozen (p := ⟨w.heap.size, 0, none⟩) (by simp)).trans y0.2
      have j1 : wr.frozen? ⟨w.heap.size, 1, none⟩ = false := (bW.frozen (p := ⟨w.heap.size, 1, none⟩) (by simp)).trans y1.2
      have j2 : wr.frozen? ⟨w.heap.size, 2, none⟩ = false := (bW.frozen (p := ⟨w.heap.size, 2, none⟩) (by simp)).trans y2.2
      have j3 : wr.frozen? ⟨w.heap.size, 3, none⟩ = false := (bW.frozen (p := ⟨w.heap.size, 3, none⟩) (by simp)).trans y3.2
      have lt0 : w.heap.size < wr.heap.size := by have := bW.size; simp at this; omega
      have ltg : gr < wr.heap.size := (Array.getElem?_eq_some_iff.1 hgr1).1
      have bw : Below w.heap.size w wr := Below.trans (by repeat' (first | (with_reducible exact Below.refl _ _) | (with_reducible assumption) | (with_reducible refine below_drewN ?_ _) | (with_reducible refine Below.alloc ?_ ?_ _) | (with_reducible refine Below.drew ?_) | (with_reducible refine Below.setCell ?_ ?_ _) | go_size)) (bW.mono (by omega))
      have hcap' : (6 : Int) ≤ (cap : Int) := by omega
      clear y0 y1 y2 y3 hcell hlt hq hO rd hR bW HD
      have bad4 : (wd s 1 ≠ 0 ∨ isC (wd s 4) = false) → readV s = .tuple #[headV 0 0 0 [], .int .i64 4] := by
        intro hb
        have he : readE s = 4 := if_neg (fun h => by
          simp only [Bool.and_eq_true, decide_eq_true_eq] at h
          rcases hb with hb | hb
          · exact hb h.1.2
          · rw [h.2] at hb; cases hb)
        unfold readV readC readX readP readB
        rw [he]
        rfl
      have BAD := Lib.hid bad4
      clear bad4 h1 h2 h3
      by_cases hw1 : wd s 1 = 0
      · by_cases hcl : isC (wd s 4) = true
        · have good : readE s = if wd s 2 = 284 ∧ wd s 3 = 3 then (if wd s 5 < 19 then 0 else 62) else 63 := if_pos (by rw [HBs.out, hcl, hw1]; rfl)
          have GOOD := Lib.hid good
          have hb1 : ¬ (wd s 4 < 1) := by have := isC_bounds hcl; omega
          have hb2 : ¬ (16 < wd s 4) := by have := isC_bounds hcl; omega
          rw [hw1] at x1
          have vals : ∀ e, readE s = e → e ≠ 4 → e ≠ 0 → readV s = .tuple #[headV (wd s 4) (wd s 0) (wd s 5) [], .int .i64 e] := by
            intro e he h4 h0
            unfold readV readC readX readP readB
            rw [he, if_neg h4, if_neg h4, if_neg h4, if_neg h0]
          have VALS := Lib.hid vals
          clear vals hw1 hcl good
          by_cases e2 : wd s 2 = 284
          · by_cases e3 : wd s 3 = 3
            · by_cases e5 : wd s 5 < 19
              · have hE : readE s = 0 := by rw [GOOD.out, if_pos ⟨e2, e3⟩, if_pos e5]
                have hV : readV s = .tuple #[headV (wd s 4) (wd s 0) (wd s 5) (s.drop 24), .int .i64 0] := by
                  unfold readV readC readX readP readB
                  rw [hE]
                  rfl
                have HE := Lib.hid hV
                have e5' : decide (19 ≤ wd s 5) = false := decide_eq_false (by omega)
                rw [e2] at x2
                rw [e3] at x3
                clear hE hV e2 e3 e5
                go_wp2_with fail
                go_region_held3 (fun W => W.cell? ⟨gr, 0, none⟩ = some (.int .i64 (wd s 0)) ∧ W.cell? ⟨gr, 4, none⟩ = some (.int .i64 (wd s 4)) ∧ W.cell? ⟨gr, 5, none⟩ = some (.int .i64 (wd s 5))) (go_keep) (fail)
                go_wp2_with fail
                ((try simp only [Exit.inBlock, Exit.then]); refine bodyPost_ret (by simp [results, Try.results14, go_sem, k0, k1, k2, k3, lt0]; try rfl) rfl ?_)
                exact ⟨HE.out.symm ▸ rfl, by repeat' (first | (with_reducible exact Below.refl _ _) | (with_reducible assumption) | (with_reducible refine below_drewN ?_ _) | (with_reducible refine Below.alloc ?_ ?_ _) | (with_reducible refine Below.drew ?_) | (with_reducible refine Below.setCell ?_ ?_ _) | go_size)⟩
              · have HE := Lib.hid (VALS.out 62 (by rw [GOOD.out, if_pos ⟨e2, e3⟩, if_neg e5]) (by decide) (by decide))
                have e5' : 19 ≤ wd s 5 := by omega
                rw [e2] at x2
                rw [e3] at x3
                clear e2 e3 e5
                go_wp2_with fail
                go_region_held3 (fun W => W.cell? ⟨gr, 0, none⟩ = some (.int .i64 (wd s 0)) ∧ W.cell? ⟨gr, 4, none⟩ = some (.int .i64 (wd s 4)) ∧ W.cell? ⟨gr, 5, none⟩ = some (.int .i64 (wd s 5))) (go_keep) (fail)
                go_wp2_with fail
                ((try simp only [Exit.inBlock, Exit.then]); refine bodyPost_ret (by simp [results, Try.results14, go_sem, k0, k1, k2, k3, lt0]; try rfl) rfl ?_)
                exact ⟨HE.out.symm ▸ rfl, by repeat' (first | (with_reducible exact Below.refl _ _) | (with_reducible assumption) | (with_reducible refine below_drewN ?_ _) | (with_reducible refine Below.alloc ?_ ?_ _) | (with_reducible refine Below.drew ?_) | (with_reducible refine Below.setCell ?_ ?_ _) | go_size)⟩
            · have HE := Lib.hid (VALS.out 63 (by rw [GOOD.out, if_neg (fun h => e3 h.2)]) (by decide) (by decide))
              have e3' : (wd s 3 != 3) = true := by rw [bne_iff_ne]; exact e3
              rw [e2] at x2
              clear e2 e3
              go_wp2_with fail
              go_region_held3 (fun W => W.cell? ⟨gr, 0, none⟩ = some (.int .i64 (wd s 0)) ∧ W.cell? ⟨gr, 4, none⟩ = some (.int .i64 (wd s 4)) ∧ W.cell? ⟨gr, 5, none⟩ = some (.int .i64 (wd s 5))) (go_keep) (fail)
              go_wp2_with fail
              ((try simp only [Exit.inBlock, Exit.then]); refine bodyPost_ret (by simp [results, Try.results14, go_sem, k0, k1, k2, k3, lt0]; try rfl) rfl ?_)
              exact ⟨HE.out.symm ▸ rfl, by repeat' (first | (with_reducible exact Below.refl _ _) | (with_reducible assumption) | (with_reducible refine below_drewN ?_ _) | (with_reducible refine Below.alloc ?_ ?_ _) | (with_reducible refine Below.drew ?_) | (with_reducible refine Below.setCell ?_ ?_ _) | go_size)⟩
          · have HE := Lib.hid (VALS.out 63 (by rw [GOOD.out, if_neg (fun h => e2 h.1)]) (by decide) (by decide))
            have e2' : (wd s 2 != 284) = true := by rw [bne_iff_ne]; exact e2
            clear e2
            go_wp2_with fail
            go_region_held3 (fun W => W.cell? ⟨gr, 0, none⟩ = some (.int .i64 (wd s 0)) ∧ W.cell? ⟨gr, 4, none⟩ = some (.int .i64 (wd s 4)) ∧ W.cell? ⟨gr, 5, none⟩ = some (.int .i64 (wd s 5))) (go_keep) (fail)
            go_wp2_with fail
            ((try simp only [Exit.inBlock, Exit.then]); refine bodyPost_ret (by simp [results, Try.results14, go_sem, k0, k1, k2, k3, lt0]; try rfl) rfl ?_)
            exact ⟨HE.out.symm ▸ rfl, by repeat' (first | (with_reducible exact Below.refl _ _) | (with_reducible assumption) | (with_reducible refine below_drewN ?_ _) | (with_reducible refine Below.alloc ?_ ?_ _) | (with_reducible refine Below.drew ?_) | (with_reducible refine Below.setCell ?_ ?_ _) | go_size)⟩
        · have hcl' : isC (wd s 4) = false := by simpa using hcl
          have he := Lib.hid (BAD.out (.inr hcl'))
          rw [hw1] at x1
          clear hcl hw1
          by_cases hlo : wd s 4 < 1
          · clear hcl'
            go_wp2_with fail
            ((try simp only [Exit.inBlock, Exit.then]); refine bodyPost_ret (by simp [results, Try.results14, go_sem, k0, k1, k2, k3, lt0]; try rfl) rfl ?_)
            exact ⟨he.out.symm ▸ rfl, by repeat' (first | (with_reducible exact Below.refl _ _) | (with_reducible assumption) | (with_reducible refine below_drewN ?_ _) | (with_reducible refine Below.alloc ?_ ?_ _) | (with_reducible refine Below.drew ?_) | (with_reducible refine Below.setCell ?_ ?_ _) | go_size)⟩
          · have hhi : 16 < wd s 4 := by
              unfold isC at hcl'
              simp at hcl'
              omega
            clear hcl'
            go_wp2_with fail
            ((try simp only [Exit.inBlock, Exit.then]); refine bodyPost_ret (by simp [results, Try.results14, go_sem, k0, k1, k2, k3, lt0]; try rfl) rfl ?_)
            exact ⟨he.out.symm ▸ rfl, by repeat' (first | (with_reducible exact Below.refl _ _) | (with_reducible assumption) | (with_reducible refine below_drewN ?_ _) | (with_reducible refine Below.alloc ?_ ?_ _) | (with_reducible refine Below.drew ?_) | (with_reducible refine Below.setCell ?_ ?_ _) | go_size)⟩
      · have hw1' : (wd s 1 != 0) = true := by rw [bne_iff_ne]; exact hw1
        have he := Lib.hid (BAD.out (.inl hw1))
        clear hw1
        go_wp2_with fail
        ((try simp only [Exit.inBlock, Exit.then]); refine bodyPost_ret (by simp [results, Try.results14, go_sem, k0, k1, k2, k3, lt0]; try rfl) rfl ?_)
        exact ⟨he.out.symm ▸ rfl, by repeat' (first | (with_reducible exact Below.refl _ _) | (with_reducible assumption) | (with_reducible refine below_drewN ?_ _) | (with_reducible refine Below.alloc ?_ ?_ _) | (with_reducible refine Below.drew ?_) | (with_reducible refine Below.setCell ?_ ?_ _) | go_size)⟩
end Go.Proofs.Ytaobfidjnnhniaa
