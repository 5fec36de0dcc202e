/- ring.Newest: the newest root. Conditions: none. -/
import Derived.Test.YteoomhkdffnkkaaRngBlocks
import Derived.Test.YteoomhkdffnkkaaRngPlain
import Derived.Test.YteoomhkdffnkkaaDskMany
namespace Go.Proofs.Yteoomhkdffnkkaa
set_option linter.unusedVariables false
set_option linter.unusedSimpArgs false
open Go.ChangeShapes Go.WideShapes Go.ChangeAt Go.RowKit Pl
attribute [local go_sem] ba_toList ba_size zeroValueB
set_option maxRecDepth 100000

/-- The newest root of the blocks of the two places: its group (0: none) and its text. -/
def nwStep (o : Int × List UInt8) (i : Int) (b : List UInt8) : Int × List UInt8 := if roE b = 0 ∧ plV (oB b) = i ∧ o.1 < oB b then (oB b, (oS b).drop 8) else o
def nwQ (r0 r1 : List UInt8) : Nat → Int × List UInt8
  | 0 => (0, [])
  | 1 => nwStep (0, []) 0 r0
  | _ => nwStep (nwStep (0, []) 0 r0) 1 r1
def newV (r0 r1 : List UInt8) : Value := if (nwQ r0 r1 2).1 = 0 then .tuple #[rootV 0 [], .int .i64 5] else .tuple #[rootV (nwQ r0 r1 2).1 (nwQ r0 r1 2).2, .int .i64 0]
theorem nwQ_step (r0 r1 : List UInt8) {q : Nat} (hq : q < 2) : nwQ r0 r1 (q + 1) = nwStep (nwQ r0 r1 q) (q : Int) (if q = 0 then r0 else r1) := by
  obtain rfl | rfl : q = 0 ∨ q = 1 := by omega
  · rfl
  · rfl
theorem nwQ_small (r0 r1 : List UInt8) (q : Nat) : 0 ≤ (nwQ r0 r1 q).1 := by
  have hs : ∀ (o : Int × List UInt8) (i : Int) (b : List UInt8), 0 ≤ o.1 → 0 ≤ (nwStep o i b).1 := fun o i b h => by
    unfold nwStep
    split
    · rename_i h1
      show 0 ≤ oB b
      omega
    · exact h
  match q with
  | 0 => exact Int.le_refl _
  | 1 => exact hs _ _ _ (Int.le_refl _)
  | q + 2 => exact hs _ _ _ (hs _ _ _ (Int.le_refl _))
/-- In block b lies a root. -/
def RootC (w : World) (b : Nat) (t : Int) (l : List UInt8) : Prop := w.heap[b]? = some (.cells #[.int .i64 t, sv l] 29 (0, 0))
section
variable {w w' : World} {b : Nat} {t : Int} {l : List UInt8}
theorem RootC.lt (h : RootC w b t l) : b < w.heap.size := (Array.getElem?_eq_some_iff.1 h).1
theorem RootC.cells (h : RootC w b t l) : w.cell? ⟨b, 0, none⟩ = some (.int .i64 t) ∧ w.cell? ⟨b, 1, none⟩ = some (sv l) ∧ w.frozen? ⟨b, 0, none⟩ = false ∧ w.frozen? ⟨b, 1, none⟩ = false :=
  ⟨(cell_of_row w b 0 _ _ _ h).trans rfl, (cell_of_row w b 1 _ _ _ h).trans rfl, frozen_of_row w b 0 _ _ h, frozen_of_row w b 1 _ _ h⟩
theorem RootC.stay (h : RootC w b t l) (hb : w'.heap[b]? = w.heap[b]?) : RootC w' b t l := hb.trans h
theorem RootC.below (h : RootC w b t l) (hb : Below w.heap.size w w') : RootC w' b t l := h.stay (hb.block b h.lt)
theorem RootC.stay2 (h : RootC w b t l) {c : Nat} (hc : b ≠ c) (u v : Value) : RootC ((w.setCell ⟨c, 0, none⟩ u).setCell ⟨c, 1, none⟩ v) b t l :=
  (heap_setCell_other _ _ _ _ (by exact hc)).trans ((heap_setCell_other _ _ _ _ (by exact hc)).trans h)
theorem RootC.set (h : RootC w b t l) (t' : Int) (l' : List UInt8) : RootC ((w.setCell ⟨b, 0, none⟩ (.int .i64 t')).setCell ⟨b, 1, none⟩ (sv l')) b t' l' := by
  have h1 := heap_setCell_same w b 0 _ _ (.int .i64 t') h
  exact (heap_setCell_same _ b 1 _ _ (sv l') h1).trans rfl
end
theorem ringopen_form (R : List UInt8) : ∃ (t : Int) (l : List UInt8), roV R = .tuple #[rootV t l, .int .i64 (roE R)] ∧ (roE R = 0 → t = oB R ∧ l = (oS R).drop 8) := by
  unfold roV
  by_cases h : roE R = 0
  · rw [if_pos h, h]
    exact ⟨_, _, rfl, fun _ => ⟨rfl, rfl⟩⟩
  · rw [if_neg h]
    exact ⟨_, _, rfl, fun e => absurd e h⟩

set_option maxHeartbeats 6400000 in
theorem newest_q {fp rp : Nat → Prop} {g : Nat} {d : Dk} (w : World) (h : DiskV w fp rp g d) (hd0 : d.bad 0 = 0) (hd1 : d.bad 1 = 0) :
    Calls Try.prog 24 #[dptr g] w fun e w' => e = .returned (newV (d.look 0) (d.look 1)) ∧ Below w.heap.size w w' := by
  have hok := h.ok
  have HD := Lib.hid h
  have HR0 := Lib.hid (hok.look 0)
  have HR1 := Lib.hid (hok.look 1)
  have HB0 := Lib.hid hd0
  have HB1 := Lib.hid hd1
  have N0 : RootC (w.alloc (.cells #[.int .i64 0, sv []] 29)) w.heap.size 0 [] := heap_alloc_new _ _
  have N1 : RootC ((w.alloc (.cells #[.int .i64 0, sv []] 29)).alloc (.cells #[.int .i64 0, sv []] 29)) (w.heap.size + 1) 0 [] := by
    have := heap_alloc_new (w.alloc (.cells #[.int .i64 0, sv []] 29)) (.cells #[.int .i64 0, sv []] 29)
    simpa [RootC] using this
  have N0' := N0.stay (heap_alloc_old _ (.cells #[.int .i64 0, sv []] 29) N0.lt)
  have HN0 := Lib.hid N0'
  have HN1 := Lib.hid N1
  clear h hok hd0 hd1 N0 N1 N0'
  go_enter Try.func24, Try.ntmps24
  go_wp2_with fail
  have bX : Below w.heap.size w ((w.alloc (.cells #[.int .i64 0, sv []] 29)).alloc (.cells #[.int .i64 0, sv []] 29)) := by repeat' (first | (with_reducible exact Below.refl _ _) | (with_reducible assumption) | (with_reducible refine below_drewN ?_ _) | (with_reducible refine Below.alloc ?_ ?_ _) | (with_reducible refine Below.drew ?_) | (with_reducible refine Below.setCell ?_ ?_ _) | go_size)
  generalize ((w.alloc (.cells #[.int .i64 0, sv []] 29)).alloc (.cells #[.int .i64 0, sv []] 29)) = X at *
  have ltX : w.heap.size + 1 < X.heap.size := HN1.out.lt
  go_loopw [10] (fun i W => ∃ q : Nat, q ≤ 2 ∧ i = .int .i64 q ∧ RootC W w.heap.size 0 [] ∧ RootC W (w.heap.size + 1) (nwQ (d.look 0) (d.look 1) q).1 (nwQ (d.look 0) (d.look 1) q).2 ∧ Below w.heap.size w W) (fun i _ => 2 - (intOf i).toNat)
  case atStart => exact ⟨0, by omega, rfl, HN0.out, HN1.out, bX⟩
  case round =>
    obtain ⟨q, hq, rfl, hn0, hn1, hb⟩ := hrel
    have H0 := Lib.hid hn0
    have ht0 := nwQ_small (d.look 0) (d.look 1) q
    by_cases hlt : q < 2
    · have hq2 : (q : Int) < 2 := by omega
      have hst := nwQ_step (d.look 0) (d.look 1) hlt
      have HST := Lib.hid hst
      obtain ⟨R, hR⟩ : ∃ R, R = d.look (q : Int) := ⟨_, rfl⟩
      have hRq : (if q = 0 then d.look 0 else d.look 1) = R := by
        rw [hR]
        obtain rfl | rfl : q = 0 ∨ q = 1 := by omega
        · rfl
        · rfl
      have HRQ := Lib.hid hRq
      have hbq : d.bad (q : Int) = 0 := by
        obtain rfl | rfl : q = 0 ∨ q = 1 := by omega
        · exact HB0.out
        · exact HB1.out
      have hR5 : R.length = 512 := by rw [hR]; exact HD.out.ok.look _
      have hrd : d.read (q : Int) = R := by rw [hR]; exact if_pos hbq
      have CR := Read_any (q : Int) wr (HD.out.below hb) (wf_i64 (by omega) (by omega))
      rw [hrd, hbq] at CR
      have GR := Lib.hid CR
      have HR5 := Lib.hid hR5
      have GO := Lib.hid (fun W : World => ringopen_any R W hR5)
      obtain ⟨rt, rl, hform, hrt⟩ := ringopen_form R
      rw [hform] at GO
      have HRT := Lib.hid hrt
      obtain ⟨x0, x1, x2, x3⟩ := hn1.cells
      have H1 := Lib.hid hn1
      generalize nwQ (d.look 0) (d.look 1) q = o at *
      obtain ⟨ot, ol⟩ := o
      dsimp only at x0 x1 ht0
      clear hn0 hn1 hst hRq hbq hR hrd CR hR5 hform hrt HN0 HN1
      go_wp2_with fail
      refine GR.out.mono ?_; rintro e w1 ⟨rfl, hw1⟩
      have b1 := chain hb hw1
      have hs1 := hw1.size
      have K0 := Lib.hid (H0.out.below hw1)
      have K1 := Lib.hid (H1.out.below hw1)
      have HA := Lib.hid (Lies.new w1 (zs 512) _ rfl)
      clear hw1 H0 H1 x0 x1 x2 x3
      go_wp2_with (with_reducible refine wpList_store_blk (m := R) rfl _ _ rfl rfl rfl HA.out (zs_len 512) HR5.out ?_)
      intro w2 hl2 g2
      have b12 : Below w1.heap.size w1 w2 := below_row ((Below.refl _ _).alloc (Nat.le_refl _) _) g2 (by simp) (Nat.le_refl _)
      have b2 := chain b1 b12
      have hs2 := b12.size
      have J0 := Lib.hid (K0.out.below b12)
      have J1 := Lib.hid (K1.out.below b12)
      have HL2 := Lib.hid hl2
      clear hl2 g2 b12 K0 K1 HA
      go_wp2_with (with_reducible refine wpList_load_blk rfl _ rfl rfl HL2.out HR5.out ?_)
      refine (GO.out _).mono ?_; rintro e w3 ⟨rfl, hw3⟩
      have b3 := chain b2 hw3
      have I0 := Lib.hid ((J0.out.below hw3).stay (heap_alloc_old w3 (.cells #[.int .i64 rt, sv rl] 29) (J0.out.below hw3).lt))
      have I1 := Lib.hid ((J1.out.below hw3).stay (heap_alloc_old w3 (.cells #[.int .i64 rt, sv rl] 29) (J1.out.below hw3).lt))
      have b4 := b3.alloc b3.size (.cells #[.int .i64 rt, sv rl] 29)
      have lt3 := (J1.out.below hw3).lt
      have I8 : RootC (w3.alloc (.cells #[.int .i64 rt, sv rl] 29)) w3.heap.size rt rl := heap_alloc_new _ _
      have HI8 := Lib.hid I8
      clear hw3 J0 J1 HL2
      have hnw : ∀ (o' : Int × List UInt8), nwStep (ot, ol) (q : Int) R = o' → RootC (w3.alloc (.cells #[.int .i64 rt, sv rl] 29)) (w.heap.size + 1) o'.1 o'.2 → RootC (w3.alloc (.cells #[.int .i64 rt, sv rl] 29)) (w.heap.size + 1) (nwQ (d.look 0) (d.look 1) (q + 1)).1 (nwQ (d.look 0) (d.look 1) (q + 1)).2 := fun o' h1 h2 => by
        rw [HST.out, HRQ.out, h1]
        exact h2
      have HNW := Lib.hid hnw
      clear hnw
      by_cases hE : roE R = 0
      · have hE' : (roE R == 0) = true := by simp [hE]
        obtain ⟨et, el⟩ := HRT.out hE
        have HE := Lib.hid hE
        have HT := Lib.hid et
        have HL := Lib.hid el
        by_cases hp : plV rt = (q : Int)
        · have hp' : (plV rt == (q : Int)) = true := by simp [hp]
          have HP := Lib.hid hp
          obtain ⟨X3, hX3⟩ : ∃ X3 : World, X3 = w3.alloc (.cells #[.int .i64 rt, sv rl] 29) := ⟨_, rfl⟩
          have hn : w3.heap.size < X3.heap.size := by rw [hX3]; simp
          by_cases hg : ot < rt
          · have HG := Lib.hid hg
            clear hE et el hp
            go_wp2_with fail
            refine (place_any rt _).mono ?_; rintro e w5 ⟨rfl, rfl⟩
            rw [← hX3] at HI8 I1 I0 HNW b4 ⊢
            clear hX3 I8
            obtain ⟨x0, x1, x2, x3⟩ := HI8.out.cells
            obtain ⟨y0, y1, y2, y3⟩ := I1.out.cells
            go_wp2_with fail
            go_roundw
            case rel =>
              refine ⟨q + 1, by omega, by go_num, I0.out.stay2 (by omega) _ _, ?_, ?_⟩
              · have h1 : nwStep (ot, ol) (q : Int) R = (rt, rl) := by
                  unfold nwStep
                  rw [if_pos ⟨HE.out, by rw [← HT.out]; exact HP.out, by rw [← HT.out]; exact HG.out⟩, HT.out, HL.out]
                rw [HST.out, HRQ.out, h1]
                exact I1.out.set rt rl
              · exact (b4.setCell (by show w.heap.size ≤ w.heap.size + 1; omega) _).setCell (by show w.heap.size ≤ w.heap.size + 1; omega) _
            case measure => simp [intOf]; omega
          · have hg' : decide (ot < rt) = false := by simp [hg]
            have HG := Lib.hid hg
            clear hE et el hp hg
            go_wp2_with fail
            refine (place_any rt _).mono ?_; rintro e w5 ⟨rfl, rfl⟩
            rw [← hX3] at HI8 I1 I0 HNW b4 ⊢
            clear hX3 I8
            obtain ⟨x0, x1, x2, x3⟩ := HI8.out.cells
            obtain ⟨y0, y1, y2, y3⟩ := I1.out.cells
            go_wp2_with fail
            go_roundw
            case rel => exact ⟨q + 1, by omega, by go_num, I0.out, HNW.out (ot, ol) (by unfold nwStep; rw [if_neg (fun h => by have h1 := h.2.2; have h2 := HG.out; have h3 := HT.out; dsimp only at h1; omega)]) I1.out, b4⟩
            case measure => simp [intOf]; omega
        · have hp' : (plV rt == (q : Int)) = false := by simp [hp]
          have HP := Lib.hid hp
          clear hE et el hp
          go_wp2_with fail
          refine (place_any rt _).mono ?_; rintro e w5 ⟨rfl, rfl⟩
          go_wp2_with fail
          go_roundw
          case rel => exact ⟨q + 1, by omega, by go_num, I0.out, HNW.out (ot, ol) (by unfold nwStep; rw [if_neg (fun h => HP.out (by rw [HT.out]; exact h.2.1))]) I1.out, b4⟩
          case measure => simp [intOf]; omega
      · have hE' : (roE R == 0) = false := by simp [hE]
        have HE := Lib.hid hE
        clear hE
        go_wp2_with fail
        go_roundw
        case rel => exact ⟨q + 1, by omega, by go_num, I0.out, HNW.out (ot, ol) (by unfold nwStep; rw [if_neg (fun h => HE.out h.1)]) I1.out, b4⟩
        case measure => simp [intOf]; omega
    · obtain rfl : q = 2 := by omega
      obtain ⟨x0, x1, x2, x3⟩ := hn1.cells
      obtain ⟨z0, z1, z2, z3⟩ := hn0.cells
      have hv : newV (d.look 0) (d.look 1) = if (nwQ (d.look 0) (d.look 1) 2).1 = 0 then .tuple #[rootV 0 [], .int .i64 5] else .tuple #[rootV (nwQ (d.look 0) (d.look 1) 2).1 (nwQ (d.look 0) (d.look 1) 2).2, .int .i64 0] := rfl
      have lt0 := hn0.lt
      have lt1 := hn1.lt
      generalize nwQ (d.look 0) (d.look 1) 2 = o at *
      obtain ⟨ot, ol⟩ := o
      dsimp only at x0 x1 hv ht0
      have HV := Lib.hid hv
      have hb8 : ∀ u v, Below w.heap.size w ((wr.setCell ⟨w.heap.size, 0, none⟩ u).setCell ⟨w.heap.size, 1, none⟩ v) := fun u v => (hb.setCell (Nat.le_refl _) _).setCell (Nat.le_refl _) _
      have HB8 := Lib.hid hb8
      have hm : ∀ t l, (wr.setCell ⟨w.heap.size, 0, none⟩ (.int .i64 t)).cell? ⟨w.heap.size, 0, none⟩ = some (.int .i64 t) ∧ ((wr.setCell ⟨w.heap.size, 0, none⟩ (.int .i64 t)).setCell ⟨w.heap.size, 1, none⟩ (sv l)).cell? ⟨w.heap.size, 1, none⟩ = some (sv l) := fun t l =>
        ⟨(cell_of_row _ w.heap.size 0 _ _ _ (heap_setCell_same wr w.heap.size 0 _ _ (.int .i64 t) hn0)).trans rfl, (hn0.set t l).cells.2.1⟩
      have HM := Lib.hid hm
      clear hv hm hb8 hn0 hn1 HN0 HN1 H0
      by_cases h0 : ot = 0
      · subst h0
        go_wp2_with fail
        obtain ⟨m0, m1⟩ := HM.out 0 []
        ((try simp only [Exit.inBlock, Exit.then]); refine bodyPost_ret (by simp [results, Try.results24, go_sem, m0, m1]; try rfl) rfl ?_)
        exact ⟨by rw [HV.out, if_pos trivial], HB8.out _ _⟩
      · have h0' : (ot == 0) = false := by simp [h0]
        have H0 := Lib.hid h0
        clear h0
        go_wp2_with fail
        obtain ⟨m0, m1⟩ := HM.out ot ol
        ((try simp only [Exit.inBlock, Exit.then]); refine bodyPost_ret (by simp [results, Try.results24, go_sem, m0, m1]; try rfl) rfl ?_)
        exact ⟨by rw [HV.out, if_neg H0.out], HB8.out _ _⟩
end Go.Proofs.Yteoomhkdffnkkaa
