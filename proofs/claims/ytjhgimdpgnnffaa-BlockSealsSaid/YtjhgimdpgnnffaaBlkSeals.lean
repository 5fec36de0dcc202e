/- BlockSeals: the sealed block of anything is the document's, or it is refused; any block is opened, summed, pointed to and checked as the document says: for every kind, birth, body, block, place and pointer the law returns true. Conditions: none. -/
import Derived.Test.YtjhgimdpgnnffaaBlkArgs
import Derived.Test.YtjhgimdpgnnffaaBlkAwake
import Derived.Deep.DeepCutAuto
namespace Go.Proofs.Ytjhgimdpgnnffaa
set_option linter.unusedVariables false
set_option linter.unusedSimpArgs false
open Go.ChangeShapes Go.WideShapes Go.ChangeAt Go.RowKit Pl
attribute [local go_sem] ba_toList ba_size zeroValueB

set_option maxRecDepth 100000 in
set_option maxHeartbeats 6400000 in
theorem seals_any (k : UInt8) (b : Int) (l : List UInt8) (x : List UInt8) (at_ : Int) (pa pb ps : Int) (w : World) (hl : l.length ≤ maxLen) (hx : x.length = 512) :
    Calls Try.prog 3 #[.int .u8 (k.toNat : Int), .int .i64 b, sv l, blk x, .int .i64 at_, ptrV pa pb ps] w fun e w' => e = .returned (.bool true) ∧ Below w.heap.size w w' := by
  unfold maxLen at hl
  have X0 := Lies.new w x _ rfl
  have p0 := cell_new (w.alloc (.cells (ac x) 23)) #[.int .i64 pa, .int .i64 pb, .int .u64 ps] 26 (w.heap.size + 1) 0 (by simp)
  have p1 := cell_new (w.alloc (.cells (ac x) 23)) #[.int .i64 pa, .int .i64 pb, .int .u64 ps] 26 (w.heap.size + 1) 1 (by simp)
  have p2 := cell_new (w.alloc (.cells (ac x) 23)) #[.int .i64 pa, .int .i64 pb, .int .u64 ps] 26 (w.heap.size + 1) 2 (by simp)
  have HX := Lib.hid (X0.alloc (.cells #[.int .i64 pa, .int .i64 pb, .int .u64 ps] 26))
  have HP := Lib.hid (And.intro p0 (And.intro p1 p2))
  have HXL := Lib.hid hx
  clear X0 p0 p1 p2 hx
  by_cases h1 : (2000 : Int) < (l.length : Int)
  · go_enter Try.func3, Try.ntmps3
    go_wp2_with fail
    go_wp2_with fail
    refine (awake_any _).mono ?_; rintro e w1 ⟨rfl, hw1⟩
    have b1 : Below w.heap.size w w1 := chain (by repeat' (first | (with_reducible exact Below.refl _ _) | (with_reducible assumption) | (with_reducible refine below_drewN ?_ _) | (with_reducible refine Below.alloc ?_ ?_ _) | (with_reducible refine Below.drew ?_) | (with_reducible refine Below.setCell ?_ ?_ _) | go_size)) hw1
    have s1 := b1.size
    go_wp2_with fail
    go_ret
    exact ⟨rfl, by assumption⟩
  have hLs := sealL_len k b l
  have SA := fun W : World => seal_any k b l W (by omega)
  have RA := fun W : World => rseal_any k b l W (by omega)
  have HLs := Lib.hid hLs
  generalize sealL k b l = L at *
  generalize sealE b l = E at *
  have GA := Lib.hid SA
  have GR := Lib.hid RA
  have q := fun W : World => run_eq_blk L L hLs hLs W
  have hqq : (L == L) = true := by simp
  rw [hqq] at q
  have hee : (E != E) = false := by simp
  clear SA RA hLs hqq
  go_enter Try.func3, Try.ntmps3
  go_wp2_with fail
  refine (GA.out _).mono ?_; rintro e w1 ⟨rfl, hw1⟩
  have b1 : Below w.heap.size w w1 := chain (by repeat' (first | (with_reducible exact Below.refl _ _) | (with_reducible assumption) | (with_reducible refine below_drewN ?_ _) | (with_reducible refine Below.alloc ?_ ?_ _) | (with_reducible refine Below.drew ?_) | (with_reducible refine Below.setCell ?_ ?_ _) | go_size)) hw1
  have s1 := b1.size
  have HX1 := Lib.hid (HX.out.below hw1)
  have HZ := Lib.hid (Lies.new w1 (zs 512) _ rfl)
  go_wp2_with (with_reducible refine wpList_store_blk (m := L) rfl _ _ rfl rfl rfl HZ.out (zs_len 512) HLs.out ?_)
  intro w2 h2 g2
  have b2 : Below w.heap.size w w2 := below_row (by repeat' (first | (with_reducible exact Below.refl _ _) | (with_reducible assumption) | (with_reducible refine below_drewN ?_ _) | (with_reducible refine Below.alloc ?_ ?_ _) | (with_reducible refine Below.drew ?_) | (with_reducible refine Below.setCell ?_ ?_ _) | go_size)) g2 (by go_size) s1
  have s2 := b2.size
  have H2 := Lib.hid h2
  have HX2 := Lib.hid ((HX1.out.alloc (.cells (ac (zs 512)) 23)).but g2 (by have := HX1.out.lt; simp; omega))
  clear h2
  go_wp2_with fail
  refine (GR.out _).mono ?_; rintro e w3 ⟨rfl, hw3⟩
  have b3 : Below w.heap.size w w3 := chain (by repeat' (first | (with_reducible exact Below.refl _ _) | (with_reducible assumption) | (with_reducible refine below_drewN ?_ _) | (with_reducible refine Below.alloc ?_ ?_ _) | (with_reducible refine Below.drew ?_) | (with_reducible refine Below.setCell ?_ ?_ _) | go_size)) hw3
  have s3 := b3.size
  have HZ3 := Lib.hid (Lies.new w3 (zs 512) _ rfl)
  go_wp2_with (with_reducible refine wpList_store_blk (m := L) rfl _ _ rfl rfl rfl HZ3.out (zs_len 512) HLs.out ?_)
  intro w4 h4 g4
  have b4 : Below w.heap.size w w4 := below_row (by repeat' (first | (with_reducible exact Below.refl _ _) | (with_reducible assumption) | (with_reducible refine below_drewN ?_ _) | (with_reducible refine Below.alloc ?_ ?_ _) | (with_reducible refine Below.drew ?_) | (with_reducible refine Below.setCell ?_ ?_ _) | go_size)) g4 (by go_size) (chain b2 hw3).size
  have hlt13 := H2.out.lt
  have hne13 : w1.heap.size ≠ w3.heap.size := by have := hw3.size; omega
  have H13 := Lib.hid (((H2.out.below hw3).alloc (.cells (ac (zs 512)) 23)).but g4 (fun e => hne13 (Option.some.inj e)))
  have hne9 : w.heap.size ≠ w3.heap.size := by have := HX2.out.lt; have := hw3.size; omega
  have HX4 := Lib.hid (((HX2.out.below hw3).alloc (.cells (ac (zs 512)) 23)).but g4 (fun e => hne9 (Option.some.inj e)))
  have H4 := Lib.hid h4
  have HQ := Lib.hid q
  have HB12 : Below ((w.alloc (.cells (ac x) 23)).alloc (.cells #[.int .i64 pa, .int .i64 pb, .int .u64 ps] 26)).heap.size ((w.alloc (.cells (ac x) 23)).alloc (.cells #[.int .i64 pa, .int .i64 pb, .int .u64 ps] 26)) w4 := by
    have c1 := hw1
    have hs1 : ((w.alloc (.cells (ac x) 23)).alloc (.cells #[.int .i64 pa, .int .i64 pb, .int .u64 ps] 26)).heap.size ≤ w1.heap.size := hw1.size
    have c2 := below_row (hw1.alloc hs1 (.cells (ac (zs 512)) 23)) g2 (by simp; simp at hs1; omega) hs1
    have c3 := chain c2 hw3
    exact below_row (c3.alloc c3.size (.cells (ac (zs 512)) 23)) g4 (by have := c3.size; simp at this ⊢; omega) c3.size
  have P4 : w4.cell? ⟨w.heap.size + 1, 0, none⟩ = some (.int .i64 pa) ∧ w4.cell? ⟨w.heap.size + 1, 1, none⟩ = some (.int .i64 pb) ∧ w4.cell? ⟨w.heap.size + 1, 2, none⟩ = some (.int .u64 ps) ∧ w.heap.size + 1 < w4.heap.size := by
    obtain ⟨q0, q1, q2⟩ := HP.out
    have := HB12.size
    simp only [World.size_alloc] at this
    exact ⟨(HB12.cell (p := ⟨w.heap.size + 1, 0, none⟩) (by simp)).trans q0, (HB12.cell (p := ⟨w.heap.size + 1, 1, none⟩) (by simp)).trans q1, (HB12.cell (p := ⟨w.heap.size + 1, 2, none⟩) (by simp)).trans q2, by omega⟩
  have HP4 := Lib.hid P4
  clear h4 q P4 HB12 hne9 hne13 hlt13
  have q := HQ.out
  go_wp2_with (first | (with_reducible refine wpList_load_blk rfl _ rfl rfl H13.out HLs.out ?_) | (with_reducible refine wpList_load_blk rfl _ rfl rfl H4.out HLs.out ?_) | (with_reducible refine wpList_load_blk rfl _ rfl rfl HX4.out HXL.out ?_) | (with_reducible refine wpList_two_blk rfl _ _ rfl rfl rfl HXL.out HLs.out ?_))
  intro w5 r0 r1 hw5
  go_wp2_with fail
  have b5 : Below w.heap.size w w5 := chain b4 hw5
  have lt4 : w4.heap.size < w5.heap.size := by
    have h := r0 0 (.int .u8 ((x[0]'(by have := HXL.out; omega)).toNat : Int)) (bc_get _ _ _)
    exact World.block_lt_of_cell? w5 _ h
  have R01 := Lib.hid (And.intro r0 r1)
  have P5 : w5.cell? ⟨w.heap.size + 1, 0, none⟩ = some (.int .i64 pa) ∧ w5.cell? ⟨w.heap.size + 1, 1, none⟩ = some (.int .i64 pb) ∧ w5.cell? ⟨w.heap.size + 1, 2, none⟩ = some (.int .u64 ps) ∧ w.heap.size + 1 < w5.heap.size := by
    obtain ⟨q0, q1, q2, q3⟩ := HP4.out
    exact ⟨(hw5.cell (p := ⟨w.heap.size + 1, 0, none⟩) q3).trans q0, (hw5.cell (p := ⟨w.heap.size + 1, 1, none⟩) q3).trans q1, (hw5.cell (p := ⟨w.heap.size + 1, 2, none⟩) q3).trans q2, by omega⟩
  have HP5 := Lib.hid P5
  clear r0 r1 P5 q HX HP HX1 HX2 HX4 H2 H4 H13 HZ HZ3 HP4 hw1 hw3 g2 g4 HQ GA GR h1
  go_loopw [67] (fun i W => ∃ q : Nat, q ≤ 2 ∧ i = .int .i64 q ∧ Below w5.heap.size w5 W) (fun i _ => 2 - (intOf i).toNat)
  case atStart => exact ⟨0, by omega, rfl, Below.refl _ _⟩
  case round =>
    obtain ⟨q, hq, rfl, hbr⟩ := hrel
    by_cases hlt : q < 2
    · have hq1 : (q : Int) < 2 := by omega
      obtain ⟨X, hX, hXl⟩ : ∃ X : List UInt8, (X = if q = 0 then x else L) ∧ X.length = 512 := ⟨_, rfl, by by_cases h : q = 0; (rw [if_pos h]; exact HXL.out); (rw [if_neg h]; exact HLs.out)⟩
      have HXX := Lib.hid hX
      have HXl := Lib.hid hXl
      clear hX hXl
      have rX : wr.rangeAt w4.heap.size (q * 512) (bc X) := by
        obtain ⟨r0, r1⟩ := R01.out
        obtain rfl | rfl : q = 0 ∨ q = 1 := by omega
        · rw [HXX.out, if_pos rfl]; exact range_below r0 lt4 hbr
        · rw [HXX.out, if_neg (by decide)]; exact range_below r1 lt4 hbr
      have RX := Lib.hid rX
      have HZr := Lib.hid (Lies.new wr (zs 512) _ rfl)
      obtain ⟨K, N, S, Eo, hO⟩ := openV_form X
      have OA := fun W : World => open_any X W HXl.out
      have OB := fun W : World => ropen_any X W HXl.out
      rw [hO] at OA OB
      have GOA := Lib.hid OA
      have GOB := Lib.hid OB
      clear rX OA OB hO
      go_wp2_with fail
      refine wp_load_mid 23 _ rfl _ _ rfl (bc X) _ RX.out Try.underlying23 rfl (by rw [info_blk, bc_length, HXl.out]) ?_
      go_wp2_with (with_reducible refine wpList_store_blk (m := X) rfl _ _ rfl rfl rfl HZr.out (zs_len 512) HXl.out ?_)
      intro wa ha ga
      have ba : Below w5.heap.size w5 wa := below_row (hbr.alloc hbr.size _) ga (by have := hbr.size; simp; omega) hbr.size
      have Ha := Lib.hid ha
      clear ha ga
      go_wp2_with (with_reducible refine wpList_load_blk rfl _ rfl rfl Ha.out HXl.out ?_)
      refine (GOA.out _).mono ?_; rintro e wb ⟨rfl, hwb⟩
      have bb := chain ba hwb
      have Hb := Lib.hid (Ha.out.below hwb)
      go_wp2_with (with_reducible refine wpList_load_blk rfl _ rfl rfl Hb.out HXl.out ?_)
      refine (GOB.out _).mono ?_; rintro e wc ⟨rfl, hwc⟩
      have bc' := chain bb hwc
      have Hc := Lib.hid (Hb.out.below hwc)
      go_wp2_with fail
      refine wp_region_ext (by kernel_rfl) (by kernel_rfl) ?_
      repeat (first
        | (go_big_quiet_want; refine quiet_load_blk rfl rfl (fun W ⟨n, e⟩ => by rw [e]; exact Hc.out.below n.below) HXl.out ?_; go_simp; go_big_quiet_on)
        | go_big_quiet_step ((first | (go_at_call 14; exact Ext.of_call (bsum_any X _ HXl.out)) | (go_at_call 15; exact Ext.of_call (rbsum_any X _ HXl.out)))))
      refine wpQuiet_nil ?_
      intro n1
      have hn1 := n1.below
      generalize n1.W = wd at *
      have bd := chain bc' hn1
      have Hd := Lib.hid (Hc.out.below hn1)
      obtain ⟨A, B, S2, E2, hT⟩ := toV_form at_ X
      have TA := fun W : World => to_any at_ X W HXl.out
      have TB := fun W : World => rto_any at_ X W HXl.out
      rw [hT] at TA TB
      have GTA := Lib.hid TA
      have GTB := Lib.hid TB
      clear TA TB hT
      go_wp2_with (with_reducible refine wpList_load_blk rfl _ rfl rfl Hd.out HXl.out ?_)
      refine (GTA.out _).mono ?_; rintro e we ⟨rfl, hwe⟩
      have be := chain bd hwe
      have He := Lib.hid ((Hd.out.below hwe).alloc (.cells #[.int .i64 A, .int .i64 B, .int .u64 S2] 26))
      go_wp2_with (with_reducible refine wpList_load_blk rfl _ rfl rfl He.out HXl.out ?_)
      refine (GTB.out _).mono ?_; rintro e wf ⟨rfl, hwf⟩
      have k0 : wf.cell? ⟨we.heap.size, 0, none⟩ = some (.int .i64 A) := (hwf.cell (p := ⟨we.heap.size, 0, none⟩) (by simp)).trans (by simp)
      have k1 : wf.cell? ⟨we.heap.size, 1, none⟩ = some (.int .i64 B) := (hwf.cell (p := ⟨we.heap.size, 1, none⟩) (by simp)).trans (by simp)
      have k2 : wf.cell? ⟨we.heap.size, 2, none⟩ = some (.int .u64 S2) := (hwf.cell (p := ⟨we.heap.size, 2, none⟩) (by simp)).trans (by simp)
      have kl : we.heap.size < wf.heap.size := by have := hwf.size; simp at this; omega
      have bf : Below w5.heap.size w5 wf := chain (be.alloc be.size _) hwf
      have Hf := Lib.hid (He.out.below hwf)
      go_wp2_with fail
      obtain ⟨X8, hX8⟩ : ∃ X8 : World, X8 = wf.alloc (.cells #[.int .i64 A, .int .i64 B, .int .u64 S2] 26) := ⟨_, rfl⟩
      have b8 : Below w5.heap.size w5 X8 := by rw [hX8]; exact bf.alloc bf.size _
      have old : ∀ W : World, Below X8.heap.size X8 W → W.cell? ⟨w.heap.size + 1, 0, none⟩ = some (.int .i64 pa) ∧ W.cell? ⟨w.heap.size + 1, 1, none⟩ = some (.int .i64 pb) ∧ W.cell? ⟨w.heap.size + 1, 2, none⟩ = some (.int .u64 ps) ∧
          W.cell? ⟨wf.heap.size, 0, none⟩ = some (.int .i64 A) ∧ W.cell? ⟨wf.heap.size, 1, none⟩ = some (.int .i64 B) ∧ W.cell? ⟨wf.heap.size, 2, none⟩ = some (.int .u64 S2) ∧ W.rangeAt wr.heap.size 0 (bc X) := by
        intro W hW
        have hw := b8.trans (hW.mono b8.size)
        obtain ⟨q0, q1, q2, q3⟩ := HP5.out
        have lx : wf.heap.size < X8.heap.size := by rw [hX8]; simp
        have c0 := hW.cell (p := ⟨wf.heap.size, 0, none⟩) lx
        have c1 := hW.cell (p := ⟨wf.heap.size, 1, none⟩) lx
        have c2 := hW.cell (p := ⟨wf.heap.size, 2, none⟩) lx
        have lX : Lies X8 wr.heap.size X := by rw [hX8]; exact Hf.out.alloc _
        rw [hX8] at c0 c1 c2
        exact ⟨(hw.cell (p := ⟨w.heap.size + 1, 0, none⟩) q3).trans q0, (hw.cell (p := ⟨w.heap.size + 1, 1, none⟩) q3).trans q1, (hw.cell (p := ⟨w.heap.size + 1, 2, none⟩) q3).trans q2, c0.trans (by simp), c1.trans (by simp), c2.trans (by simp), (lX.below hW).range⟩
      have lX8 : Lies X8 wr.heap.size X := by rw [hX8]; exact Hf.out.alloc _
      have LX8 := Lib.hid lX8
      have OLX := Lib.hid old
      have hu := Try.underlying23
      have hi : (Try.prog.info? 23).map (·.size) = some (bc X).length := by rw [info_blk, bc_length, HXl.out]
      have hc5 : (bc X).length = 512 := by rw [bc_length, HXl.out]
      have h1c := bc_one X
      have SB := fun W : World => rbsum_any X W HXl.out
      have GSB := Lib.hid SB
      rw [← hX8]
      clear old SB k0 k1 k2 kl hX8 lX8
      go_region_held3 (fun W => Below X8.heap.size X8 W ∧ W.cell? ⟨w.heap.size + 1, 0, none⟩ = some (.int .i64 pa) ∧ W.cell? ⟨w.heap.size + 1, 1, none⟩ = some (.int .i64 pb) ∧ W.cell? ⟨w.heap.size + 1, 2, none⟩ = some (.int .u64 ps) ∧ W.cell? ⟨wf.heap.size, 0, none⟩ = some (.int .i64 A) ∧ W.cell? ⟨wf.heap.size, 1, none⟩ = some (.int .i64 B) ∧ W.cell? ⟨wf.heap.size, 2, none⟩ = some (.int .u64 S2) ∧ W.rangeAt wr.heap.size 0 (bc X))
        ((refine (fun hB => ⟨hB, OLX.out _ hB⟩) ?_; first | exact (Below.refl _ _).drew | (with_reducible assumption) | ((try go_split_ands); with_reducible assumption) | exact Below.alloc bq bq.size _))
        ((go_at_call 15; refine (GSB.out _).mono ?_; rintro r w' ⟨rfl, hw'⟩; (try go_split_ands); have bq : Below X8.heap.size X8 w' := chain (by with_reducible assumption) hw'))
      have bq9 : Below X8.heap.size X8 w' := by (try go_split_ands); with_reducible assumption
      have b9 := b8.trans (bq9.mono b8.size)
      obtain ⟨XI, hXI⟩ : ∃ XI : World, XI = w'.alloc (.cells #[.int .i64 pa, .int .i64 pb, .int .u64 ps, .int .i64 A, .int .i64 B, .int .u64 S2, .int .i64 5, .int .i64 pb, .int .u64 (bSum X)] 26) := ⟨_, rfl⟩
      have bI : Below w5.heap.size w5 XI := by rw [hXI]; exact b9.alloc b9.size _
      have lI : w'.heap.size < XI.heap.size := by rw [hXI]; simp
      have cI : ∀ j, j < 3 → ∃ y0 y1 y2 : Int, XI.cell? ⟨w'.heap.size, j * 3, none⟩ = some (.int .i64 y0) ∧ XI.cell? ⟨w'.heap.size, j * 3 + 1, none⟩ = some (.int .i64 y1) ∧ XI.cell? ⟨w'.heap.size, j * 3 + 2, none⟩ = some (.int .u64 y2) := by
        intro j hj
        rw [hXI]
        obtain rfl | rfl | rfl : j = 0 ∨ j = 1 ∨ j = 2 := by omega
        · exact ⟨pa, pb, ps, by simp, by simp, by simp⟩
        · exact ⟨A, B, S2, by simp, by simp, by simp⟩
        · exact ⟨5, pb, bSum X, by simp, by simp, by simp⟩
      have XXI : Lies XI wr.heap.size X := by
        rw [hXI]
        exact (LX8.out.below bq9).alloc _
      have HXI := Lib.hid XXI
      have HcI := Lib.hid cI
      rw [← hXI]
      clear XXI cI hXI
      obtain ⟨wo, rfl⟩ : ∃ wo : World, wo = wr := ⟨_, rfl⟩
      go_wp2_with fail
      go_loopw [139] (fun i W => ∃ j : Nat, j ≤ 3 ∧ i = .int .i64 j ∧ Below XI.heap.size XI W) (fun i _ => 3 - (intOf i).toNat)
      case atStart => exact ⟨0, by omega, rfl, Below.refl _ _⟩
      case round =>
        obtain ⟨j, hj, rfl, hbi⟩ := hrel
        by_cases hlt3 : j < 3
        · have hj1 : (j : Int) < 3 := by omega
          obtain ⟨y0, y1, y2, c0, c1, c2⟩ := HcI.out j hlt3
          have c0 := (hbi.cell (p := ⟨w'.heap.size, j * 3, none⟩) lI).trans c0
          have c1 := (hbi.cell (p := ⟨w'.heap.size, j * 3 + 1, none⟩) lI).trans c1
          have c2 := (hbi.cell (p := ⟨w'.heap.size, j * 3 + 2, none⟩) lI).trans c2
          obtain ⟨K3, S3, E3, hC⟩ := chV_form y0 y1 y2 X
          have CA := fun W : World => check_any y0 y1 y2 X W HXl.out
          have CB := fun W : World => rcheck_any y0 y1 y2 X W HXl.out
          rw [hC] at CA CB
          have GCA := Lib.hid CA
          have GCB := Lib.hid CB
          have Hg := Lib.hid ((HXI.out.below hbi).alloc (.cells #[.int .i64 y0, .int .i64 y1, .int .u64 y2] 26))
          clear CA CB hC
          go_wp2_with (with_reducible refine wpList_load_blk rfl _ rfl rfl Hg.out HXl.out ?_)
          refine (GCA.out _).mono ?_; rintro e wg ⟨rfl, hwg⟩
          have bg : Below XI.heap.size XI wg := chain (hbi.alloc hbi.size _) hwg
          have m0 : wg.cell? ⟨wr.heap.size, 0, none⟩ = some (.int .i64 y0) := (hwg.cell (p := ⟨wr.heap.size, 0, none⟩) (by simp)).trans (by simp)
          have m1 : wg.cell? ⟨wr.heap.size, 1, none⟩ = some (.int .i64 y1) := (hwg.cell (p := ⟨wr.heap.size, 1, none⟩) (by simp)).trans (by simp)
          have m2 : wg.cell? ⟨wr.heap.size, 2, none⟩ = some (.int .u64 y2) := (hwg.cell (p := ⟨wr.heap.size, 2, none⟩) (by simp)).trans (by simp)
          have Hh := Lib.hid (Hg.out.below hwg)
          clear c0 c1 c2
          go_wp2_with (with_reducible refine wpList_load_blk rfl _ rfl rfl Hh.out HXl.out ?_)
          refine (GCB.out _).mono ?_; rintro e wh ⟨rfl, hwh⟩
          have bh : Below XI.heap.size XI wh := chain bg hwh
          clear m0 m1 m2
          go_wp2_with fail
          go_roundw
          case rel => exact ⟨j + 1, by omega, by go_num, bh⟩
          case measure => simp [intOf]; omega
        · obtain rfl : j = 3 := by omega
          go_wp2_with fail
          go_roundw
          case rel => exact ⟨q + 1, by omega, by go_num, bI.trans (hbi.mono bI.size)⟩
          case measure => simp [intOf]; omega
    · obtain rfl : q = 2 := by omega
      have bwr : Below w.heap.size w wr := chain b5 hbr
      go_wp2_with fail
      refine (awake_any _).mono ?_; rintro e w9 ⟨rfl, hw9⟩
      go_wp2_with fail
      go_ret
      exact ⟨rfl, chain bwr hw9⟩

theorem seals_walk : Walks Try.prog 3 Try.f3 := by
  intro H enc W args ds p base hval hA hz
  rw [Try.params3] at hA hval
  obtain ⟨v0, vs1, d0, ds1, p0, q0, ha0, rfl, rfl, h0, hA⟩ := trodAll_cons hA
  obtain ⟨v1, vs2, d1, ds2, p1, q1, rfl, rfl, rfl, h1, hA⟩ := trodAll_cons hA
  obtain ⟨v2, vs3, d2, ds3, p2, q2, rfl, rfl, rfl, h2, hA⟩ := trodAll_cons hA
  obtain ⟨v3, vs4, d3, ds4, p3, q3, rfl, rfl, rfl, h3, hA⟩ := trodAll_cons hA
  obtain ⟨v4, vs5, d4, ds5, p4, q4, rfl, rfl, rfl, h4, hA⟩ := trodAll_cons hA
  obtain ⟨v5, vs6, d5, ds6, p5, q5, rfl, rfl, rfl, h5, hA⟩ := trodAll_cons hA
  obtain ⟨rfl, rfl, rfl⟩ := trodAll_nil hA
  obtain rfl : args = #[v0, v1, v2, v3, v4, v5] := by cases args; simp_all
  obtain ⟨x0, rfl, _, _, w0⟩ := open_int Try.underlying5 (hval 0 _ v0 rfl rfl) h0
  obtain ⟨x1, rfl, _⟩ := open_int Try.underlying3 (hval 1 _ v1 rfl rfl) h1
  obtain ⟨l, rfl, hl⟩ := open_text (hval 2 _ v2 rfl rfl) h2
  obtain ⟨x, rfl, hx⟩ := open_blk (hval 3 _ v3 rfl rfl) h3
  obtain ⟨x4, rfl, _⟩ := open_int Try.underlying3 (hval 4 _ v4 rfl rfl) h4
  obtain ⟨pa, pb, ps, rfl, _⟩ := open_ptr (hval 5 _ v5 rfl rfl) h5
  obtain ⟨a0, a1⟩ := bounds_u8 w0
  have := seals_any (UInt8.ofNat x0.toNat) x1 l x x4 pa pb ps W hl hx
  rw [show (((UInt8.ofNat x0.toNat).toNat : Nat) : Int) = x0 from by rw [ofNat_toNat]; omega] at this
  exact this

theorem BlockSeals_holds : Rows.BlockSealsSaid :=
  OpenClaim.holds_of_wide 3 Try.f3 rfl rfl rfl rfl rfl rfl rfl ⟨rfl, rfl, rfl, rfl, rfl⟩ rfl rfl rfl rfl rfl (by kernel_rfl) Try.func3 (by kernel_rfl)
    (of_decide_eq_true (by kernel_rfl)) (by unfold Func.isWrapper; first | (rw [if_pos (by decide +kernel)]; kernel_rfl) | (rw [if_neg (by decide +kernel)]; exact ⟨rfl, rfl⟩))
    (fun os started H enc _ => law_lifted (C := Try.checked) (s := Rows.blockSealsSpec) own started (by kernel_rfl) Try.func3 laidOut rfl rfl Try.underlying4
      (by have h : ∀ u ∈ Try.f3.params.toList, (Try.prog.readableRec u && decide (u < Try.prog.types.size)) = true := List.all_eq_true.1 (by kernel_rfl)
          intro u hu; have := h u hu; rw [Bool.and_eq_true, decide_eq_true_eq] at this; exact this)
      (by intro H l hl; rw [show Try.f3.params.size = 6 from by rw [Try.params3]; rfl] at hl; match l, hl with | [d0, d1, d2, d3, d4, d5], _ => rfl)
      H enc (ChangeSpec.witness6 (enc := enc) (C := Try.checked) false ⟨#[], #[.int .u8 0, .int .i64 0, .string ⟨#[]⟩, .agg (ac (zs 512)), .int .i64 0, .agg #[.int .i64 0, .int .i64 0, .int .u64 0]], []⟩ 8 (by kernel_rfl) (by kernel_rfl) (by kernel_rfl) (by kernel_rfl)) seals_walk)
#print axioms BlockSeals_holds
end Go.Proofs.Ytjhgimdpgnnffaa
