/- A disk's Flush. Conditions: none. -/
import Derived.Test.YteoomhkdffnkkaaDskFail
namespace Go.Proofs.Yteoomhkdffnkkaa
set_option linter.unusedVariables false
set_option linter.unusedSimpArgs false
open Go.ChangeShapes Go.WideShapes Go.ChangeAt Go.RowKit
set_option maxRecDepth 100000
attribute [local go_sem] zeroValueW
attribute [local simp, local go_sem] wz_ne

theorem DiskAt.rebox {w w' : World} {fp rp : Nat → Prop} {g m : Nat} {d d' : Dk} {v kv : Value} (D : DiskAt w fp rp g d m v kv) (h1 : d'.on = d.on) (h2 : d'.many = d.many) (h3 : d'.wait = d.wait) (h4 : d'.keep = d.keep) (hok : d'.Ok)
    (hb : Box w' g d'.blocks m v d'.cut kv d'.dead) (hg : w.grownBy w' (some g)) : DiskAt w' fp rp g d' m v kv := by
  refine ⟨hok, hb, ?_, ?_, by rw [h3]; exact D.none, ?_, D.fg, D.fm, D.fv, D.fk⟩
  · rw [h1, h2]
    exact D.map.block (hg.block _ D.map.lt (fun e => D.ne_map (Option.some.inj e).symm))
  · rw [h3]
    exact row_stay D.row (fun k hk => hg.block k (D.row.lt k hk).2 (fun e => row_off D.row D.box (by decide) (hk.trans e)))
  · rw [h4]
    exact row_stay D.keep (fun k hk => hg.block k (D.keep.lt k hk).2 (fun e => row_off D.keep D.box (by decide) (hk.trans e)))

theorem Flush_nil (w : World) : Calls Try.prog 26 #[.pointer none] w fun e w' => e = .returned (.int .i64 2) ∧ w = w' := by
  go_enter Try.func26, Try.ntmps26
  go_wp2_with fail
  refine (check_nil w).mono ?_; rintro e w' ⟨rfl, rfl⟩
  go_wp2_with fail
  go_ret
  exact ⟨rfl, rfl⟩
theorem Fail_nil (x : Value) (w : World) : Calls Try.prog 25 #[.pointer none, x] w fun e w' => e = .returned (.int .i64 2) ∧ w = w' := by
  go_enter Try.func25, Try.ntmps25
  go_wp2_with fail
  refine (check_nil w).mono ?_; rintro e w' ⟨rfl, rfl⟩
  go_wp2_with fail
  go_ret
  exact ⟨rfl, rfl⟩

set_option maxHeartbeats 3200000 in
theorem Flush_any {fp rp : Nat → Prop} {g : Nat} {d : Dk} (w : World) (h : DiskV w fp rp g d) :
    Calls Try.prog 26 #[dptr g] w fun e w' => e = .returned (.int .i64 d.flushE) ∧ DiskV w' fp rp g d.flush ∧ GrownIn w w' fp := by
  obtain ⟨m, v, kv, D⟩ := h
  have CK := Lib.hid (check_cell w D.box.cells.2.2.2.2.2)
  have NW := Lib.hid (now_box w D.box D.ok.cut)
  have HD := Lib.hid D
  have TK := Lib.hid D.ok.tick
  unfold Dk.flushE Dk.flush at *
  generalize hdd : d.dead = dd at *
  cases dd with
  | true =>
    rw [if_pos rfl] at CK
    rw [if_pos rfl, if_pos rfl]
    clear D
    go_enter Try.func26, Try.ntmps26
    go_wp2_with fail
    refine (CK.out).mono ?_; rintro e w' ⟨rfl, rfl⟩
    go_wp2_with fail
    go_ret
    exact ⟨rfl, ⟨m, v, kv, HD.out⟩, GrownIn.refl _ _⟩
  | false =>
    have ff : ¬ (false = true) := by decide
    rw [if_neg ff] at CK
    rw [if_neg ff, if_neg ff]
    clear ff
    have hfg := D.fg
    by_cases hc : d.cut = 1
    · rw [if_pos hc, if_pos hc]
      rw [show decide (d.cut = 1) = true from by simp [hc]] at NW
      have hkd : d.tick.failD d.keep = d.tick.fail d.keep ∧ d.tick.failE = 0 := by
        have : d.tick.dead = false := hdd
        unfold Dk.failD Dk.failE
        rw [this]
        exact ⟨rfl, rfl⟩
      obtain ⟨A1, cap1, hkv, _, _, _⟩ := row_form D.keep
      clear D
      go_enter Try.func26, Try.ntmps26
      go_wp2_with fail
      refine (CK.out).mono ?_; rintro e w' ⟨rfl, rfl⟩
      go_wp2_with fail
      refine NW.out.mono ?_; rintro e w1 ⟨rfl, hb1, hg1⟩
      have D1 : DiskAt w1 fp rp g d.tick m v kv := HD.out.rebox rfl rfl rfl rfl TK.out (by show Box w1 g d.blocks m v (d.cut - 1) kv d.dead; rw [hdd]; exact hb1) hg1
      have e4 := hb1.cells.2.2.2.2.1
      have CF := Fail_any kv d.keep w1 ⟨m, v, kv, D1⟩ (BoolsV.of_row D1.keep)
      rw [hkd.1, hkd.2] at CF
      have GF := Lib.hid CF
      have HG := Lib.hid hg1
      rw [hkv] at GF e4
      clear CF D1 hb1 hg1
      go_wp2_with fail
      refine GF.out.mono ?_; rintro e w2 ⟨rfl, hd2, hg2⟩
      have H2 := Lib.hid hd2
      have G2 := Lib.hid hg2
      clear hd2 hg2
      go_wp2_with fail
      go_ret
      exact ⟨rfl, H2.out, (GrownIn.by HG.out hfg).trans (G2.out.mono (fun k _ h => .inl h))⟩
    · rw [if_neg hc, if_neg hc]
      rw [show decide (d.cut = 1) = false from by simp [hc]] at NW
      have hws : d.wait.length ≤ 1073741824 := by have := D.ok.sum; unfold Dk.sum at this; omega
      have hms : d.many + d.wait.length ≤ 1073741824 := D.ok.sum
      have hwl := D.ok.wait
      have HWL := Lib.hid hwl
      obtain ⟨A, cap, hvv, hcap, hcm, hA⟩ := row_form D.row
      subst hvv
      have HA := Lib.hid hA
      have SK := Lib.hid TK.out.settle
      clear D hA hcm hwl
      go_enter Try.func26, Try.ntmps26
      go_wp2_with fail
      refine (CK.out).mono ?_; rintro e w' ⟨rfl, rfl⟩
      go_wp2_with fail
      refine NW.out.mono ?_; rintro e w0 ⟨rfl, hb1, hg1⟩
      have D1 : DiskAt w0 fp rp g d.tick m (.slice A d.wait.length cap) kv := HD.out.rebox rfl rfl rfl rfl TK.out (by show Box w0 g d.blocks m _ (d.cut - 1) kv d.dead; rw [hdd]; exact hb1) hg1
      obtain ⟨_, c1, c2, _, _, _⟩ := D1.box.cells
      have HT := Lib.hid D1
      have HG := Lib.hid hg1
      clear D1 hb1 hg1
      go_wp2_with fail
      go_loopw [24] (fun i W => ∃ q : Nat, q ≤ d.wait.length ∧ i = .int .i64 q ∧ LoopK w0 g d.tick m (.slice A d.wait.length cap) kv W ∧ MapOn W m (Dk.lay d.on (d.wait.take q)) (d.many + q)) (fun i _ => d.wait.length - (intOf i).toNat)
      case atStart => exact ⟨0, by omega, rfl, LoopK.refl, by rw [List.take_zero]; exact HT.out.map⟩
      case round =>
        obtain ⟨q, hq, rfl, hlk, hmp⟩ := hrel
        by_cases hlt : q < d.wait.length
        · obtain ⟨Qb, rfl, _, _⟩ := HA.out (by omega)
          have hr' := range_of_row (hlk.row HT.out)
          have hpw := HWL.out _ (List.getElem_mem hlt)
          have hrx := range_mid (fun p hp => (HWL.out p hp).1) hr' hlt
          have hkt := List.take_succ_eq_append_getElem hlt
          generalize d.wait[q] = p at *
          obtain ⟨hp5, hp0, hp1⟩ := hpw
          have RX := Lib.hid hrx
          have HP := Lib.hid hp5
          have HKT := Lib.hid hkt
          have HLK := Lib.hid hlk
          have HMP := Lib.hid hmp
          have HN := Lib.hid (LiesW.new wr (0, zs 512))
          clear hr' hrx hp5 hkt hlk hmp
          go_wp2_with (first | (with_reducible refine wpList_load_wr rfl _ rfl rfl RX.out HP.out ?_) | (with_reducible refine wpList_store_wr rfl _ _ rfl rfl rfl HN.out (zs_len 512) HP.out ?_))
          intro w1 hl1 g1
          have bl1 : Below wr.heap.size wr w1 := below_row ((Below.refl _ _).alloc (Nat.le_refl _) _) g1 (by simp) (Nat.le_refl _)
          have hlk1 := HLK.out.below (bl1.mono HLK.out.size)
          have hmp1 := HMP.out.block (bl1.block _ HMP.out.lt)
          have HL1 := Lib.hid hl1
          have HK1 := Lib.hid hlk1
          have HM1 := Lib.hid hmp1
          have e1 := (hlk1.box HT.out).cells.2.1
          clear HN g1 bl1 hlk1 hmp1 hl1
          go_wp2_with fail
          have e1' : w1.drew.cell? ⟨g, 1, none⟩ = some (.map (some m)) := e1
          have hl1' : LiesW w1.drew wr.heap.size p := HL1.out
          have hk1' : LoopK w0 g d.tick m (.slice (some ⟨Qb, 0, none⟩) d.wait.length cap) kv w1.drew := HK1.out.below ((Below.refl _ _).drew)
          have hm1' : MapOn w1.drew m (Dk.lay d.on (d.wait.take q)) (d.many + q) := HM1.out.block rfl
          refine wp_region_held_drew (S := fun W => W.cell? ⟨g, 1, none⟩ = some (.map (some m)) ∧ LiesW W wr.heap.size p) (by kernel_rfl) ⟨e1', hl1'⟩ (fun hHeld => ?_)
          generalize w1.drew = V0 at *
          refine wpAnyH_take (i := 0) (oi := _) (v := ?_) rfl (by kernel_rfl) (by kernel_rfl) (by kernel_rfl) (fun _ _ _ h => h) (Or.inl ⟨by rfl, ?_⟩) (by assumption) ?_
          rotate_left
          · (intro w hSw; (try dsimp only at hSw); (try go_split_ands); go_simp; (try with_reducible rfl))
          (try simp only [List.getElem_toArray, List.getElem_cons_zero, List.getElem_cons_succ, Act.put, List.setIfInBounds_toArray, List.set_cons_zero, List.set_cons_succ])
          refine wpAnyH_take (i := 1) (oi := _) (v := ?_) rfl (by kernel_rfl) (by kernel_rfl) (by kernel_rfl) (fun _ _ _ h => h) (Or.inl ⟨by rfl, ?_⟩) (by assumption) ?_
          rotate_left
          · (intro w hSw; (try dsimp only at hSw); (try go_split_ands); go_simp; (try with_reducible rfl))
          (try simp only [List.getElem_toArray, List.getElem_cons_zero, List.getElem_cons_succ, Act.put, List.setIfInBounds_toArray, List.set_cons_zero, List.set_cons_succ])
          refine wpAnyH_take (i := 2) (oi := _) (v := ?_) rfl (by kernel_rfl) (by kernel_rfl) (by kernel_rfl) (fun _ _ _ h => h) (Or.inl ⟨by rfl, ?_⟩) (by assumption) ?_
          rotate_left
          · (intro w hSw; (try dsimp only at hSw); (try go_split_ands); go_simp; (try with_reducible rfl))
          (try simp only [List.getElem_toArray, List.getElem_cons_zero, List.getElem_cons_succ, Act.put, List.setIfInBounds_toArray, List.set_cons_zero, List.set_cons_succ])
          refine wpAnyH_take (i := 3) (oi := _) (v := ?_) rfl (by kernel_rfl) (by kernel_rfl) (by kernel_rfl) (fun _ _ _ h => h) (Or.inl ⟨by rfl, ?_⟩) (by assumption) ?_
          rotate_left
          · (intro w hSw; (try dsimp only at hSw); (try go_split_ands); go_simp; (try with_reducible rfl))
          (try simp only [List.getElem_toArray, List.getElem_cons_zero, List.getElem_cons_succ, Act.put, List.setIfInBounds_toArray, List.set_cons_zero, List.set_cons_succ])
          refine wpAnyH_take (i := 4) (oi := _) (v := ?_) rfl (by kernel_rfl) (by kernel_rfl) (by kernel_rfl) (fun _ _ _ h => h) (Or.inl ⟨by rfl, ?_⟩) (by assumption) ?_
          rotate_left
          · (intro w hSw; (try dsimp only at hSw); (try go_split_ands); go_simp; (try with_reducible rfl))
          (try simp only [List.getElem_toArray, List.getElem_cons_zero, List.getElem_cons_succ, Act.put, List.setIfInBounds_toArray, List.set_cons_zero, List.set_cons_succ])
          refine wpAnyH_take (i := 5) (oi := _) (v := ?_) rfl (by kernel_rfl) (by kernel_rfl) (by kernel_rfl) (fun _ _ _ h => h) (Or.inl ⟨by rfl, ?_⟩) (by assumption) ?_
          rotate_left
          · (intro W hW; have h0 := hW.2.c0; go_simp; rfl)
          (try simp only [List.getElem_toArray, List.getElem_cons_zero, List.getElem_cons_succ, Act.put, List.setIfInBounds_toArray, List.set_cons_zero, List.set_cons_succ])
          refine wpAnyH_take (i := 6) (oi := _) (v := ?_) rfl (by kernel_rfl) (by kernel_rfl) (by kernel_rfl) (fun _ _ _ h => h) (Or.inl ⟨by rfl, ?_⟩) (by assumption) ?_
          rotate_left
          · (intro w hSw; (try dsimp only at hSw); (try go_split_ands); go_simp; (try with_reducible rfl))
          (try simp only [List.getElem_toArray, List.getElem_cons_zero, List.getElem_cons_succ, Act.put, List.setIfInBounds_toArray, List.set_cons_zero, List.set_cons_succ])
          refine wpAnyH_take (i := 7) (oi := _) (v := blk p.2) rfl (by kernel_rfl) (by kernel_rfl) (by kernel_rfl) (fun _ _ _ h => h) (yieldsIf_load_mid (by rfl) 25 _ rfl wr.heap.size 1 rfl (bc p.2) _ (fun W hW => hW.2.range) Try.underlying25 rfl (by rw [info_blk, bc_length, HP.out])) (by assumption) ?_
          (try simp only [List.getElem_toArray, List.getElem_cons_zero, List.getElem_cons_succ, Act.put, List.setIfInBounds_toArray, List.set_cons_zero, List.set_cons_succ])
          refine wpAnyH_ready (rs := [8]) (by kernel_rfl) (by simp) ?_
          refine AllReadyH.cons (o := _) rfl (fun K hK => ?_) AllReadyH.nil
          (try simp only [List.getElem_toArray, List.getElem_cons_zero, List.getElem_cons_succ])
          rw [if_pos (by rfl)]
          refine wp_update_on _ _ _ rfl rfl rfl rfl hm1' (by unfold maxLen; omega) (wf_i64 hp0 hp1) HP.out ?_
          intro w2 hm2 hg2
          have hne : some wr.heap.size ≠ some m := fun e => by injection e with e; have := HMP.out.lt; omega
          refine hK.out _ _ (⟨(hg2.cell (a := ⟨g, 1, none⟩) hHeld.1 (fun e => HT.out.ne_map (Option.some.inj e))), hl1'.stay (hg2.block _ hl1'.lt hne)⟩) (fun hHeld => ?_)
          clear hK K
          (try simp only [List.getElem_toArray, List.getElem_cons_zero, List.getElem_cons_succ, Act.put, List.setIfInBounds_toArray, List.set_cons_zero, List.set_cons_succ])
          refine wpAnyH_done (by kernel_rfl) ?_ _
          have hk2 := hk1'.by hg2
          have HK2 := Lib.hid hk2
          have HM2 := Lib.hid hm2
          clear hk2 hm2 hg2 hk1' hm1' hl1' e1'
          go_wp2_with fail
          go_roundw
          case rel =>
            refine ⟨q + 1, by omega, by simp, HK2.out, ?_⟩
            rw [HKT.out, Dk.lay_snoc]
            exact HM2.out
          case measure => simp [intOf]; omega
        · obtain rfl : q = d.wait.length := by omega
          have HB := Lib.hid (hlk.box HT.out)
          obtain ⟨_, _, e2, _, _, _⟩ := HB.out.cells
          have f2 := HB.out.free 2
          have HLK := Lib.hid hlk
          have HMP := Lib.hid hmp
          clear hlk hmp
          go_wp2_with fail
          go_ret
          have b5 := HB.out.set2 (.slice none 0 0)
          have D := HT.out
          have hmm := HMP.out
          rw [List.take_length] at hmm
          refine ⟨rfl, ⟨m, .slice none 0 0, kv, SK.out, b5, ?_, World.ownsRow_nil _ _ _ _, fun _ => rfl, ?_, D.fg, D.fm, fun i hi => (by cases hi), D.fk⟩, ?_⟩
          · refine hmm.block ?_
            rw [heap_setCell_other _ _ _ _ D.ne_map.symm]
          · refine row_stay (HLK.out.keep D) (fun k hk => ?_)
            rw [heap_setCell_other _ _ _ _ (fun e => row_off D.keep D.box (by decide) (hk.trans (congrArg some e)))]
          · have g0 := HLK.out.grown (fp := fp) D.fm
            exact ((GrownIn.by HG.out hfg).trans (g0.mono (fun k _ h => .inl h))).trans (GrownIn.set (a := ⟨g, 2, none⟩) _ (.inl D.fg))
end Go.Proofs.Yteoomhkdffnkkaa
