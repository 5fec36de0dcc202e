/- DiskAll holds: a failure that keeps all that waits comes to what a flush, and a failure then, come to; one that keeps none to what was flushed. Conditions: none beyond the row's own. -/
import Derived.Test.YtldkokngbnaimaaDskPlain
namespace Go.Proofs.Ytldkokngbnaimaa
set_option linter.unusedVariables false
set_option linter.unusedSimpArgs false
open Go.ChangeShapes Go.WideShapes Go.ChangeAt Go.RowKit
attribute [local go_sem] zeroValueB

set_option maxRecDepth 100000 in
set_option maxHeartbeats 12800000 in
theorem all_any (a b : Value) (l m : List UInt8) (w : World) (hl : BytesV w a l) (hm : BytesV w b m) :
    Calls Try.prog 5 #[a, b] w fun e w' => e = .returned (.bool true) ∧ Below w.heap.size w w' := by
  have HL := Lib.hid hl
  have HMm := Lib.hid hm
  obtain ⟨LA, lc, rfl, l1, l2, l3, l4⟩ := hl
  obtain ⟨KA, kc, rfl, k1, k2, k3, k4⟩ := hm
  clear l3 l4 k3 k4
  unfold maxLen at l2 k2
  have WK := Lib.hid works_any
  have NW := Lib.hid (fun W : World => New_any (fun _ => False) 64 W (by decide) (by decide))
  by_cases h1 : (200 : Int) < (l.length : Int)
  · go_enter Try.func5, Try.ntmps5
    go_wp2_with fail
    refine (NW.out _).mono ?_; rintro e w0 ⟨rfl, _, b0⟩
    have s0 := b0.size
    go_wp2_with fail
    refine (WK.out _).mono ?_; rintro e w1 ⟨rfl, hw1⟩
    have b1 : Below w.heap.size w w1 := chain (by repeat' (first | (with_reducible exact Below.refl _ _) | (with_reducible assumption) | (with_reducible refine below_drewN ?_ _) | (with_reducible refine Below.alloc ?_ ?_ _) | (with_reducible refine Below.drew ?_) | (with_reducible refine Below.setCell ?_ ?_ _) | go_size)) hw1
    have s1 := b1.size
    go_wp2_with fail
    refine (WK.out _).mono ?_; rintro e w2 ⟨rfl, hw2⟩
    have b2 : Below w.heap.size w w2 := chain (by repeat' (first | (with_reducible exact Below.refl _ _) | (with_reducible assumption) | (with_reducible refine below_drewN ?_ _) | (with_reducible refine Below.alloc ?_ ?_ _) | (with_reducible refine Below.drew ?_) | (with_reducible refine Below.setCell ?_ ?_ _) | go_size)) hw2
    have s2 := b2.size
    go_wp2_with fail
    go_ret
    exact ⟨rfl, by assumption⟩
  by_cases h2 : (200 : Int) < (m.length : Int)
  · go_enter Try.func5, Try.ntmps5
    go_wp2_with fail
    refine (NW.out _).mono ?_; rintro e w0 ⟨rfl, _, b0⟩
    have s0 := b0.size
    go_wp2_with fail
    refine (WK.out _).mono ?_; rintro e w1 ⟨rfl, hw1⟩
    have b1 : Below w.heap.size w w1 := chain (by repeat' (first | (with_reducible exact Below.refl _ _) | (with_reducible assumption) | (with_reducible refine below_drewN ?_ _) | (with_reducible refine Below.alloc ?_ ?_ _) | (with_reducible refine Below.drew ?_) | (with_reducible refine Below.setCell ?_ ?_ _) | go_size)) hw1
    have s1 := b1.size
    go_wp2_with fail
    refine (WK.out _).mono ?_; rintro e w2 ⟨rfl, hw2⟩
    have b2 : Below w.heap.size w w2 := chain (by repeat' (first | (with_reducible exact Below.refl _ _) | (with_reducible assumption) | (with_reducible refine below_drewN ?_ _) | (with_reducible refine Below.alloc ?_ ?_ _) | (with_reducible refine Below.drew ?_) | (with_reducible refine Below.setCell ?_ ?_ _) | go_size)) hw2
    have s2 := b2.size
    go_wp2_with fail
    go_ret
    exact ⟨rfl, by assumption⟩
  obtain ⟨i0, hi, hz0, hz1, hz2⟩ := info_parts info_bool
  go_enter Try.func5, Try.ntmps5
  go_wp2_with fail
  refine (new_m (own := []) 2 64 _ (Many.none w.heap.size w) (by decide) (by simp) (Nat.le_refl _) (by decide) (by decide) (d' := Dk.new 64) rfl).mono ?_; rintro e w1 ⟨g1, rfl, hm1, hb1, _⟩
  have HM1 := Lib.hid hm1
  clear hm1
  go_wp2_with fail
  refine (WK.out _).mono ?_; rintro e w2 ⟨rfl, hw2⟩
  have HM2 := Lib.hid (HM1.out.below hw2)
  have b2 := chain hb1 hw2
  clear HM1 hw2
  go_wp2_with fail
  go_loopw [7] (fun i W => ∃ (q : Nat) (D : Dk), q ≤ l.length ∧ i = .int .i64 q ∧ D.Plain ∧ D.sum ≤ q ∧ Many w.heap.size [] W [(2, g1, D)] ∧ Below w.heap.size w W) (fun i _ => l.length - (intOf i).toNat)
  case atStart => exact ⟨0, Dk.new 64, by omega, rfl, Dk.Plain.new, Nat.zero_le _, HM2.out, b2⟩
  case round =>
    obtain ⟨q, D, hq, rfl, hP, hs, hm, hb⟩ := hrel
    have HM := Lib.hid hm
    have HP := Lib.hid hP
    clear hm hP HM2
    by_cases hlt : q < l.length
    · have hq2 : (q : Int) < (l.length : Int) := by omega
      obtain ⟨lb, lo, rfl, hlb, hlc⟩ := HL.out.at (i := q) hlt
      have hlc' : wr.cell? ⟨lb, lo + q, none⟩ = some (.int .u8 ((l[q]'hlt).toNat : Int)) := (hb.cell (p := ⟨lb, lo + q, none⟩) hlb).trans hlc
      clear hlc
      generalize l[q]'hlt = c at *
      have hN0 : (0 : Int) ≤ ((c.toNat % 64 : Nat) : Int) := by omega
      have hN1 : ((c.toNat % 64 : Nat) : Int) < 64 := by omega
      go_wp2_with fail
      have hV1 : wr.drew.cell? ⟨lb, lo + q, none⟩ = some (.int .u8 (c.toNat : Int)) := hlc'
      have HV1 : Hid (Many w.heap.size [] wr.drew [(2, g1, D)]) := Lib.hid HM.out.drew
      have bV1 : Below w.heap.size w wr.drew := hb.drew
      refine wp_region_held_drew (S := fun W => W.cell? ⟨lb, lo + q, none⟩ = some (.int .u8 (c.toNat : Int))) (by kernel_rfl) hV1 (fun hHeld => ?_)
      generalize wr.drew = V1 at *
      refine wpAnyH_take (i := 0) (oi := _) (v := ?_) rfl (by kernel_rfl) (by kernel_rfl) (by kernel_rfl) (fun _ _ _ h => h) (Or.inl ⟨by rfl, ?_⟩) (by assumption) ?_
      rotate_left
      · (intro w hSw; (try dsimp only at hSw); (try go_split_ands); go_simp; (try with_reducible rfl))
      (try simp only [List.getElem_toArray, List.getElem_cons_zero, List.getElem_cons_succ, Act.put, List.setIfInBounds_toArray, List.set_cons_zero, List.set_cons_succ])
      refine wpAnyH_take (i := 1) (oi := _) (v := ?_) rfl (by kernel_rfl) (by kernel_rfl) (by kernel_rfl) (fun _ _ _ h => h) (Or.inl ⟨by rfl, ?_⟩) (by assumption) ?_
      rotate_left
      · (intro w hSw; (try dsimp only at hSw); (try go_split_ands); go_simp; (try with_reducible rfl))
      (try simp only [List.getElem_toArray, List.getElem_cons_zero, List.getElem_cons_succ, Act.put, List.setIfInBounds_toArray, List.set_cons_zero, List.set_cons_succ])
      refine wpAnyH_take (i := 2) (oi := _) (v := ?_) rfl (by kernel_rfl) (by kernel_rfl) (by kernel_rfl) (fun _ _ _ h => h) (Or.inl ⟨by rfl, ?_⟩) (by assumption) ?_
      rotate_left
      · (intro w hSw; (try dsimp only at hSw); (try go_split_ands); go_simp; (try with_reducible rfl))
      (try simp only [List.getElem_toArray, List.getElem_cons_zero, List.getElem_cons_succ, Act.put, List.setIfInBounds_toArray, List.set_cons_zero, List.set_cons_succ])
      refine wpAnyH_take (i := 3) (oi := _) (v := ?_) rfl (by kernel_rfl) (by kernel_rfl) (by kernel_rfl) (fun _ _ _ h => h) (Or.inl ⟨by rfl, ?_⟩) (by assumption) ?_
      rotate_left
      · (intro w hSw; (try dsimp only at hSw); (try go_split_ands); go_simp; (try with_reducible rfl))
      (try simp only [List.getElem_toArray, List.getElem_cons_zero, List.getElem_cons_succ, Act.put, List.setIfInBounds_toArray, List.set_cons_zero, List.set_cons_succ])
      refine wpAnyH_take (i := 4) (oi := _) (v := ?_) rfl (by kernel_rfl) (by kernel_rfl) (by kernel_rfl) (fun _ _ _ h => h) (Or.inl ⟨by rfl, ?_⟩) (by assumption) ?_
      rotate_left
      · (intro w hSw; (try dsimp only at hSw); (try go_split_ands); go_simp; (try with_reducible rfl))
      (try simp only [List.getElem_toArray, List.getElem_cons_zero, List.getElem_cons_succ, Act.put, List.setIfInBounds_toArray, List.set_cons_zero, List.set_cons_succ])
      refine wpAnyH_take (i := 5) (oi := _) (v := ?_) rfl (by kernel_rfl) (by kernel_rfl) (by kernel_rfl) (fun _ _ _ h => h) (Or.inl ⟨by rfl, ?_⟩) (by assumption) ?_
      rotate_left
      · (intro w hSw; (try dsimp only at hSw); (try go_split_ands); go_simp; (try with_reducible rfl))
      (try simp only [List.getElem_toArray, List.getElem_cons_zero, List.getElem_cons_succ, Act.put, List.setIfInBounds_toArray, List.set_cons_zero, List.set_cons_succ])
      refine wpAnyH_take (i := 6) (oi := _) (v := ?_) rfl (by kernel_rfl) (by kernel_rfl) (by kernel_rfl) (fun _ _ _ h => h) (Or.inl ⟨by rfl, ?_⟩) (by assumption) ?_
      rotate_left
      · (intro w hSw; (try dsimp only at hSw); (try go_split_ands); go_simp; (try with_reducible rfl))
      (try simp only [List.getElem_toArray, List.getElem_cons_zero, List.getElem_cons_succ, Act.put, List.setIfInBounds_toArray, List.set_cons_zero, List.set_cons_succ])
      refine wpAnyH_take (i := 7) (oi := _) (v := ?_) rfl (by kernel_rfl) (by kernel_rfl) (by kernel_rfl) (fun _ _ _ h => h) (Or.inl ⟨by rfl, ?_⟩) (by assumption) ?_
      rotate_left
      · (intro w hSw; (try dsimp only at hSw); (try go_split_ands); go_simp; (try with_reducible rfl))
      (try simp only [List.getElem_toArray, List.getElem_cons_zero, List.getElem_cons_succ, Act.put, List.setIfInBounds_toArray, List.set_cons_zero, List.set_cons_succ])
      refine wpAnyH_take (i := 8) (oi := _) (v := ?_) rfl (by kernel_rfl) (by kernel_rfl) (by kernel_rfl) (fun _ _ _ h => h) (Or.inl ⟨by rfl, ?_⟩) (by assumption) ?_
      rotate_left
      · (intro w hSw; (try dsimp only at hSw); (try go_split_ands); go_simp; (try with_reducible rfl))
      (try simp only [List.getElem_toArray, List.getElem_cons_zero, List.getElem_cons_succ, Act.put, List.setIfInBounds_toArray, List.set_cons_zero, List.set_cons_succ])
      refine wpAnyH_take (i := 9) (oi := _) (v := ?_) rfl (by kernel_rfl) (by kernel_rfl) (by kernel_rfl) (fun _ _ _ h => h) (Or.inl ⟨by rfl, ?_⟩) (by assumption) ?_
      rotate_left
      · (intro w hSw; (try dsimp only at hSw); (try go_split_ands); go_simp; (try with_reducible rfl))
      (try simp only [List.getElem_toArray, List.getElem_cons_zero, List.getElem_cons_succ, Act.put, List.setIfInBounds_toArray, List.set_cons_zero, List.set_cons_succ])
      refine wpAnyH_take (i := 10) (oi := _) (v := ?_) rfl (by kernel_rfl) (by kernel_rfl) (by kernel_rfl) (fun _ _ _ h => h) (Or.inl ⟨by rfl, ?_⟩) (by assumption) ?_
      rotate_left
      · (intro w hSw; (try dsimp only at hSw); (try go_split_ands); go_simp; (try with_reducible rfl))
      (try simp only [List.getElem_toArray, List.getElem_cons_zero, List.getElem_cons_succ, Act.put, List.setIfInBounds_toArray, List.set_cons_zero, List.set_cons_succ])
      refine wpAnyH_ready (rs := [11]) (by kernel_rfl) (by simp) ?_
      refine AllReadyH.cons (o := _) rfl (fun K hK => ?_) AllReadyH.nil
      (try simp only [List.getElem_toArray, List.getElem_cons_zero, List.getElem_cons_succ])
      go_simp
      refine (block_m c _ (rfl) _ HV1.out bV1.size).mono ?_; rintro e wa1 ⟨rfl, hma1, hba1, hsa1⟩
      have ba1 := bV1.trans hba1
      have ca1 : wa1.cell? ⟨lb, lo + q, none⟩ = some (.int .u8 (c.toNat : Int)) := (hba1.cell (p := ⟨lb, lo + q, none⟩) hlb).trans hV1
      refine hK.out _ _ (ca1) (fun hHeld => ?_)
      clear hK K
      (try simp only [List.getElem_toArray, List.getElem_cons_zero, List.getElem_cons_succ, Act.put, List.setIfInBounds_toArray, List.set_cons_zero, List.set_cons_succ])
      refine wpAnyH_ready (rs := [12]) (by kernel_rfl) (by simp) ?_
      refine AllReadyH.cons (o := _) rfl (fun K hK => ?_) AllReadyH.nil
      (try simp only [List.getElem_toArray, List.getElem_cons_zero, List.getElem_cons_succ])
      go_simp
      rw [n64]
      refine (write_m _ (mkB (c)) _ hma1 (by simp) ba1.size (mkB_len _) (by omega) (E := 0) (HP.out.write hN0 hN1 (mkB c)).2 (HP.out.write hN0 hN1 (mkB c)).1).mono ?_; rintro e wb1 ⟨rfl, hmb1, hbb1, hsb1⟩
      have bb1 := ba1.trans hbb1
      have cb1 : wb1.cell? ⟨lb, lo + q, none⟩ = some (.int .u8 (c.toNat : Int)) := (hbb1.cell (p := ⟨lb, lo + q, none⟩) hlb).trans ca1
      refine hK.out _ _ (cb1) (fun hHeld => ?_)
      clear hK K
      (try simp only [List.getElem_toArray, List.getElem_cons_zero, List.getElem_cons_succ, Act.put, List.setIfInBounds_toArray, List.set_cons_zero, List.set_cons_succ])
      refine wpAnyH_take (i := 13) (oi := _) (v := ?_) rfl (by kernel_rfl) (by kernel_rfl) (by kernel_rfl) (fun _ _ _ h => h) (Or.inl ⟨by rfl, ?_⟩) (by assumption) ?_
      rotate_left
      · (intro w hSw; (try dsimp only at hSw); (try go_split_ands); go_simp; (try with_reducible rfl))
      (try simp only [List.getElem_toArray, List.getElem_cons_zero, List.getElem_cons_succ, Act.put, List.setIfInBounds_toArray, List.set_cons_zero, List.set_cons_succ])
      refine wpAnyH_done (by kernel_rfl) ?_ _
      have HB1 := Lib.hid hmb1
      clear hma1 hmb1 HV1
      go_wp2_with fail
      go_roundw
      case rel => exact ⟨q + 1, D.add (((c.toNat % 64 : Nat) : Int), mkB c), by omega, by simp, HP.out.add _, by rw [Dk.sum_add]; omega, HB1.out, bb1⟩
      case measure => simp [intOf]; omega
    · obtain rfl : q = l.length := by omega
      have hO : (D.settle).Plain ∧ (D.settle).sum ≤ 200 ∧ (D.settle).wait = [] := ⟨HP.out.settle, by rw [Dk.sum_settle]; omega, rfl⟩
      go_wp2_with fail
      refine (flush_m _ HM.out (by simp) hb.size (E := 0) HP.out.flush.2 HP.out.flush.1).mono ?_; rintro e w3 ⟨rfl, hm3, hb3, _⟩
      have HM3 := Lib.hid hm3
      have b3 := hb.trans hb3
      clear hm3 hb3 HM HP
      generalize D.settle = O at *
      obtain ⟨hO1, hO2, hO3⟩ := hO
      have HO := Lib.hid hO1
      have HOw := Lib.hid hO3
      clear hO1 hO3 hs
      go_wp2_with fail
      refine (copy_m 3 (i := 2) (d := O) _ HM3.out (by simp) (by decide) (by simp) b3.size).mono ?_; rintro e w4 ⟨g3, rfl, hm4, hb4, _⟩
      have HM4 := Lib.hid hm4.swap
      have b4 := b3.trans hb4
      clear hm4 hb4 HM3
      go_wp2_with (refine wpList_make_full _ rfl _ _ 23 rfl w4.heap.size 4 i0 (.bool false) 1 Try.underlying23 hi hz0 hz1 .i64 .i64 (m.length : Int) (m.length : Int) m.length rfl rfl rfl rfl (by rw [hz2]; omega) (by unfold maxLen; omega) (Nat.le_refl _) ?_)
      intro w5 hrow hgr
      have hkb := made_kb hrow
      have hbl5 : Below w4.heap.size w4 w5 := ⟨hgr.os, hgr.tape, hgr.output, hgr.size, fun k hk => hgr.block k hk (by simp)⟩
      have hlt5 := hkb.lt
      have HM5 : Hid (Many w.heap.size [w4.heap.size] w5 [(2, g1, O), (3, g3, O)]) := Lib.hid (HM4.out.grow hbl5 (fun k hk => by
        rcases List.mem_cons.1 hk with rfl | hk
        · exact .inr ⟨Nat.le_refl _, hlt5⟩
        · cases hk))
      have b5 := chain b4 hbl5
      have hkle : w.heap.size ≤ w4.heap.size := b4.size
      generalize w4.heap.size = kb at *
      have HKB := Lib.hid hkb
      clear hrow hgr hkb hbl5 HM4
      go_wp2_with fail
      obtain ⟨wo, hwo⟩ : ∃ wo : World, wo = w5 := ⟨_, rfl⟩
      go_loopw [10] (fun i W => ∃ (q : Nat) (D : Dk), q ≤ m.length ∧ i = .int .i64 q ∧ D.Plain ∧ D.sum ≤ 200 + q ∧ D.on = O.on ∧ D.wait.length = q ∧ Many w.heap.size [kb] W [(2, g1, D), (3, g3, O)] ∧ KB W kb (List.replicate q true ++ List.replicate (m.length - q) false) ∧ Below w.heap.size w W) (fun i _ => m.length - (intOf i).toNat)
      case atStart => exact ⟨0, O, by omega, rfl, HO.out, by omega, rfl, by rw [HOw.out]; rfl, HM5.out, HKB.out, b5⟩
      case round =>
        clear hwo
        obtain ⟨q, D, hq, rfl, hP, hs, hon, hwl, hm, hkb, hb⟩ := hrel
        have HM := Lib.hid hm
        have HP := Lib.hid hP
        have HKB2 := Lib.hid hkb
        have HON := Lib.hid hon
        have HWL := Lib.hid hwl
        clear hm hP HM5 HKB hkb hon hwl
        by_cases hlt : q < m.length
        · have hq2 : (q : Int) < (m.length : Int) := by omega
          obtain ⟨mb, mo, rfl, hmb, hmc⟩ := HMm.out.at (i := q) hlt
          have hmc' : wr.cell? ⟨mb, mo + q, none⟩ = some (.int .u8 ((m[q]'hlt).toNat : Int)) := (hb.cell (p := ⟨mb, mo + q, none⟩) hmb).trans hmc
          clear hmc
          generalize m[q]'hlt = c at *
          have hN0 : (0 : Int) ≤ ((c.toNat % 64 : Nat) : Int) := by omega
          have hN1 : ((c.toNat % 64 : Nat) : Int) < 64 := by omega
          have hc1 := u8_succ c
          go_wp2_with fail
          have hV2 : wr.drew.cell? ⟨mb, mo + q, none⟩ = some (.int .u8 (c.toNat : Int)) := hmc'
          have HV2 : Hid (Many w.heap.size [kb] wr.drew [(2, g1, D), (3, g3, O)]) := Lib.hid HM.out.drew
          have bV2 : Below w.heap.size w wr.drew := hb.drew
          have hkV2 : KB wr.drew kb (List.replicate q true ++ List.replicate (m.length - q) false) := HKB2.out
          refine wp_region_held_drew (S := fun W => W.cell? ⟨mb, mo + q, none⟩ = some (.int .u8 (c.toNat : Int))) (by kernel_rfl) hV2 (fun hHeld => ?_)
          generalize wr.drew = V2 at *
          refine wpAnyH_take (i := 0) (oi := _) (v := ?_) rfl (by kernel_rfl) (by kernel_rfl) (by kernel_rfl) (fun _ _ _ h => h) (Or.inl ⟨by rfl, ?_⟩) (by assumption) ?_
          rotate_left
          · (intro w hSw; (try dsimp only at hSw); (try go_split_ands); go_simp; (try with_reducible rfl))
          (try simp only [List.getElem_toArray, List.getElem_cons_zero, List.getElem_cons_succ, Act.put, List.setIfInBounds_toArray, List.set_cons_zero, List.set_cons_succ])
          refine wpAnyH_take (i := 1) (oi := _) (v := ?_) rfl (by kernel_rfl) (by kernel_rfl) (by kernel_rfl) (fun _ _ _ h => h) (Or.inl ⟨by rfl, ?_⟩) (by assumption) ?_
          rotate_left
          · (intro w hSw; (try dsimp only at hSw); (try go_split_ands); go_simp; (try with_reducible rfl))
          (try simp only [List.getElem_toArray, List.getElem_cons_zero, List.getElem_cons_succ, Act.put, List.setIfInBounds_toArray, List.set_cons_zero, List.set_cons_succ])
          refine wpAnyH_take (i := 2) (oi := _) (v := ?_) rfl (by kernel_rfl) (by kernel_rfl) (by kernel_rfl) (fun _ _ _ h => h) (Or.inl ⟨by rfl, ?_⟩) (by assumption) ?_
          rotate_left
          · (intro w hSw; (try dsimp only at hSw); (try go_split_ands); go_simp; (try with_reducible rfl))
          (try simp only [List.getElem_toArray, List.getElem_cons_zero, List.getElem_cons_succ, Act.put, List.setIfInBounds_toArray, List.set_cons_zero, List.set_cons_succ])
          refine wpAnyH_take (i := 3) (oi := _) (v := ?_) rfl (by kernel_rfl) (by kernel_rfl) (by kernel_rfl) (fun _ _ _ h => h) (Or.inl ⟨by rfl, ?_⟩) (by assumption) ?_
          rotate_left
          · (intro w hSw; (try dsimp only at hSw); (try go_split_ands); go_simp; (try with_reducible rfl))
          (try simp only [List.getElem_toArray, List.getElem_cons_zero, List.getElem_cons_succ, Act.put, List.setIfInBounds_toArray, List.set_cons_zero, List.set_cons_succ])
          refine wpAnyH_take (i := 4) (oi := _) (v := ?_) rfl (by kernel_rfl) (by kernel_rfl) (by kernel_rfl) (fun _ _ _ h => h) (Or.inl ⟨by rfl, ?_⟩) (by assumption) ?_
          rotate_left
          · (intro w hSw; (try dsimp only at hSw); (try go_split_ands); go_simp; (try with_reducible rfl))
          (try simp only [List.getElem_toArray, List.getElem_cons_zero, List.getElem_cons_succ, Act.put, List.setIfInBounds_toArray, List.set_cons_zero, List.set_cons_succ])
          refine wpAnyH_take (i := 5) (oi := _) (v := ?_) rfl (by kernel_rfl) (by kernel_rfl) (by kernel_rfl) (fun _ _ _ h => h) (Or.inl ⟨by rfl, ?_⟩) (by assumption) ?_
          rotate_left
          · (intro w hSw; (try dsimp only at hSw); (try go_split_ands); go_simp; (try with_reducible rfl))
          (try simp only [List.getElem_toArray, List.getElem_cons_zero, List.getElem_cons_succ, Act.put, List.setIfInBounds_toArray, List.set_cons_zero, List.set_cons_succ])
          refine wpAnyH_take (i := 6) (oi := _) (v := ?_) rfl (by kernel_rfl) (by kernel_rfl) (by kernel_rfl) (fun _ _ _ h => h) (Or.inl ⟨by rfl, ?_⟩) (by assumption) ?_
          rotate_left
          · (intro w hSw; (try dsimp only at hSw); (try go_split_ands); go_simp; (try with_reducible rfl))
          (try simp only [List.getElem_toArray, List.getElem_cons_zero, List.getElem_cons_succ, Act.put, List.setIfInBounds_toArray, List.set_cons_zero, List.set_cons_succ])
          refine wpAnyH_take (i := 7) (oi := _) (v := ?_) rfl (by kernel_rfl) (by kernel_rfl) (by kernel_rfl) (fun _ _ _ h => h) (Or.inl ⟨by rfl, ?_⟩) (by assumption) ?_
          rotate_left
          · (intro w hSw; (try dsimp only at hSw); (try go_split_ands); go_simp; (try with_reducible rfl))
          (try simp only [List.getElem_toArray, List.getElem_cons_zero, List.getElem_cons_succ, Act.put, List.setIfInBounds_toArray, List.set_cons_zero, List.set_cons_succ])
          refine wpAnyH_take (i := 8) (oi := _) (v := ?_) rfl (by kernel_rfl) (by kernel_rfl) (by kernel_rfl) (fun _ _ _ h => h) (Or.inl ⟨by rfl, ?_⟩) (by assumption) ?_
          rotate_left
          · (intro w hSw; (try dsimp only at hSw); (try go_split_ands); go_simp; (try with_reducible rfl))
          (try simp only [List.getElem_toArray, List.getElem_cons_zero, List.getElem_cons_succ, Act.put, List.setIfInBounds_toArray, List.set_cons_zero, List.set_cons_succ])
          refine wpAnyH_take (i := 9) (oi := _) (v := ?_) rfl (by kernel_rfl) (by kernel_rfl) (by kernel_rfl) (fun _ _ _ h => h) (Or.inl ⟨by rfl, ?_⟩) (by assumption) ?_
          rotate_left
          · (intro w hSw; (try dsimp only at hSw); (try go_split_ands); go_simp; (try with_reducible rfl))
          (try simp only [List.getElem_toArray, List.getElem_cons_zero, List.getElem_cons_succ, Act.put, List.setIfInBounds_toArray, List.set_cons_zero, List.set_cons_succ])
          refine wpAnyH_take (i := 10) (oi := _) (v := ?_) rfl (by kernel_rfl) (by kernel_rfl) (by kernel_rfl) (fun _ _ _ h => h) (Or.inl ⟨by rfl, ?_⟩) (by assumption) ?_
          rotate_left
          · (intro w hSw; (try dsimp only at hSw); (try go_split_ands); go_simp; (try with_reducible rfl))
          (try simp only [List.getElem_toArray, List.getElem_cons_zero, List.getElem_cons_succ, Act.put, List.setIfInBounds_toArray, List.set_cons_zero, List.set_cons_succ])
          refine wpAnyH_take (i := 11) (oi := _) (v := ?_) rfl (by kernel_rfl) (by kernel_rfl) (by kernel_rfl) (fun _ _ _ h => h) (Or.inl ⟨by rfl, ?_⟩) (by assumption) ?_
          rotate_left
          · (intro w hSw; (try dsimp only at hSw); (try go_split_ands); go_simp; (try with_reducible rfl))
          (try simp only [List.getElem_toArray, List.getElem_cons_zero, List.getElem_cons_succ, Act.put, List.setIfInBounds_toArray, List.set_cons_zero, List.set_cons_succ])
          refine wpAnyH_ready (rs := [12]) (by kernel_rfl) (by simp) ?_
          refine AllReadyH.cons (o := _) rfl (fun K hK => ?_) AllReadyH.nil
          (try simp only [List.getElem_toArray, List.getElem_cons_zero, List.getElem_cons_succ])
          go_simp
          refine (block_m (c + 1) _ (hc1) _ HV2.out bV2.size).mono ?_; rintro e wa2 ⟨rfl, hma2, hba2, hsa2⟩
          have ba2 := bV2.trans hba2
          have ca2 : wa2.cell? ⟨mb, mo + q, none⟩ = some (.int .u8 (c.toNat : Int)) := (hba2.cell (p := ⟨mb, mo + q, none⟩) hmb).trans hV2
          refine hK.out _ _ (ca2) (fun hHeld => ?_)
          clear hK K
          (try simp only [List.getElem_toArray, List.getElem_cons_zero, List.getElem_cons_succ, Act.put, List.setIfInBounds_toArray, List.set_cons_zero, List.set_cons_succ])
          refine wpAnyH_ready (rs := [13]) (by kernel_rfl) (by simp) ?_
          refine AllReadyH.cons (o := _) rfl (fun K hK => ?_) AllReadyH.nil
          (try simp only [List.getElem_toArray, List.getElem_cons_zero, List.getElem_cons_succ])
          go_simp
          rw [n64]
          refine (write_m _ (mkB ((c + 1))) _ hma2 (by simp) ba2.size (mkB_len _) (by omega) (E := 0) (HP.out.write hN0 hN1 (mkB (c + 1))).2 (HP.out.write hN0 hN1 (mkB (c + 1))).1).mono ?_; rintro e wb2 ⟨rfl, hmb2, hbb2, hsb2⟩
          have bb2 := ba2.trans hbb2
          have cb2 : wb2.cell? ⟨mb, mo + q, none⟩ = some (.int .u8 (c.toNat : Int)) := (hbb2.cell (p := ⟨mb, mo + q, none⟩) hmb).trans ca2
          refine hK.out _ _ (cb2) (fun hHeld => ?_)
          clear hK K
          (try simp only [List.getElem_toArray, List.getElem_cons_zero, List.getElem_cons_succ, Act.put, List.setIfInBounds_toArray, List.set_cons_zero, List.set_cons_succ])
          refine wpAnyH_take (i := 14) (oi := _) (v := ?_) rfl (by kernel_rfl) (by kernel_rfl) (by kernel_rfl) (fun _ _ _ h => h) (Or.inl ⟨by rfl, ?_⟩) (by assumption) ?_
          rotate_left
          · (intro w hSw; (try dsimp only at hSw); (try go_split_ands); go_simp; (try with_reducible rfl))
          (try simp only [List.getElem_toArray, List.getElem_cons_zero, List.getElem_cons_succ, Act.put, List.setIfInBounds_toArray, List.set_cons_zero, List.set_cons_succ])
          refine wpAnyH_done (by kernel_rfl) ?_ _
          have HB2 := Lib.hid hmb2
          clear hma2 hmb2 HV2
          have hkb2 : KB wb2 kb (List.replicate q true ++ List.replicate (m.length - q) false) := hkV2.stay (by rw [hsb2 kb (by simp), hsa2 kb (by simp)])
          have ck := hkb2.cell (j := q) (by simp; omega)
          have fk := hkb2.free q
          have HKB3 := Lib.hid hkb2
          have hov : w.heap.size ≤ kb := hkle
          clear hkb2 hsb2 hsa2 HKB2 hkV2
          go_wp2_with fail
          go_roundw
          case rel =>
            refine ⟨q + 1, D.add (((c.toNat % 64 : Nat) : Int), mkB (c + 1)), by omega, by simp, HP.out.add _, by rw [Dk.sum_add]; omega, HON.out, by simp [Dk.add, HWL.out], HB2.out.own_set (by simp) (wb_set' _ _ _ _), ?_, bb2.setCell (p := ⟨kb, q, none⟩) hov _⟩
            have := HKB3.out.set q true
            rwa [set_rep q m.length hlt] at this
          case measure => simp [intOf]; omega
        · obtain rfl : q = m.length := by omega
          have hkl : (List.replicate m.length true ++ List.replicate (m.length - m.length) false) = List.replicate m.length true := by simp
          rw [hkl] at HKB2
          clear hkl
          go_wp2_with fail
          refine (copy_m 4 (i := 2) (d := D) _ HM.out (by simp) (by decide) (by simp) hb.size).mono ?_; rintro e w6 ⟨g4, rfl, hm6, hb6, hs6⟩
          have HM6 := Lib.hid hm6
          have b6 := hb.trans hb6
          have HK6 := Lib.hid (HKB2.out.stay (hs6 kb (by simp)))
          clear hm6 hb6 hs6 HM HKB2
          go_wp2_with fail
          refine (copy_m 5 (i := 2) (d := D) _ HM6.out (by simp) (by decide) (by simp) b6.size).mono ?_; rintro e w7 ⟨g5, rfl, hm7, hb7, hs7⟩
          have HM7 := Lib.hid (hm7.sub (own' := [kb]) (l' := [(2, g1, D), (5, g5, D), (4, g4, D), (3, g3, O)]) (fun _ h => h) (by simp))
          have b7 := b6.trans hb7
          have HK7 := Lib.hid (HK6.out.stay (hs7 kb (by simp)))
          clear hm7 hb7 hs7 HM6 HK6
          go_wp2_with fail
          refine (flush_m _ HM7.out (by simp) b7.size (E := 0) HP.out.flush.2 HP.out.flush.1).mono ?_; rintro e w8 ⟨rfl, hm8, hb8, hs8⟩
          have HM8 := Lib.hid hm8
          have b8 := b7.trans hb8
          have HK8 := Lib.hid (HK7.out.stay (hs8 kb (by simp)))
          clear hm8 hb8 hs8 HM7 HK7
          go_wp2_with fail
          refine (fail_m _ [] _ HM8.out (by simp) b8.size (BoolsV.nil _) (E := 0) (HP.out.settle.fail []).2 (HP.out.settle.fail []).1).mono ?_; rintro e w9 ⟨rfl, hm9, hb9, hs9⟩
          have HM9 := Lib.hid (hm9.sub (own' := [kb]) (l' := [(5, g5, D), (2, g1, D.settle.fail []), (4, g4, D), (3, g3, O)]) (fun _ h => h) (by simp))
          have b9 := b8.trans hb9
          have HK9 := Lib.hid (HK8.out.stay (hs9 kb (by simp)))
          clear hm9 hb9 hs9 HM8 HK8
          go_wp2_with fail
          refine (fail_m _ (List.replicate m.length true) _ HM9.out (by simp) b9.size (HK9.out.bools (by simp; unfold maxLen; omega) _ (by simp)) (E := 0) (HP.out.fail (List.replicate m.length true)).2 (HP.out.fail (List.replicate m.length true)).1).mono ?_; rintro e wA ⟨rfl, hmA, hbA, hsA⟩
          have HMA := Lib.hid (hmA.sub (own' := []) (l' := [(4, g4, D), (2, g1, D.settle.fail []), (5, g5, D.fail (List.replicate m.length true)), (3, g3, O)]) (fun _ h => by cases h) (by simp))
          have bA := b9.trans hbA
          clear hmA hbA hsA HM9 HK9
          go_wp2_with fail
          refine (fail_m _ [] _ HMA.out (by simp) bA.size (BoolsV.nil _) (E := 0) (HP.out.fail []).2 (HP.out.fail []).1).mono ?_; rintro e wB ⟨rfl, hmB, hbB, hsB⟩
          have HMB := Lib.hid hmB
          have bB := bA.trans hbB
          clear hmB hbB hsB HMA
          go_wp2_with fail
          refine (boot_m 6 (i := 2) (d := D.settle.fail []) _ HMB.out (by simp) (by decide) (by simp) bB.size rfl rfl).mono ?_; rintro e wC ⟨ga, rfl, hmC, hbC, _⟩
          have HMC := Lib.hid hmC
          have bC := bB.trans hbC
          clear hmC hbC HMB
          go_wp2_with fail
          refine (boot_m 7 (i := 5) (d := D.fail (List.replicate m.length true)) _ HMC.out (by simp) (by decide) (by simp) bC.size rfl rfl).mono ?_; rintro e wD ⟨gb, rfl, hmD, hbD, _⟩
          have HMD := Lib.hid hmD
          have bD := bC.trans hbD
          clear hmD hbD HMC
          go_wp2_with fail
          refine (boot_m 8 (i := 4) (d := D.fail []) _ HMD.out (by simp) (by decide) (by simp) bD.size rfl rfl).mono ?_; rintro e wE ⟨gc, rfl, hmE, hbE, _⟩
          have HME := Lib.hid (hmE.sub (own' := []) (l' := [(6, ga, (D.settle.fail []).boot), (7, gb, (D.fail (List.replicate m.length true)).boot), (8, gc, (D.fail []).boot), (3, g3, O)]) (fun _ h => h) (by simp))
          have bE := bD.trans hbE
          clear hmE hbE HMD
          have e1 : ∀ n : Int, ((D.settle.fail []).boot).look n = ((D.fail (List.replicate m.length true)).boot).look n := fun n => by
            rw [Dk.look_boot, Dk.look_boot, ← HWL.out, Dk.kept_all, Dk.kept_nil]
            rfl
          have e2 : ∀ n : Int, ((D.fail []).boot).look n = O.look n := fun n => by
            rw [Dk.look_boot, Dk.kept_nil]
            unfold Dk.look
            rw [HOw.out, HON.out]
          have HE1 := Lib.hid e1
          have HE2 := Lib.hid e2
          have HPa := Lib.hid (HP.out.settle.boot [])
          have HPb := Lib.hid (HP.out.boot (List.replicate m.length true))
          have HPc := Lib.hid (HP.out.boot [])
          have HKa := Lib.hid (HME.out.ok (x := (6, ga, (D.settle.fail []).boot)) (by simp))
          have HKc := Lib.hid (HME.out.ok (x := (8, gc, (D.fail []).boot)) (by simp))
          dsimp only at HKa HKc
          clear e1 e2 HP
          generalize (D.settle.fail []).boot = Da at *
          generalize (D.fail (List.replicate m.length true)).boot = Db at *
          generalize (D.fail []).boot = Dc at *
          go_wp2_with fail
          obtain ⟨wo2, hwo2⟩ : ∃ wo2 : World, wo2 = wE := ⟨_, rfl⟩
          go_loopw [18] (fun i W => ∃ n : Nat, n ≤ 64 ∧ i = .int .i64 n ∧ Many w.heap.size [] W [(6, ga, Da), (7, gb, Db), (8, gc, Dc), (3, g3, O)] ∧ Below w.heap.size w W) (fun i _ => 64 - (intOf i).toNat)
          case atStart => exact ⟨0, by omega, rfl, HME.out, bE⟩
          case round =>
            clear hwo2
            obtain ⟨n, hn, rfl, hm, hbn⟩ := hrel
            by_cases hlt : n < 64
            · have hlt1 : (n : Int) < 64 := by omega
              have hn0 : (0 : Int) ≤ (n : Int) := by omega
              have HMn := Lib.hid hm
              obtain ⟨R, hR⟩ : ∃ R, R = Da.look (n : Int) := ⟨_, rfl⟩
              obtain ⟨R2, hR2⟩ : ∃ R2, R2 = Dc.look (n : Int) := ⟨_, rfl⟩
              have hR5 : R.length = 512 := by rw [hR]; exact HKa.out.look _
              have hR25 : R2.length = 512 := by rw [hR2]; exact HKc.out.look _
              have Ra := Lib.hid ((HPa.out.read hn0 hlt1).trans hR.symm)
              have Rb := Lib.hid ((HPb.out.read hn0 hlt1).trans ((HE1.out _).symm.trans hR.symm))
              have Rc := Lib.hid ((HPc.out.read hn0 hlt1).trans hR2.symm)
              have Rd := Lib.hid ((HO.out.read hn0 hlt1).trans ((HE2.out _).symm.trans hR2.symm))
              have Ba := Lib.hid (HPa.out.bad hn0 hlt1)
              have Bb := Lib.hid (HPb.out.bad hn0 hlt1)
              have Bc := Lib.hid (HPc.out.bad hn0 hlt1)
              have Bd := Lib.hid (HO.out.bad hn0 hlt1)
              have HR5 := Lib.hid hR5
              have HR25 := Lib.hid hR25
              have qx := fun W : World => run_eq_blk R R hR5 hR5 W
              have qy := fun W : World => run_eq_blk R2 R2 hR25 hR25 W
              rw [show (R == R) = true from by simp] at qx
              rw [show (R2 == R2) = true from by simp] at qy
              clear hm hR hR2 hR5 hR25 HME
              go_wp2_with fail
              refine (read_q (n : Int) _ HMn.out (i := 6) (d := Da) (by simp) (wf_i64 hn0 (by omega)) (E := 0) Ba.out Ra.out).mono ?_; rintro e wr20 ⟨rfl, hmr20, hbr20⟩
              have br20 := chain hbn hbr20
              have hszr20 := hbr20.size
              have HA20 := Lib.hid (Lies.new wr20 (zs 512) _ rfl)
              go_wp2_with (with_reducible refine wpList_store_blk (m := R) rfl _ _ rfl rfl rfl HA20.out (zs_len 512) HR5.out ?_)
              intro ws20 hl20 gs20
              have bs20 : Below wr20.heap.size wr20 ws20 := below_row ((Below.refl _ _).alloc (Nat.le_refl _) _) gs20 (by simp) (Nat.le_refl _)
              have HM20 := Lib.hid (hmr20.below bs20)
              have bt20 := chain br20 bs20
              have hlt20 := hl20.lt
              have LL20 := Lib.hid hl20
              clear hmr20 hbr20 hl20 gs20 bs20 HA20 HMn
              go_wp2_with fail
              refine (read_q (n : Int) _ HM20.out (i := 7) (d := Db) (by simp) (wf_i64 hn0 (by omega)) (E := 0) Bb.out Rb.out).mono ?_; rintro e wr21 ⟨rfl, hmr21, hbr21⟩
              have br21 := chain bt20 hbr21
              have hszr21 := hbr21.size
              have LL20x21 := Lib.hid ((LL20.out.below hbr21).alloc (.cells (ac (zs 512)) 34))
              have HA21 := Lib.hid (Lies.new wr21 (zs 512) _ rfl)
              go_wp2_with (with_reducible refine wpList_store_blk (m := R) rfl _ _ rfl rfl rfl HA21.out (zs_len 512) HR5.out ?_)
              intro ws21 hl21 gs21
              have bs21 : Below wr21.heap.size wr21 ws21 := below_row ((Below.refl _ _).alloc (Nat.le_refl _) _) gs21 (by simp) (Nat.le_refl _)
              have HM21 := Lib.hid (hmr21.below bs21)
              have bt21 := chain br21 bs21
              have LL20y21 := Lib.hid (LL20x21.out.but gs21 (fun e => by injection e with e; omega))
              have hlt21 := hl21.lt
              have LL21 := Lib.hid hl21
              clear hmr21 hbr21 hl21 gs21 bs21 HA21 HM20 LL20 LL20x21
              go_wp2_with fail
              refine (read_q (n : Int) _ HM21.out (i := 8) (d := Dc) (by simp) (wf_i64 hn0 (by omega)) (E := 0) Bc.out Rc.out).mono ?_; rintro e wr22 ⟨rfl, hmr22, hbr22⟩
              have br22 := chain bt21 hbr22
              have hszr22 := hbr22.size
              have LL20y21x22 := Lib.hid ((LL20y21.out.below hbr22).alloc (.cells (ac (zs 512)) 34))
              have LL21x22 := Lib.hid ((LL21.out.below hbr22).alloc (.cells (ac (zs 512)) 34))
              have HA22 := Lib.hid (Lies.new wr22 (zs 512) _ rfl)
              go_wp2_with (with_reducible refine wpList_store_blk (m := R2) rfl _ _ rfl rfl rfl HA22.out (zs_len 512) HR25.out ?_)
              intro ws22 hl22 gs22
              have bs22 : Below wr22.heap.size wr22 ws22 := below_row ((Below.refl _ _).alloc (Nat.le_refl _) _) gs22 (by simp) (Nat.le_refl _)
              have HM22 := Lib.hid (hmr22.below bs22)
              have bt22 := chain br22 bs22
              have LL20y21y22 := Lib.hid (LL20y21x22.out.but gs22 (fun e => by injection e with e; omega))
              have LL21y22 := Lib.hid (LL21x22.out.but gs22 (fun e => by injection e with e; omega))
              have hlt22 := hl22.lt
              have LL22 := Lib.hid hl22
              clear hmr22 hbr22 hl22 gs22 bs22 HA22 HM21 LL20y21 LL20y21x22 LL21 LL21x22
              go_wp2_with fail
              refine (read_q (n : Int) _ HM22.out (i := 3) (d := O) (by simp) (wf_i64 hn0 (by omega)) (E := 0) Bd.out Rd.out).mono ?_; rintro e wr23 ⟨rfl, hmr23, hbr23⟩
              have br23 := chain bt22 hbr23
              have hszr23 := hbr23.size
              have LL20y21y22x23 := Lib.hid ((LL20y21y22.out.below hbr23).alloc (.cells (ac (zs 512)) 34))
              have LL21y22x23 := Lib.hid ((LL21y22.out.below hbr23).alloc (.cells (ac (zs 512)) 34))
              have LL22x23 := Lib.hid ((LL22.out.below hbr23).alloc (.cells (ac (zs 512)) 34))
              have HA23 := Lib.hid (Lies.new wr23 (zs 512) _ rfl)
              go_wp2_with (with_reducible refine wpList_store_blk (m := R2) rfl _ _ rfl rfl rfl HA23.out (zs_len 512) HR25.out ?_)
              intro ws23 hl23 gs23
              have bs23 : Below wr23.heap.size wr23 ws23 := below_row ((Below.refl _ _).alloc (Nat.le_refl _) _) gs23 (by simp) (Nat.le_refl _)
              have HM23 := Lib.hid (hmr23.below bs23)
              have bt23 := chain br23 bs23
              have LL20y21y22y23 := Lib.hid (LL20y21y22x23.out.but gs23 (fun e => by injection e with e; omega))
              have LL21y22y23 := Lib.hid (LL21y22x23.out.but gs23 (fun e => by injection e with e; omega))
              have LL22y23 := Lib.hid (LL22x23.out.but gs23 (fun e => by injection e with e; omega))
              have hlt23 := hl23.lt
              have LL23 := Lib.hid hl23
              clear hmr23 hbr23 hl23 gs23 bs23 HA23 HM22 LL20y21y22 LL20y21y22x23 LL21y22 LL21y22x23 LL22 LL22x23
              go_wp2_with (first | (refine wpList_load_blk_g _ rfl rfl LL20y21y22y23.out HR5.out (by rfl) ?_) | (refine wpList_load_blk_g _ rfl rfl LL21y22y23.out HR5.out (by rfl) ?_) | (refine wpList_load_blk_g _ rfl rfl LL22y23.out HR25.out (by rfl) ?_) | (refine wpList_load_blk_g _ rfl rfl LL23.out HR25.out (by rfl) ?_))
              go_roundw
              case rel => exact ⟨n + 1, by omega, by simp, HM23.out, bt23⟩
              case measure => simp [intOf]; omega
            · obtain rfl : n = 64 := by omega
              go_wp2_with fail
              go_ret
              exact ⟨rfl, hbn⟩

theorem all_walk : Walks Try.prog 5 Try.f5 := by
  intro H enc W args ds p base hval hA hz
  rw [Try.params5] at hA hval
  obtain ⟨v0, vs1, d0, ds1, p0, q0, ha0, rfl, rfl, h0, hA⟩ := trodAll_cons hA
  obtain ⟨v1, vs2, d1, ds2, p1, q1, rfl, rfl, rfl, h1, hA⟩ := trodAll_cons hA
  obtain ⟨rfl, rfl, rfl⟩ := trodAll_nil hA
  obtain rfl : args = #[v0, v1] := by cases args; simp_all
  obtain ⟨l, hl⟩ := open_bytes (hval 0 _ v0 rfl rfl) h0
  obtain ⟨m, hm⟩ := open_bytes (hval 1 _ v1 rfl rfl) h1
  exact all_any v0 v1 l m W hl hm

theorem DiskAll_holds : Rows.DiskAllSaid :=
  OpenClaim.holds_of_wide 5 Try.f5 rfl rfl rfl rfl rfl rfl rfl ⟨rfl, rfl, rfl, rfl, rfl⟩ rfl rfl rfl rfl rfl (by kernel_rfl) Try.func5 (by kernel_rfl)
    (of_decide_eq_true (by kernel_rfl)) (by unfold Func.isWrapper; first | (rw [if_pos (by decide +kernel)]; kernel_rfl) | (rw [if_neg (by decide +kernel)]; exact ⟨rfl, rfl⟩))
    (fun os started H enc _ => law_lifted (C := Try.checked) (s := Rows.diskAllSpec) own started (by kernel_rfl) Try.func5 laidOut rfl rfl Try.underlying4
      (by have h : ∀ u ∈ Try.f5.params.toList, (Try.prog.readableRec u && decide (u < Try.prog.types.size)) = true := List.all_eq_true.1 (by kernel_rfl)
          intro u hu; have := h u hu; rw [Bool.and_eq_true, decide_eq_true_eq] at this; exact this)
      (by intro H l hl; rw [show Try.f5.params.size = 2 from by rw [Try.params5]; rfl] at hl; match l, hl with | [d0, d1], _ => rfl)
      H enc (ChangeSpec.witness6 (enc := enc) (C := Try.checked) false ⟨#[], #[.slice none 0 0, .slice none 0 0], []⟩ 8 (by kernel_rfl) (by kernel_rfl) (by kernel_rfl) (by kernel_rfl)) all_walk)
#print axioms DiskAll_holds
end Go.Proofs.Ytldkokngbnaimaa
