/- DiskApart holds: a disk and its copy go their own ways. Conditions: none beyond the row's own. -/
import Derived.Test.YtldkokngbnaimaaDskWant
namespace Go.Proofs.Ytldkokngbnaimaa
set_option linter.unusedVariables false
set_option linter.unusedSimpArgs false
open Go.ChangeShapes Go.WideShapes Go.ChangeAt Go.RowKit
attribute [local go_sem] zeroValueB zeroValueA
attribute [local simp, local go_sem] want_ne

theorem look_add (d : Dk) (p : Wr) (n : Int) : (d.add p).look n = if n = p.1 then p.2 else d.look n := by
  unfold Dk.look
  show Dk.lay d.on (d.wait ++ [p]) n = _
  rw [Dk.lay_snoc]
  rfl

theorem tm64 (c : UInt8) : 0 ≤ (c.toNat : Int).tmod 64 ∧ (c.toNat : Int).tmod 64 < 64 := by
  rw [Int.tmod_eq_emod_of_nonneg (by omega)]
  omega
theorem ac_list (l : List UInt8) : (ac l).toList = bc l := by simp [ac]

set_option maxRecDepth 100000 in
set_option maxHeartbeats 12800000 in
theorem apart_any (a b : Value) (l m : List UInt8) (fl : Bool) (kv : Value) (Kp : List Bool) (w : World) (hl : BytesV w a l) (hm : BytesV w b m) (hk : BoolsV w kv Kp) :
    Calls Try.prog 8 #[a, b, .bool fl, kv] w fun e w' => e = .returned (.bool true) ∧ Below w.heap.size w w' := by
  have HL := Lib.hid hl
  have HMm := Lib.hid hm
  have HK := Lib.hid hk
  obtain ⟨LA, lc, rfl, l1, l2, l3, l4⟩ := hl
  obtain ⟨MA, mc, rfl, k1, k2, k3, k4⟩ := hm
  obtain ⟨KA, kc, rfl, j1, j2, j3, j4⟩ := hk
  clear l3 l4 k3 k4 j3 j4
  unfold maxLen at l2 k2 j2
  have WK := Lib.hid works_any
  have NW := Lib.hid (fun W : World => New_any (fun _ => False) 64 W (by decide) (by decide))
  by_cases h1 : (200 : Int) < (l.length : Int)
  · go_enter Try.func8, Try.ntmps8
    go_wp2_with fail
    refine (NW.out _).mono ?_; rintro e w0 ⟨rfl, _, b0⟩
    have s0 := b0.size
    go_wp2_with fail
    refine (WK.out _).mono ?_; rintro e w1 ⟨rfl, hw1⟩
    have b1 : Below w.heap.size w w1 := chain (by repeat' (first | (with_reducible exact Below.refl _ _) | (with_reducible assumption) | (with_reducible refine below_drewN ?_ _) | (with_reducible refine Below.alloc ?_ ?_ _) | (with_reducible refine Below.drew ?_) | (with_reducible refine Below.setCell ?_ ?_ _) | go_size)) hw1
    have s1 := b1.size
    go_wp2_with fail
    refine (WK.out _).mono ?_; rintro e w2 ⟨rfl, hw2⟩
    have b2 : Below w.heap.size w w2 := chain (by repeat' (first | (with_reducible exact Below.refl _ _) | (with_reducible assumption) | (with_reducible refine below_drewN ?_ _) | (with_reducible refine Below.alloc ?_ ?_ _) | (with_reducible refine Below.drew ?_) | (with_reducible refine Below.setCell ?_ ?_ _) | go_size)) hw2
    have s2 := b2.size
    go_wp2_with fail
    go_ret
    exact ⟨rfl, by assumption⟩
  by_cases h2 : (200 : Int) < (m.length : Int)
  · go_enter Try.func8, Try.ntmps8
    go_wp2_with fail
    refine (NW.out _).mono ?_; rintro e w0 ⟨rfl, _, b0⟩
    have s0 := b0.size
    go_wp2_with fail
    refine (WK.out _).mono ?_; rintro e w1 ⟨rfl, hw1⟩
    have b1 : Below w.heap.size w w1 := chain (by repeat' (first | (with_reducible exact Below.refl _ _) | (with_reducible assumption) | (with_reducible refine below_drewN ?_ _) | (with_reducible refine Below.alloc ?_ ?_ _) | (with_reducible refine Below.drew ?_) | (with_reducible refine Below.setCell ?_ ?_ _) | go_size)) hw1
    have s1 := b1.size
    go_wp2_with fail
    refine (WK.out _).mono ?_; rintro e w2 ⟨rfl, hw2⟩
    have b2 : Below w.heap.size w w2 := chain (by repeat' (first | (with_reducible exact Below.refl _ _) | (with_reducible assumption) | (with_reducible refine below_drewN ?_ _) | (with_reducible refine Below.alloc ?_ ?_ _) | (with_reducible refine Below.drew ?_) | (with_reducible refine Below.setCell ?_ ?_ _) | go_size)) hw2
    have s2 := b2.size
    go_wp2_with fail
    go_ret
    exact ⟨rfl, by assumption⟩
  by_cases h3 : (400 : Int) < (Kp.length : Int)
  · go_enter Try.func8, Try.ntmps8
    go_wp2_with fail
    refine (NW.out _).mono ?_; rintro e w0 ⟨rfl, _, b0⟩
    have s0 := b0.size
    go_wp2_with fail
    refine (WK.out _).mono ?_; rintro e w1 ⟨rfl, hw1⟩
    have b1 : Below w.heap.size w w1 := chain (by repeat' (first | (with_reducible exact Below.refl _ _) | (with_reducible assumption) | (with_reducible refine below_drewN ?_ _) | (with_reducible refine Below.alloc ?_ ?_ _) | (with_reducible refine Below.drew ?_) | (with_reducible refine Below.setCell ?_ ?_ _) | go_size)) hw1
    have s1 := b1.size
    go_wp2_with fail
    refine (WK.out _).mono ?_; rintro e w2 ⟨rfl, hw2⟩
    have b2 : Below w.heap.size w w2 := chain (by repeat' (first | (with_reducible exact Below.refl _ _) | (with_reducible assumption) | (with_reducible refine below_drewN ?_ _) | (with_reducible refine Below.alloc ?_ ?_ _) | (with_reducible refine Below.drew ?_) | (with_reducible refine Below.setCell ?_ ?_ _) | go_size)) hw2
    have s2 := b2.size
    go_wp2_with fail
    go_ret
    exact ⟨rfl, by assumption⟩
  go_enter Try.func8, Try.ntmps8
  go_wp2_with fail
  refine (new_m (own := []) 2 64 _ (Many.none w.heap.size w) (by decide) (by simp) (Nat.le_refl _) (by decide) (by decide) (d' := Dk.new 64) rfl).mono ?_; rintro e w1 ⟨g1, rfl, hm1, hb1, _⟩
  have HM1 := Lib.hid hm1
  clear hm1
  go_wp2_with fail
  refine (WK.out _).mono ?_; rintro e w2 ⟨rfl, hw2⟩
  have b2 := chain hb1 hw2
  have HM3 := Lib.hid ((HM1.out.below hw2).mine (.cells (ac (zs 32768)) 58))
  have HW3 := Lib.hid (WA.new w2)
  have b3 := b2.alloc b2.size (.cells (ac (zs 32768)) 58)
  have hgl : w.heap.size ≤ w2.heap.size := b2.size
  clear HM1 hw2
  go_wp2_with fail
  generalize w2.alloc (.cells (ac (zs 32768)) 58) = w3 at *
  generalize w2.heap.size = ga at *
  clear b2
  go_loopw [12] (fun i W => ∃ (q : Nat) (D : Dk) (f : Nat → List UInt8), q ≤ l.length ∧ i = .int .i64 q ∧ D.Plain ∧ D.sum ≤ q ∧ D.wait.length = q ∧ Many w.heap.size [ga] W [(2, g1, D)] ∧ WA W ga f ∧ (∀ n : Nat, n < 64 → D.look (n : Int) = f n) ∧ Below w.heap.size w W) (fun i _ => l.length - (intOf i).toNat)
  case atStart => exact ⟨0, Dk.new 64, _, by omega, rfl, Dk.Plain.new, Nat.zero_le _, rfl, HM3.out, HW3.out, fun n hn => rfl, b3⟩
  case round =>
    obtain ⟨q, D, f, hq, rfl, hP, hs, hwl, hm, hwa, hlk, hb⟩ := hrel
    have HM := Lib.hid hm
    have HP := Lib.hid hP
    have HWA := Lib.hid hwa
    have HLK := Lib.hid hlk
    have HWL := Lib.hid hwl
    clear hm hP hwa hlk hwl HM3 HW3
    by_cases hlt : q < l.length
    · have hq2 : (q : Int) < (l.length : Int) := by omega
      obtain ⟨lb, lo, rfl, hlb, hlc⟩ := HL.out.at (i := q) hlt
      have hlc' : wr.cell? ⟨lb, lo + q, none⟩ = some (.int .u8 ((l[q]'hlt).toNat : Int)) := (hb.cell (p := ⟨lb, lo + q, none⟩) hlb).trans hlc
      clear hlc
      generalize l[q]'hlt = c at *
      have hN0 : (0 : Int) ≤ ((c.toNat % 64 : Nat) : Int) := by omega
      have hN1 : ((c.toNat % 64 : Nat) : Int) < 64 := by omega
      go_wp2_with fail
      have hV1 : wr.drew.cell? ⟨lb, lo + q, none⟩ = some (.int .u8 (c.toNat : Int)) := hlc'
      have HV1 : Hid (Many w.heap.size [ga] wr.drew [(2, g1, D)]) := Lib.hid HM.out.drew
      have bV1 : Below w.heap.size w wr.drew := hb.drew
      have hwV1 : WA wr.drew ga f := HWA.out.stay rfl
      refine wp_region_held_drew (S := fun W => W.cell? ⟨lb, lo + q, none⟩ = some (.int .u8 (c.toNat : Int))) (by kernel_rfl) hV1 (fun hHeld => ?_)
      generalize wr.drew = V1 at *
      refine wpAnyH_take (i := 0) (oi := _) (v := ?_) rfl (by kernel_rfl) (by kernel_rfl) (by kernel_rfl) (fun _ _ _ h => h) (Or.inl ⟨by rfl, ?_⟩) (by assumption) ?_
      rotate_left
      · (intro w hSw; (try dsimp only at hSw); (try go_split_ands); go_simp; (try with_reducible rfl))
      (try simp only [List.getElem_toArray, List.getElem_cons_zero, List.getElem_cons_succ, Act.put, List.setIfInBounds_toArray, List.set_cons_zero, List.set_cons_succ])
      refine wpAnyH_take (i := 1) (oi := _) (v := ?_) rfl (by kernel_rfl) (by kernel_rfl) (by kernel_rfl) (fun _ _ _ h => h) (Or.inl ⟨by rfl, ?_⟩) (by assumption) ?_
      rotate_left
      · (intro w hSw; (try dsimp only at hSw); (try go_split_ands); go_simp; (try with_reducible rfl))
      (try simp only [List.getElem_toArray, List.getElem_cons_zero, List.getElem_cons_succ, Act.put, List.setIfInBounds_toArray, List.set_cons_zero, List.set_cons_succ])
      refine wpAnyH_take (i := 2) (oi := _) (v := ?_) rfl (by kernel_rfl) (by kernel_rfl) (by kernel_rfl) (fun _ _ _ h => h) (Or.inl ⟨by rfl, ?_⟩) (by assumption) ?_
      rotate_left
      · (intro w hSw; (try dsimp only at hSw); (try go_split_ands); go_simp; (try with_reducible rfl))
      (try simp only [List.getElem_toArray, List.getElem_cons_zero, List.getElem_cons_succ, Act.put, List.setIfInBounds_toArray, List.set_cons_zero, List.set_cons_succ])
      refine wpAnyH_take (i := 3) (oi := _) (v := ?_) rfl (by kernel_rfl) (by kernel_rfl) (by kernel_rfl) (fun _ _ _ h => h) (Or.inl ⟨by rfl, ?_⟩) (by assumption) ?_
      rotate_left
      · (intro w hSw; (try dsimp only at hSw); (try go_split_ands); go_simp; (try with_reducible rfl))
      (try simp only [List.getElem_toArray, List.getElem_cons_zero, List.getElem_cons_succ, Act.put, List.setIfInBounds_toArray, List.set_cons_zero, List.set_cons_succ])
      refine wpAnyH_take (i := 4) (oi := _) (v := ?_) rfl (by kernel_rfl) (by kernel_rfl) (by kernel_rfl) (fun _ _ _ h => h) (Or.inl ⟨by rfl, ?_⟩) (by assumption) ?_
      rotate_left
      · (intro w hSw; (try dsimp only at hSw); (try go_split_ands); go_simp; (try with_reducible rfl))
      (try simp only [List.getElem_toArray, List.getElem_cons_zero, List.getElem_cons_succ, Act.put, List.setIfInBounds_toArray, List.set_cons_zero, List.set_cons_succ])
      refine wpAnyH_take (i := 5) (oi := _) (v := ?_) rfl (by kernel_rfl) (by kernel_rfl) (by kernel_rfl) (fun _ _ _ h => h) (Or.inl ⟨by rfl, ?_⟩) (by assumption) ?_
      rotate_left
      · (intro w hSw; (try dsimp only at hSw); (try go_split_ands); go_simp; (try with_reducible rfl))
      (try simp only [List.getElem_toArray, List.getElem_cons_zero, List.getElem_cons_succ, Act.put, List.setIfInBounds_toArray, List.set_cons_zero, List.set_cons_succ])
      refine wpAnyH_take (i := 6) (oi := _) (v := ?_) rfl (by kernel_rfl) (by kernel_rfl) (by kernel_rfl) (fun _ _ _ h => h) (Or.inl ⟨by rfl, ?_⟩) (by assumption) ?_
      rotate_left
      · (intro w hSw; (try dsimp only at hSw); (try go_split_ands); go_simp; (try with_reducible rfl))
      (try simp only [List.getElem_toArray, List.getElem_cons_zero, List.getElem_cons_succ, Act.put, List.setIfInBounds_toArray, List.set_cons_zero, List.set_cons_succ])
      refine wpAnyH_take (i := 7) (oi := _) (v := ?_) rfl (by kernel_rfl) (by kernel_rfl) (by kernel_rfl) (fun _ _ _ h => h) (Or.inl ⟨by rfl, ?_⟩) (by assumption) ?_
      rotate_left
      · (intro w hSw; (try dsimp only at hSw); (try go_split_ands); go_simp; (try with_reducible rfl))
      (try simp only [List.getElem_toArray, List.getElem_cons_zero, List.getElem_cons_succ, Act.put, List.setIfInBounds_toArray, List.set_cons_zero, List.set_cons_succ])
      refine wpAnyH_take (i := 8) (oi := _) (v := ?_) rfl (by kernel_rfl) (by kernel_rfl) (by kernel_rfl) (fun _ _ _ h => h) (Or.inl ⟨by rfl, ?_⟩) (by assumption) ?_
      rotate_left
      · (intro w hSw; (try dsimp only at hSw); (try go_split_ands); go_simp; (try with_reducible rfl))
      (try simp only [List.getElem_toArray, List.getElem_cons_zero, List.getElem_cons_succ, Act.put, List.setIfInBounds_toArray, List.set_cons_zero, List.set_cons_succ])
      refine wpAnyH_take (i := 9) (oi := _) (v := ?_) rfl (by kernel_rfl) (by kernel_rfl) (by kernel_rfl) (fun _ _ _ h => h) (Or.inl ⟨by rfl, ?_⟩) (by assumption) ?_
      rotate_left
      · (intro w hSw; (try dsimp only at hSw); (try go_split_ands); go_simp; (try with_reducible rfl))
      (try simp only [List.getElem_toArray, List.getElem_cons_zero, List.getElem_cons_succ, Act.put, List.setIfInBounds_toArray, List.set_cons_zero, List.set_cons_succ])
      refine wpAnyH_take (i := 10) (oi := _) (v := ?_) rfl (by kernel_rfl) (by kernel_rfl) (by kernel_rfl) (fun _ _ _ h => h) (Or.inl ⟨by rfl, ?_⟩) (by assumption) ?_
      rotate_left
      · (intro w hSw; (try dsimp only at hSw); (try go_split_ands); go_simp; (try with_reducible rfl))
      (try simp only [List.getElem_toArray, List.getElem_cons_zero, List.getElem_cons_succ, Act.put, List.setIfInBounds_toArray, List.set_cons_zero, List.set_cons_succ])
      refine wpAnyH_ready (rs := [11]) (by kernel_rfl) (by simp) ?_
      refine AllReadyH.cons (o := _) rfl (fun K hK => ?_) AllReadyH.nil
      (try simp only [List.getElem_toArray, List.getElem_cons_zero, List.getElem_cons_succ])
      go_simp
      refine (block_m c _ (rfl) _ HV1.out bV1.size).mono ?_; rintro e wa1 ⟨rfl, hma1, hba1, hsa1⟩
      have ba1 := bV1.trans hba1
      have ca1 : wa1.cell? ⟨lb, lo + q, none⟩ = some (.int .u8 (c.toNat : Int)) := (hba1.cell (p := ⟨lb, lo + q, none⟩) hlb).trans hV1
      refine hK.out _ _ (ca1) (fun hHeld => ?_)
      clear hK K
      (try simp only [List.getElem_toArray, List.getElem_cons_zero, List.getElem_cons_succ, Act.put, List.setIfInBounds_toArray, List.set_cons_zero, List.set_cons_succ])
      refine wpAnyH_ready (rs := [12]) (by kernel_rfl) (by simp) ?_
      refine AllReadyH.cons (o := _) rfl (fun K hK => ?_) AllReadyH.nil
      (try simp only [List.getElem_toArray, List.getElem_cons_zero, List.getElem_cons_succ])
      go_simp
      rw [n64]
      refine (write_m _ (mkB (c)) _ hma1 (by simp) ba1.size (mkB_len _) (by omega) (E := 0) (HP.out.write hN0 hN1 (mkB c)).2 (HP.out.write hN0 hN1 (mkB c)).1).mono ?_; rintro e wb1 ⟨rfl, hmb1, hbb1, hsb1⟩
      have bb1 := ba1.trans hbb1
      have cb1 : wb1.cell? ⟨lb, lo + q, none⟩ = some (.int .u8 (c.toNat : Int)) := (hbb1.cell (p := ⟨lb, lo + q, none⟩) hlb).trans ca1
      refine hK.out _ _ (cb1) (fun hHeld => ?_)
      clear hK K
      (try simp only [List.getElem_toArray, List.getElem_cons_zero, List.getElem_cons_succ, Act.put, List.setIfInBounds_toArray, List.set_cons_zero, List.set_cons_succ])
      refine wpAnyH_take (i := 13) (oi := _) (v := ?_) rfl (by kernel_rfl) (by kernel_rfl) (by kernel_rfl) (fun _ _ _ h => h) (Or.inl ⟨by rfl, ?_⟩) (by assumption) ?_
      rotate_left
      · (intro w hSw; (try dsimp only at hSw); (try go_split_ands); go_simp; (try with_reducible rfl))
      (try simp only [List.getElem_toArray, List.getElem_cons_zero, List.getElem_cons_succ, Act.put, List.setIfInBounds_toArray, List.set_cons_zero, List.set_cons_succ])
      refine wpAnyH_done (by kernel_rfl) ?_ _
      have HB1 := Lib.hid hmb1
      clear hma1 hmb1 HV1
      have hwb : WA wb1 ga f := (hwV1.stay (hsa1 ga (by simp))).stay (hsb1 ga (by simp))
      have HWB := Lib.hid hwb
      clear hwb hwV1 hsa1 hsb1 HWA
      go_wp2_with fail
      have hV2 : wb1.drew.cell? ⟨lb, lo + q, none⟩ = some (.int .u8 (c.toNat : Int)) := cb1
      have HV2 : Hid (Many w.heap.size [ga] wb1.drew [(2, g1, D.add (((c.toNat % 64 : Nat) : Int), mkB c))]) := Lib.hid HB1.out.drew
      have bV2 : Below w.heap.size w wb1.drew := bb1.drew
      have hwV2 : WA wb1.drew ga f := HWB.out.stay rfl
      refine wp_region_held_drew (S := fun W => W.cell? ⟨lb, lo + q, none⟩ = some (.int .u8 (c.toNat : Int))) (by kernel_rfl) hV2 (fun hHeld => ?_)
      generalize wb1.drew = V2 at *
      refine wpAnyH_take (i := 0) (oi := _) (v := ?_) rfl (by kernel_rfl) (by kernel_rfl) (by kernel_rfl) (fun _ _ _ h => h) (Or.inl ⟨by rfl, ?_⟩) (by assumption) ?_
      rotate_left
      · (intro w hSw; (try dsimp only at hSw); (try go_split_ands); go_simp; (try with_reducible rfl))
      (try simp only [List.getElem_toArray, List.getElem_cons_zero, List.getElem_cons_succ, Act.put, List.setIfInBounds_toArray, List.set_cons_zero, List.set_cons_succ])
      refine wpAnyH_take (i := 1) (oi := _) (v := ?_) rfl (by kernel_rfl) (by kernel_rfl) (by kernel_rfl) (fun _ _ _ h => h) (Or.inl ⟨by rfl, ?_⟩) (by assumption) ?_
      rotate_left
      · (intro w hSw; (try dsimp only at hSw); (try go_split_ands); go_simp; (try with_reducible rfl))
      (try simp only [List.getElem_toArray, List.getElem_cons_zero, List.getElem_cons_succ, Act.put, List.setIfInBounds_toArray, List.set_cons_zero, List.set_cons_succ])
      refine wpAnyH_take (i := 2) (oi := _) (v := ?_) rfl (by kernel_rfl) (by kernel_rfl) (by kernel_rfl) (fun _ _ _ h => h) (Or.inl ⟨by rfl, ?_⟩) (by assumption) ?_
      rotate_left
      · (intro w hSw; (try dsimp only at hSw); (try go_split_ands); go_simp; (try with_reducible rfl))
      (try simp only [List.getElem_toArray, List.getElem_cons_zero, List.getElem_cons_succ, Act.put, List.setIfInBounds_toArray, List.set_cons_zero, List.set_cons_succ])
      refine wpAnyH_take (i := 3) (oi := _) (v := ?_) rfl (by kernel_rfl) (by kernel_rfl) (by kernel_rfl) (fun _ _ _ h => h) (Or.inl ⟨by rfl, ?_⟩) (by assumption) ?_
      rotate_left
      · (intro w hSw; (try dsimp only at hSw); (try go_split_ands); go_simp; (try with_reducible rfl))
      (try simp only [List.getElem_toArray, List.getElem_cons_zero, List.getElem_cons_succ, Act.put, List.setIfInBounds_toArray, List.set_cons_zero, List.set_cons_succ])
      refine wpAnyH_take (i := 4) (oi := _) (v := ?_) rfl (by kernel_rfl) (by kernel_rfl) (by kernel_rfl) (fun _ _ _ h => h) (Or.inl ⟨by rfl, ?_⟩) (by assumption) ?_
      rotate_left
      · (intro w hSw; (try dsimp only at hSw); (try go_split_ands); go_simp; (try with_reducible rfl))
      (try simp only [List.getElem_toArray, List.getElem_cons_zero, List.getElem_cons_succ, Act.put, List.setIfInBounds_toArray, List.set_cons_zero, List.set_cons_succ])
      refine wpAnyH_take (i := 5) (oi := _) (v := ?_) rfl (by kernel_rfl) (by kernel_rfl) (by kernel_rfl) (fun _ _ _ h => h) (Or.inl ⟨by rfl, ?_⟩) (by assumption) ?_
      rotate_left
      · (intro w hSw; (try dsimp only at hSw); (try go_split_ands); go_simp; (try with_reducible rfl))
      (try simp only [List.getElem_toArray, List.getElem_cons_zero, List.getElem_cons_succ, Act.put, List.setIfInBounds_toArray, List.set_cons_zero, List.set_cons_succ])
      refine wpAnyH_take (i := 6) (oi := _) (v := ?_) rfl (by kernel_rfl) (by kernel_rfl) (by kernel_rfl) (fun _ _ _ h => h) (Or.inl ⟨by rfl, ?_⟩) (by assumption) ?_
      rotate_left
      · (intro w hSw; (try dsimp only at hSw); (try go_split_ands); go_simp; (try with_reducible rfl))
      (try simp only [List.getElem_toArray, List.getElem_cons_zero, List.getElem_cons_succ, Act.put, List.setIfInBounds_toArray, List.set_cons_zero, List.set_cons_succ])
      refine wpAnyH_take (i := 7) (oi := _) (v := ?_) rfl (by kernel_rfl) (by kernel_rfl) (by kernel_rfl) (fun _ _ _ h => h) (Or.inl ⟨by rfl, ?_⟩) (by assumption) ?_
      rotate_left
      · (intro w hSw; (try dsimp only at hSw); (try go_split_ands); go_simp; (try with_reducible rfl))
      (try simp only [List.getElem_toArray, List.getElem_cons_zero, List.getElem_cons_succ, Act.put, List.setIfInBounds_toArray, List.set_cons_zero, List.set_cons_succ])
      refine wpAnyH_take (i := 8) (oi := _) (v := ?_) rfl (by kernel_rfl) (by kernel_rfl) (by kernel_rfl) (fun _ _ _ h => h) (Or.inl ⟨by rfl, ?_⟩) (by assumption) ?_
      rotate_left
      · (intro w hSw; (try dsimp only at hSw); (try go_split_ands); go_simp; (try with_reducible rfl))
      (try simp only [List.getElem_toArray, List.getElem_cons_zero, List.getElem_cons_succ, Act.put, List.setIfInBounds_toArray, List.set_cons_zero, List.set_cons_succ])
      refine wpAnyH_ready (rs := [9]) (by kernel_rfl) (by simp) ?_
      refine AllReadyH.cons (o := _) rfl (fun K hK => ?_) AllReadyH.nil
      (try simp only [List.getElem_toArray, List.getElem_cons_zero, List.getElem_cons_succ])
      go_simp
      refine (block_m c _ rfl _ HV2.out bV2.size).mono ?_; rintro e wa2 ⟨rfl, hma2, hba2, hsa2⟩
      have ba2 := bV2.trans hba2
      have ca2 := (hba2.cell (p := ⟨lb, lo + q, none⟩) hlb).trans hV2
      have hwA2 := hwV2.stay (hsa2 ga (by simp))
      refine hK.out _ _ (ca2) (fun hHeld => ?_)
      clear hK K
      (try simp only [List.getElem_toArray, List.getElem_cons_zero, List.getElem_cons_succ, Act.put, List.setIfInBounds_toArray, List.set_cons_zero, List.set_cons_succ])
      obtain ⟨tm0, tm1⟩ := tm64 c
      refine wpAnyH_take (i := 10) (oi := _) (v := ?_) rfl (by kernel_rfl) (by kernel_rfl) (by kernel_rfl) (fun _ _ _ h => h) (Or.inl ⟨by rfl, ?_⟩) (by assumption) ?_
      rotate_left
      · (intro w hSw; (try dsimp only at hSw); (try go_split_ands); go_simp; (try with_reducible rfl))
      (try simp only [List.getElem_toArray, List.getElem_cons_zero, List.getElem_cons_succ, Act.put, List.setIfInBounds_toArray, List.set_cons_zero, List.set_cons_succ])
      refine wpAnyH_ready (rs := [11]) (by kernel_rfl) (by simp) ?_
      refine AllReadyH.cons (o := _) rfl (fun K hK => ?_) AllReadyH.nil
      (try simp only [List.getElem_toArray, List.getElem_cons_zero, List.getElem_cons_succ])
      rw [if_pos (by rfl)]
      have hidx : (((c.toNat : Int).tmod 64).toNat) = c.toNat % 64 := by rw [Int.tmod_eq_emod_of_nonneg (by omega)]; omega
      refine wp_store_mid 34 _ _ rfl ga (c.toNat % 64 * 512) (ac (mkB c)) (by rw [← hidx]; rfl) rfl (by rw [ac_size, mkB_len]; exact hwA2.at (by omega)) (by rw [info_blk, ac_size, mkB_len]) (ac_one _) ?_
      rw [ac_list]
      have hgc := grown_cells ga (bc (mkB c)) (c.toNat % 64 * 512) wa2
      have hws := hwA2.set (n := c.toNat % 64) (by omega) (mkB_len c)
      have hms := hma2.own_set (b := ga) (by simp) hgc
      have bws : Below w.heap.size w (wa2.setCells ga (c.toNat % 64 * 512) (bc (mkB c))) := below_row ba2 hgc ba2.size hgl
      have cws := hgc.cell (a := ⟨lb, lo + q, none⟩) ca2 (fun e => by have e : lb = ga := Option.some.inj e; omega)
      refine hK.out _ _ (cws) (fun hHeld => ?_)
      clear hK K
      (try simp only [List.getElem_toArray, List.getElem_cons_zero, List.getElem_cons_succ, Act.put, List.setIfInBounds_toArray, List.set_cons_zero, List.set_cons_succ])
      refine wpAnyH_done (by kernel_rfl) ?_ _
      generalize wa2.setCells ga (c.toNat % 64 * 512) (bc (mkB c)) = wS at *
      have HWS := Lib.hid hws
      have HMS := Lib.hid hms
      clear hws hms hma2 hwA2 hwV2 HV2 hsa2 hgc tm0 tm1 hidx HM HB1 HWB
      go_wp2_with fail
      go_roundw
      case rel =>
        refine ⟨q + 1, D.add (((c.toNat % 64 : Nat) : Int), mkB c), _, by omega, by simp, HP.out.add _, by rw [Dk.sum_add]; omega, by simp [Dk.add, HWL.out], HMS.out, HWS.out, fun n hn => ?_, bws⟩
        rw [look_add, HLK.out n hn]
        by_cases e : n = c.toNat % 64
        · rw [if_pos (by simp [e]), if_pos e]
        · rw [if_neg (fun h => e (by exact Int.ofNat.inj h)), if_neg e]
      case measure => simp [intOf]; omega
    · obtain rfl : q = l.length := by omega
      go_wp2_with fail
      refine (copy_m 3 (i := 2) (d := D) _ HM.out (by simp) (by decide) (by simp) hb.size).mono ?_; rintro e w4 ⟨g3, rfl, hm4, hb4, hs4⟩
      have HM4 := Lib.hid hm4
      have b4 := hb.trans hb4
      have HW4 := Lib.hid (HWA.out.stay (hs4 ga (by simp)))
      clear hm4 hb4 hs4 HM HWA
      go_wp2_with fail
      obtain ⟨wo, hwo⟩ : ∃ wo : World, wo = w4 := ⟨_, rfl⟩
      go_loopw [14] (fun i W => ∃ (q : Nat) (C : Dk), q ≤ m.length ∧ i = .int .i64 q ∧ C.Plain ∧ C.sum ≤ 200 + q ∧ Many w.heap.size [ga] W [(3, g3, C), (2, g1, D)] ∧ WA W ga f ∧ Below w.heap.size w W) (fun i _ => m.length - (intOf i).toNat)
      case atStart => exact ⟨0, D, by omega, rfl, HP.out, by omega, HM4.out, HW4.out, b4⟩
      case round =>
        clear hwo
        obtain ⟨q, C, hq, rfl, hC, hs, hm, hwa, hb⟩ := hrel
        have HMc := Lib.hid hm
        have HPC := Lib.hid hC
        have HWc := Lib.hid hwa
        clear hm hC hwa HM4 HW4
        by_cases hlt : q < m.length
        · have hq2 : (q : Int) < (m.length : Int) := by omega
          obtain ⟨mb, mo, rfl, hmb, hmc⟩ := HMm.out.at (i := q) hlt
          have hmc' : wr.cell? ⟨mb, mo + q, none⟩ = some (.int .u8 ((m[q]'hlt).toNat : Int)) := (hb.cell (p := ⟨mb, mo + q, none⟩) hmb).trans hmc
          clear hmc
          generalize m[q]'hlt = c at *
          have hN0 : (0 : Int) ≤ ((c.toNat % 64 : Nat) : Int) := by omega
          have hN1 : ((c.toNat % 64 : Nat) : Int) < 64 := by omega
          have hc1 := u8_succ c
          go_wp2_with fail
          have hV5 : wr.drew.cell? ⟨mb, mo + q, none⟩ = some (.int .u8 (c.toNat : Int)) := hmc'
          have HV5 : Hid (Many w.heap.size [ga] wr.drew [(3, g3, C), (2, g1, D)]) := Lib.hid HMc.out.drew
          have bV5 : Below w.heap.size w wr.drew := hb.drew
          have hwV5 : WA wr.drew ga f := HWc.out.stay rfl
          refine wp_region_held_drew (S := fun W => W.cell? ⟨mb, mo + q, none⟩ = some (.int .u8 (c.toNat : Int))) (by kernel_rfl) hV5 (fun hHeld => ?_)
          generalize wr.drew = V5 at *
          refine wpAnyH_take (i := 0) (oi := _) (v := ?_) rfl (by kernel_rfl) (by kernel_rfl) (by kernel_rfl) (fun _ _ _ h => h) (Or.inl ⟨by rfl, ?_⟩) (by assumption) ?_
          rotate_left
          · (intro w hSw; (try dsimp only at hSw); (try go_split_ands); go_simp; (try with_reducible rfl))
          (try simp only [List.getElem_toArray, List.getElem_cons_zero, List.getElem_cons_succ, Act.put, List.setIfInBounds_toArray, List.set_cons_zero, List.set_cons_succ])
          refine wpAnyH_take (i := 1) (oi := _) (v := ?_) rfl (by kernel_rfl) (by kernel_rfl) (by kernel_rfl) (fun _ _ _ h => h) (Or.inl ⟨by rfl, ?_⟩) (by assumption) ?_
          rotate_left
          · (intro w hSw; (try dsimp only at hSw); (try go_split_ands); go_simp; (try with_reducible rfl))
          (try simp only [List.getElem_toArray, List.getElem_cons_zero, List.getElem_cons_succ, Act.put, List.setIfInBounds_toArray, List.set_cons_zero, List.set_cons_succ])
          refine wpAnyH_take (i := 2) (oi := _) (v := ?_) rfl (by kernel_rfl) (by kernel_rfl) (by kernel_rfl) (fun _ _ _ h => h) (Or.inl ⟨by rfl, ?_⟩) (by assumption) ?_
          rotate_left
          · (intro w hSw; (try dsimp only at hSw); (try go_split_ands); go_simp; (try with_reducible rfl))
          (try simp only [List.getElem_toArray, List.getElem_cons_zero, List.getElem_cons_succ, Act.put, List.setIfInBounds_toArray, List.set_cons_zero, List.set_cons_succ])
          refine wpAnyH_take (i := 3) (oi := _) (v := ?_) rfl (by kernel_rfl) (by kernel_rfl) (by kernel_rfl) (fun _ _ _ h => h) (Or.inl ⟨by rfl, ?_⟩) (by assumption) ?_
          rotate_left
          · (intro w hSw; (try dsimp only at hSw); (try go_split_ands); go_simp; (try with_reducible rfl))
          (try simp only [List.getElem_toArray, List.getElem_cons_zero, List.getElem_cons_succ, Act.put, List.setIfInBounds_toArray, List.set_cons_zero, List.set_cons_succ])
          refine wpAnyH_take (i := 4) (oi := _) (v := ?_) rfl (by kernel_rfl) (by kernel_rfl) (by kernel_rfl) (fun _ _ _ h => h) (Or.inl ⟨by rfl, ?_⟩) (by assumption) ?_
          rotate_left
          · (intro w hSw; (try dsimp only at hSw); (try go_split_ands); go_simp; (try with_reducible rfl))
          (try simp only [List.getElem_toArray, List.getElem_cons_zero, List.getElem_cons_succ, Act.put, List.setIfInBounds_toArray, List.set_cons_zero, List.set_cons_succ])
          refine wpAnyH_take (i := 5) (oi := _) (v := ?_) rfl (by kernel_rfl) (by kernel_rfl) (by kernel_rfl) (fun _ _ _ h => h) (Or.inl ⟨by rfl, ?_⟩) (by assumption) ?_
          rotate_left
          · (intro w hSw; (try dsimp only at hSw); (try go_split_ands); go_simp; (try with_reducible rfl))
          (try simp only [List.getElem_toArray, List.getElem_cons_zero, List.getElem_cons_succ, Act.put, List.setIfInBounds_toArray, List.set_cons_zero, List.set_cons_succ])
          refine wpAnyH_take (i := 6) (oi := _) (v := ?_) rfl (by kernel_rfl) (by kernel_rfl) (by kernel_rfl) (fun _ _ _ h => h) (Or.inl ⟨by rfl, ?_⟩) (by assumption) ?_
          rotate_left
          · (intro w hSw; (try dsimp only at hSw); (try go_split_ands); go_simp; (try with_reducible rfl))
          (try simp only [List.getElem_toArray, List.getElem_cons_zero, List.getElem_cons_succ, Act.put, List.setIfInBounds_toArray, List.set_cons_zero, List.set_cons_succ])
          refine wpAnyH_take (i := 7) (oi := _) (v := ?_) rfl (by kernel_rfl) (by kernel_rfl) (by kernel_rfl) (fun _ _ _ h => h) (Or.inl ⟨by rfl, ?_⟩) (by assumption) ?_
          rotate_left
          · (intro w hSw; (try dsimp only at hSw); (try go_split_ands); go_simp; (try with_reducible rfl))
          (try simp only [List.getElem_toArray, List.getElem_cons_zero, List.getElem_cons_succ, Act.put, List.setIfInBounds_toArray, List.set_cons_zero, List.set_cons_succ])
          refine wpAnyH_take (i := 8) (oi := _) (v := ?_) rfl (by kernel_rfl) (by kernel_rfl) (by kernel_rfl) (fun _ _ _ h => h) (Or.inl ⟨by rfl, ?_⟩) (by assumption) ?_
          rotate_left
          · (intro w hSw; (try dsimp only at hSw); (try go_split_ands); go_simp; (try with_reducible rfl))
          (try simp only [List.getElem_toArray, List.getElem_cons_zero, List.getElem_cons_succ, Act.put, List.setIfInBounds_toArray, List.set_cons_zero, List.set_cons_succ])
          refine wpAnyH_take (i := 9) (oi := _) (v := ?_) rfl (by kernel_rfl) (by kernel_rfl) (by kernel_rfl) (fun _ _ _ h => h) (Or.inl ⟨by rfl, ?_⟩) (by assumption) ?_
          rotate_left
          · (intro w hSw; (try dsimp only at hSw); (try go_split_ands); go_simp; (try with_reducible rfl))
          (try simp only [List.getElem_toArray, List.getElem_cons_zero, List.getElem_cons_succ, Act.put, List.setIfInBounds_toArray, List.set_cons_zero, List.set_cons_succ])
          refine wpAnyH_take (i := 10) (oi := _) (v := ?_) rfl (by kernel_rfl) (by kernel_rfl) (by kernel_rfl) (fun _ _ _ h => h) (Or.inl ⟨by rfl, ?_⟩) (by assumption) ?_
          rotate_left
          · (intro w hSw; (try dsimp only at hSw); (try go_split_ands); go_simp; (try with_reducible rfl))
          (try simp only [List.getElem_toArray, List.getElem_cons_zero, List.getElem_cons_succ, Act.put, List.setIfInBounds_toArray, List.set_cons_zero, List.set_cons_succ])
          refine wpAnyH_take (i := 11) (oi := _) (v := ?_) rfl (by kernel_rfl) (by kernel_rfl) (by kernel_rfl) (fun _ _ _ h => h) (Or.inl ⟨by rfl, ?_⟩) (by assumption) ?_
          rotate_left
          · (intro w hSw; (try dsimp only at hSw); (try go_split_ands); go_simp; (try with_reducible rfl))
          (try simp only [List.getElem_toArray, List.getElem_cons_zero, List.getElem_cons_succ, Act.put, List.setIfInBounds_toArray, List.set_cons_zero, List.set_cons_succ])
          refine wpAnyH_ready (rs := [12]) (by kernel_rfl) (by simp) ?_
          refine AllReadyH.cons (o := _) rfl (fun K hK => ?_) AllReadyH.nil
          (try simp only [List.getElem_toArray, List.getElem_cons_zero, List.getElem_cons_succ])
          go_simp
          refine (block_m (c + 1) _ (hc1) _ HV5.out bV5.size).mono ?_; rintro e wa5 ⟨rfl, hma5, hba5, hsa5⟩
          have ba5 := bV5.trans hba5
          have ca5 : wa5.cell? ⟨mb, mo + q, none⟩ = some (.int .u8 (c.toNat : Int)) := (hba5.cell (p := ⟨mb, mo + q, none⟩) hmb).trans hV5
          refine hK.out _ _ (ca5) (fun hHeld => ?_)
          clear hK K
          (try simp only [List.getElem_toArray, List.getElem_cons_zero, List.getElem_cons_succ, Act.put, List.setIfInBounds_toArray, List.set_cons_zero, List.set_cons_succ])
          refine wpAnyH_ready (rs := [13]) (by kernel_rfl) (by simp) ?_
          refine AllReadyH.cons (o := _) rfl (fun K hK => ?_) AllReadyH.nil
          (try simp only [List.getElem_toArray, List.getElem_cons_zero, List.getElem_cons_succ])
          go_simp
          rw [n64]
          refine (write_m _ (mkB ((c + 1))) _ hma5 (by simp) ba5.size (mkB_len _) (by omega) (E := 0) (HPC.out.write hN0 hN1 (mkB (c + 1))).2 (HPC.out.write hN0 hN1 (mkB (c + 1))).1).mono ?_; rintro e wb5 ⟨rfl, hmb5, hbb5, hsb5⟩
          have bb5 := ba5.trans hbb5
          have cb5 : wb5.cell? ⟨mb, mo + q, none⟩ = some (.int .u8 (c.toNat : Int)) := (hbb5.cell (p := ⟨mb, mo + q, none⟩) hmb).trans ca5
          refine hK.out _ _ (cb5) (fun hHeld => ?_)
          clear hK K
          (try simp only [List.getElem_toArray, List.getElem_cons_zero, List.getElem_cons_succ, Act.put, List.setIfInBounds_toArray, List.set_cons_zero, List.set_cons_succ])
          refine wpAnyH_take (i := 14) (oi := _) (v := ?_) rfl (by kernel_rfl) (by kernel_rfl) (by kernel_rfl) (fun _ _ _ h => h) (Or.inl ⟨by rfl, ?_⟩) (by assumption) ?_
          rotate_left
          · (intro w hSw; (try dsimp only at hSw); (try go_split_ands); go_simp; (try with_reducible rfl))
          (try simp only [List.getElem_toArray, List.getElem_cons_zero, List.getElem_cons_succ, Act.put, List.setIfInBounds_toArray, List.set_cons_zero, List.set_cons_succ])
          refine wpAnyH_done (by kernel_rfl) ?_ _
          have HB5 := Lib.hid hmb5
          clear hma5 hmb5 HV5
          have hwb : WA wb5 ga f := (hwV5.stay (hsa5 ga (by simp))).stay (hsb5 ga (by simp))
          have HWB := Lib.hid hwb
          clear hwb hwV5 hsa5 hsb5 HWc
          go_wp2_with fail
          go_roundw
          case rel => exact ⟨q + 1, C.add (((c.toNat % 64 : Nat) : Int), mkB (c + 1)), by omega, by simp, HPC.out.add _, by rw [Dk.sum_add]; omega, HB5.out, HWB.out, bb5⟩
          case measure => simp [intOf]; omega
        · obtain rfl : q = m.length := by omega
          cases fl with
          | true =>
            go_wp2_with fail
            refine (flush_m _ HMc.out (by simp) hb.size (E := 0) HPC.out.flush.2 HPC.out.flush.1).mono ?_; rintro e w5 ⟨rfl, hm5, hb5, hs5⟩
            have HM5 := Lib.hid hm5
            have b5 := hb.trans hb5
            have HW5 := Lib.hid (HWc.out.stay (hs5 ga (by simp)))
            clear hm5 hb5 hs5 HMc HWc
            go_wp2_with fail
            refine (fail_m _ Kp _ HM5.out (by simp) b5.size (HK.out.below (b5.mono (Nat.le_refl _))) (E := 0) (HPC.out.settle.fail Kp).2 (HPC.out.settle.fail Kp).1).mono ?_; rintro e w6 ⟨rfl, hm6, hb6, hs6⟩
            have HM6 := Lib.hid hm6
            have b6 := b5.trans hb6
            have HW6 := Lib.hid (HW5.out.stay (hs6 ga (by simp)))
            clear hm6 hb6 hs6 HM5 HW5
            go_wp2_with fail
            refine (dead_m (i := 3) (d := C.settle.fail Kp) _ HM6.out (by simp) (r := true) rfl).mono ?_; rintro e w7 ⟨rfl, hm7, hb7, hs7⟩
            have HM7 := Lib.hid hm7
            have b7 := b6.trans hb7
            have HW7 := Lib.hid (HW6.out.stay (hs7 ga (by simp)))
            clear hm7 hb7 hs7 HM6 HW6
            go_wp2_with fail
            refine (dead_m (i := 2) (d := D) _ HM7.out (by simp) (r := false) HP.out.dead).mono ?_; rintro e w8 ⟨rfl, hm8, hb8, hs8⟩
            have HM8 := Lib.hid (hm8.sub (own' := [ga]) (l' := [(2, g1, D)]) (fun _ h => h) (by simp))
            have b8 := b7.trans hb8
            have HW8 := Lib.hid (HW7.out.stay (hs8 ga (by simp)))
            clear hm8 hb8 hs8 HM7 HW7
            go_wp2_with fail
            refine (waiting_m (i := 2) (d := D) _ HM8.out (by simp) (n := (l.length : Int)) (by rw [HWL.out])).mono ?_; rintro e w9 ⟨rfl, hm9, hb9, hs9⟩
            have HM9 := Lib.hid hm9
            have b9 := b8.trans hb9
            have HW9 := Lib.hid (HW8.out.stay (hs9 ga (by simp)))
            clear hm9 hb9 hs9 HM8 HW8
            go_wp2_with fail
            obtain ⟨wo2, hwo2⟩ : ∃ wo2 : World, wo2 = w9 := ⟨_, rfl⟩
            go_loopw [15] (fun i W => ∃ n : Nat, n ≤ 64 ∧ i = .int .i64 n ∧ Many w.heap.size [ga] W [(2, g1, D)] ∧ WA W ga f ∧ Below w.heap.size w W) (fun i _ => 64 - (intOf i).toNat)
            case atStart => exact ⟨0, by omega, rfl, HM9.out, HW9.out, b9⟩
            case round =>
              clear hwo2
              obtain ⟨n, hn, rfl, hm, hwa, hbn⟩ := hrel
              have HMn := Lib.hid hm
              have HWn := Lib.hid hwa
              clear hm hwa HM9 HW9
              by_cases hlt : n < 64
              · have hlt1 : (n : Int) < 64 := by omega
                have hn0 : (0 : Int) ≤ (n : Int) := by omega
                obtain ⟨R, hR⟩ : ∃ R, R = f n := ⟨_, rfl⟩
                have hR5 : R.length = 512 := by rw [hR]; exact HWn.out.len n
                have hrd : D.read (n : Int) = R := by rw [HP.out.read hn0 hlt1, HLK.out n hlt, hR]
                have hrg : ∀ W : World, WA W ga f → W.rangeAt ga (n * 512) (bc R) := fun W hW => by rw [hR]; exact hW.range n hlt
                have HRG := Lib.hid hrg
                have HRD := Lib.hid hrd
                have HR5 := Lib.hid hR5
                have qx := fun W : World => run_eq_blk R R hR5 hR5 W
                rw [show (R == R) = true from by simp] at qx
                clear hR hR5 hrd hrg
                go_wp2_with fail
                refine (read_q (n : Int) _ HMn.out (i := 2) (d := D) (by simp) (wf_i64 hn0 (by omega)) (E := 0) (HP.out.bad hn0 hlt1) HRD.out).mono ?_; rintro e wx ⟨rfl, hmx, hbx⟩
                have HX := Lib.hid hmx
                have bx := chain hbn hbx
                have hglt := HWn.out.lt
                have hwx := HWn.out.stay (hbx.block ga hglt)
                have hgx := hwx.lt
                have HWx := Lib.hid hwx
                have HA := Lib.hid (Lies.new wx (zs 512) _ rfl)
                clear hmx hbx HMn HWn hwx
                go_wp2_with (with_reducible refine wpList_store_blk (m := R) rfl _ _ rfl rfl rfl HA.out (zs_len 512) HR5.out ?_)
                intro wy hly gy
                have by1 : Below wx.heap.size wx wy := below_row ((Below.refl _ _).alloc (Nat.le_refl _) _) gy (by simp) (Nat.le_refl _)
                have HY := Lib.hid (HX.out.below by1)
                have bY := chain bx by1
                have HWy := Lib.hid (HWx.out.stay (by1.block ga hgx))
                have HLY := Lib.hid hly
                clear hly gy by1 HX HWx
                go_wp2_with fail
                have hS : Lies wy.drew wx.heap.size R ∧ WA wy.drew ga f := ⟨HLY.out, HWy.out.stay rfl⟩
                have HMd := Lib.hid HY.out.drew
                have bD := bY.drew
                have hwyd : WA wy.drew ga f := HWy.out.stay rfl
                refine wp_region_held_drew (S := fun W => Lies W wx.heap.size R ∧ WA W ga f) (by kernel_rfl) hS (fun hHeld => ?_)
                generalize wy.drew = V9 at *
                refine wpAnyH_take (i := 0) (oi := _) (v := ?_) rfl (by kernel_rfl) (by kernel_rfl) (by kernel_rfl) (fun _ _ _ h => h) (Or.inl ⟨by rfl, ?_⟩) (by assumption) ?_
                rotate_left
                · (intro w hSw; (try dsimp only at hSw); (try go_split_ands); go_simp; (try with_reducible rfl))
                (try simp only [List.getElem_toArray, List.getElem_cons_zero, List.getElem_cons_succ, Act.put, List.setIfInBounds_toArray, List.set_cons_zero, List.set_cons_succ])
                refine wpAnyH_take (i := 1) (oi := _) (v := ?_) rfl (by kernel_rfl) (by kernel_rfl) (by kernel_rfl) (fun _ _ _ h => h) (Or.inl ⟨by rfl, ?_⟩) (by assumption) ?_
                rotate_left
                · (intro w hSw; (try dsimp only at hSw); (try go_split_ands); go_simp; (try with_reducible rfl))
                (try simp only [List.getElem_toArray, List.getElem_cons_zero, List.getElem_cons_succ, Act.put, List.setIfInBounds_toArray, List.set_cons_zero, List.set_cons_succ])
                refine wpAnyH_take (i := 2) (oi := _) (v := ?_) rfl (by kernel_rfl) (by kernel_rfl) (by kernel_rfl) (fun _ _ _ h => h) (Or.inl ⟨by rfl, ?_⟩) (by assumption) ?_
                rotate_left
                · (intro w hSw; (try dsimp only at hSw); (try go_split_ands); go_simp; (try with_reducible rfl))
                (try simp only [List.getElem_toArray, List.getElem_cons_zero, List.getElem_cons_succ, Act.put, List.setIfInBounds_toArray, List.set_cons_zero, List.set_cons_succ])
                refine wpAnyH_take (i := 3) (oi := _) (v := blk R) rfl (by kernel_rfl) (by kernel_rfl) (by kernel_rfl) (fun _ _ _ h => h) (yieldsIf_load_mid (by rfl) 34 _ rfl wx.heap.size 0 rfl (bc R) _ (fun W hW => Lies.range0 hW.1) Try.underlying34 rfl (by rw [info_blk, bc_length, HR5.out])) (by assumption) ?_
                (try simp only [List.getElem_toArray, List.getElem_cons_zero, List.getElem_cons_succ, Act.put, List.setIfInBounds_toArray, List.set_cons_zero, List.set_cons_succ])
                refine wpAnyH_take (i := 4) (oi := _) (v := ?_) rfl (by kernel_rfl) (by kernel_rfl) (by kernel_rfl) (fun _ _ _ h => h) (Or.inl ⟨by rfl, ?_⟩) (by assumption) ?_
                rotate_left
                · (intro w hSw; (try dsimp only at hSw); (try go_split_ands); go_simp; (try with_reducible rfl))
                (try simp only [List.getElem_toArray, List.getElem_cons_zero, List.getElem_cons_succ, Act.put, List.setIfInBounds_toArray, List.set_cons_zero, List.set_cons_succ])
                refine wpAnyH_take (i := 5) (oi := _) (v := ?_) rfl (by kernel_rfl) (by kernel_rfl) (by kernel_rfl) (fun _ _ _ h => h) (Or.inl ⟨by rfl, ?_⟩) (by assumption) ?_
                rotate_left
                · (intro w hSw; (try dsimp only at hSw); (try go_split_ands); go_simp; (try with_reducible rfl))
                (try simp only [List.getElem_toArray, List.getElem_cons_zero, List.getElem_cons_succ, Act.put, List.setIfInBounds_toArray, List.set_cons_zero, List.set_cons_succ])
                refine wpAnyH_take (i := 6) (oi := _) (v := blk R) rfl (by kernel_rfl) (by kernel_rfl) (by kernel_rfl) (fun _ _ _ h => h) (yieldsIf_load_mid (by rfl) 34 _ rfl ga (n * 512) rfl (bc R) _ (fun W hW => HRG.out W hW.2) Try.underlying34 rfl (by rw [info_blk, bc_length, HR5.out])) (by assumption) ?_
                (try simp only [List.getElem_toArray, List.getElem_cons_zero, List.getElem_cons_succ, Act.put, List.setIfInBounds_toArray, List.set_cons_zero, List.set_cons_succ])
                refine wpAnyH_take (i := 7) (oi := _) (v := ?_) rfl (by kernel_rfl) (by kernel_rfl) (by kernel_rfl) (fun _ _ _ h => h) (Or.inl ⟨by rfl, ?_⟩) (by assumption) ?_
                rotate_left
                · (intro w hSw; (try dsimp only at hSw); (try go_split_ands); go_simp; (try with_reducible rfl))
                (try simp only [List.getElem_toArray, List.getElem_cons_zero, List.getElem_cons_succ, Act.put, List.setIfInBounds_toArray, List.set_cons_zero, List.set_cons_succ])
                refine wpAnyH_take (i := 8) (oi := _) (v := ?_) rfl (by kernel_rfl) (by kernel_rfl) (by kernel_rfl) (fun _ _ _ h => h) (Or.inl ⟨by rfl, ?_⟩) (by assumption) ?_
                rotate_left
                · (intro w hSw; (try dsimp only at hSw); (try go_split_ands); go_simp; (try with_reducible rfl))
                (try simp only [List.getElem_toArray, List.getElem_cons_zero, List.getElem_cons_succ, Act.put, List.setIfInBounds_toArray, List.set_cons_zero, List.set_cons_succ])
                refine wpAnyH_done (by kernel_rfl) ?_ _
                go_wp2_with fail
                go_roundw
                case rel => exact ⟨n + 1, by omega, by simp, HMd.out, hwyd, bD⟩
                case measure => simp [intOf]; omega
              · obtain rfl : n = 64 := by omega
                go_wp2_with fail
                refine (blocks_m (i := 2) (d := D) _ HMn.out (by simp) (n := 64) (by rw [HP.out.blocks]; rfl)).mono ?_; rintro e wz ⟨rfl, hmz, hbz, _⟩
                go_wp2_with fail
                go_ret
                exact ⟨rfl, hbn.trans hbz⟩
          | false =>
            go_wp2_with fail
            refine (fail_m _ Kp _ HMc.out (by simp) hb.size (HK.out.below (hb.mono (Nat.le_refl _))) (E := 0) (HPC.out.fail Kp).2 (HPC.out.fail Kp).1).mono ?_; rintro e w6 ⟨rfl, hm6, hb6, hs6⟩
            have HM6 := Lib.hid hm6
            have b6 := hb.trans hb6
            have HW6 := Lib.hid (HWc.out.stay (hs6 ga (by simp)))
            clear hm6 hb6 hs6 HMc HWc
            go_wp2_with fail
            refine (dead_m (i := 3) (d := C.fail Kp) _ HM6.out (by simp) (r := true) rfl).mono ?_; rintro e w7 ⟨rfl, hm7, hb7, hs7⟩
            have HM7 := Lib.hid hm7
            have b7 := b6.trans hb7
            have HW7 := Lib.hid (HW6.out.stay (hs7 ga (by simp)))
            clear hm7 hb7 hs7 HM6 HW6
            go_wp2_with fail
            refine (dead_m (i := 2) (d := D) _ HM7.out (by simp) (r := false) HP.out.dead).mono ?_; rintro e w8 ⟨rfl, hm8, hb8, hs8⟩
            have HM8 := Lib.hid (hm8.sub (own' := [ga]) (l' := [(2, g1, D)]) (fun _ h => h) (by simp))
            have b8 := b7.trans hb8
            have HW8 := Lib.hid (HW7.out.stay (hs8 ga (by simp)))
            clear hm8 hb8 hs8 HM7 HW7
            go_wp2_with fail
            refine (waiting_m (i := 2) (d := D) _ HM8.out (by simp) (n := (l.length : Int)) (by rw [HWL.out])).mono ?_; rintro e w9 ⟨rfl, hm9, hb9, hs9⟩
            have HM9 := Lib.hid hm9
            have b9 := b8.trans hb9
            have HW9 := Lib.hid (HW8.out.stay (hs9 ga (by simp)))
            clear hm9 hb9 hs9 HM8 HW8
            go_wp2_with fail
            obtain ⟨wo2, hwo2⟩ : ∃ wo2 : World, wo2 = w9 := ⟨_, rfl⟩
            go_loopw [15] (fun i W => ∃ n : Nat, n ≤ 64 ∧ i = .int .i64 n ∧ Many w.heap.size [ga] W [(2, g1, D)] ∧ WA W ga f ∧ Below w.heap.size w W) (fun i _ => 64 - (intOf i).toNat)
            case atStart => exact ⟨0, by omega, rfl, HM9.out, HW9.out, b9⟩
            case round =>
              clear hwo2
              obtain ⟨n, hn, rfl, hm, hwa, hbn⟩ := hrel
              have HMn := Lib.hid hm
              have HWn := Lib.hid hwa
              clear hm hwa HM9 HW9
              by_cases hlt : n < 64
              · have hlt1 : (n : Int) < 64 := by omega
                have hn0 : (0 : Int) ≤ (n : Int) := by omega
                obtain ⟨R, hR⟩ : ∃ R, R = f n := ⟨_, rfl⟩
                have hR5 : R.length = 512 := by rw [hR]; exact HWn.out.len n
                have hrd : D.read (n : Int) = R := by rw [HP.out.read hn0 hlt1, HLK.out n hlt, hR]
                have hrg : ∀ W : World, WA W ga f → W.rangeAt ga (n * 512) (bc R) := fun W hW => by rw [hR]; exact hW.range n hlt
                have HRG := Lib.hid hrg
                have HRD := Lib.hid hrd
                have HR5 := Lib.hid hR5
                have qx := fun W : World => run_eq_blk R R hR5 hR5 W
                rw [show (R == R) = true from by simp] at qx
                clear hR hR5 hrd hrg
                go_wp2_with fail
                refine (read_q (n : Int) _ HMn.out (i := 2) (d := D) (by simp) (wf_i64 hn0 (by omega)) (E := 0) (HP.out.bad hn0 hlt1) HRD.out).mono ?_; rintro e wx ⟨rfl, hmx, hbx⟩
                have HX := Lib.hid hmx
                have bx := chain hbn hbx
                have hglt := HWn.out.lt
                have hwx := HWn.out.stay (hbx.block ga hglt)
                have hgx := hwx.lt
                have HWx := Lib.hid hwx
                have HA := Lib.hid (Lies.new wx (zs 512) _ rfl)
                clear hmx hbx HMn HWn hwx
                go_wp2_with (with_reducible refine wpList_store_blk (m := R) rfl _ _ rfl rfl rfl HA.out (zs_len 512) HR5.out ?_)
                intro wy hly gy
                have by1 : Below wx.heap.size wx wy := below_row ((Below.refl _ _).alloc (Nat.le_refl _) _) gy (by simp) (Nat.le_refl _)
                have HY := Lib.hid (HX.out.below by1)
                have bY := chain bx by1
                have HWy := Lib.hid (HWx.out.stay (by1.block ga hgx))
                have HLY := Lib.hid hly
                clear hly gy by1 HX HWx
                go_wp2_with fail
                have hS : Lies wy.drew wx.heap.size R ∧ WA wy.drew ga f := ⟨HLY.out, HWy.out.stay rfl⟩
                have HMd := Lib.hid HY.out.drew
                have bD := bY.drew
                have hwyd : WA wy.drew ga f := HWy.out.stay rfl
                refine wp_region_held_drew (S := fun W => Lies W wx.heap.size R ∧ WA W ga f) (by kernel_rfl) hS (fun hHeld => ?_)
                generalize wy.drew = V9 at *
                refine wpAnyH_take (i := 0) (oi := _) (v := ?_) rfl (by kernel_rfl) (by kernel_rfl) (by kernel_rfl) (fun _ _ _ h => h) (Or.inl ⟨by rfl, ?_⟩) (by assumption) ?_
                rotate_left
                · (intro w hSw; (try dsimp only at hSw); (try go_split_ands); go_simp; (try with_reducible rfl))
                (try simp only [List.getElem_toArray, List.getElem_cons_zero, List.getElem_cons_succ, Act.put, List.setIfInBounds_toArray, List.set_cons_zero, List.set_cons_succ])
                refine wpAnyH_take (i := 1) (oi := _) (v := ?_) rfl (by kernel_rfl) (by kernel_rfl) (by kernel_rfl) (fun _ _ _ h => h) (Or.inl ⟨by rfl, ?_⟩) (by assumption) ?_
                rotate_left
                · (intro w hSw; (try dsimp only at hSw); (try go_split_ands); go_simp; (try with_reducible rfl))
                (try simp only [List.getElem_toArray, List.getElem_cons_zero, List.getElem_cons_succ, Act.put, List.setIfInBounds_toArray, List.set_cons_zero, List.set_cons_succ])
                refine wpAnyH_take (i := 2) (oi := _) (v := ?_) rfl (by kernel_rfl) (by kernel_rfl) (by kernel_rfl) (fun _ _ _ h => h) (Or.inl ⟨by rfl, ?_⟩) (by assumption) ?_
                rotate_left
                · (intro w hSw; (try dsimp only at hSw); (try go_split_ands); go_simp; (try with_reducible rfl))
                (try simp only [List.getElem_toArray, List.getElem_cons_zero, List.getElem_cons_succ, Act.put, List.setIfInBounds_toArray, List.set_cons_zero, List.set_cons_succ])
                refine wpAnyH_take (i := 3) (oi := _) (v := blk R) rfl (by kernel_rfl) (by kernel_rfl) (by kernel_rfl) (fun _ _ _ h => h) (yieldsIf_load_mid (by rfl) 34 _ rfl wx.heap.size 0 rfl (bc R) _ (fun W hW => Lies.range0 hW.1) Try.underlying34 rfl (by rw [info_blk, bc_length, HR5.out])) (by assumption) ?_
                (try simp only [List.getElem_toArray, List.getElem_cons_zero, List.getElem_cons_succ, Act.put, List.setIfInBounds_toArray, List.set_cons_zero, List.set_cons_succ])
                refine wpAnyH_take (i := 4) (oi := _) (v := ?_) rfl (by kernel_rfl) (by kernel_rfl) (by kernel_rfl) (fun _ _ _ h => h) (Or.inl ⟨by rfl, ?_⟩) (by assumption) ?_
                rotate_left
                · (intro w hSw; (try dsimp only at hSw); (try go_split_ands); go_simp; (try with_reducible rfl))
                (try simp only [List.getElem_toArray, List.getElem_cons_zero, List.getElem_cons_succ, Act.put, List.setIfInBounds_toArray, List.set_cons_zero, List.set_cons_succ])
                refine wpAnyH_take (i := 5) (oi := _) (v := ?_) rfl (by kernel_rfl) (by kernel_rfl) (by kernel_rfl) (fun _ _ _ h => h) (Or.inl ⟨by rfl, ?_⟩) (by assumption) ?_
                rotate_left
                · (intro w hSw; (try dsimp only at hSw); (try go_split_ands); go_simp; (try with_reducible rfl))
                (try simp only [List.getElem_toArray, List.getElem_cons_zero, List.getElem_cons_succ, Act.put, List.setIfInBounds_toArray, List.set_cons_zero, List.set_cons_succ])
                refine wpAnyH_take (i := 6) (oi := _) (v := blk R) rfl (by kernel_rfl) (by kernel_rfl) (by kernel_rfl) (fun _ _ _ h => h) (yieldsIf_load_mid (by rfl) 34 _ rfl ga (n * 512) rfl (bc R) _ (fun W hW => HRG.out W hW.2) Try.underlying34 rfl (by rw [info_blk, bc_length, HR5.out])) (by assumption) ?_
                (try simp only [List.getElem_toArray, List.getElem_cons_zero, List.getElem_cons_succ, Act.put, List.setIfInBounds_toArray, List.set_cons_zero, List.set_cons_succ])
                refine wpAnyH_take (i := 7) (oi := _) (v := ?_) rfl (by kernel_rfl) (by kernel_rfl) (by kernel_rfl) (fun _ _ _ h => h) (Or.inl ⟨by rfl, ?_⟩) (by assumption) ?_
                rotate_left
                · (intro w hSw; (try dsimp only at hSw); (try go_split_ands); go_simp; (try with_reducible rfl))
                (try simp only [List.getElem_toArray, List.getElem_cons_zero, List.getElem_cons_succ, Act.put, List.setIfInBounds_toArray, List.set_cons_zero, List.set_cons_succ])
                refine wpAnyH_take (i := 8) (oi := _) (v := ?_) rfl (by kernel_rfl) (by kernel_rfl) (by kernel_rfl) (fun _ _ _ h => h) (Or.inl ⟨by rfl, ?_⟩) (by assumption) ?_
                rotate_left
                · (intro w hSw; (try dsimp only at hSw); (try go_split_ands); go_simp; (try with_reducible rfl))
                (try simp only [List.getElem_toArray, List.getElem_cons_zero, List.getElem_cons_succ, Act.put, List.setIfInBounds_toArray, List.set_cons_zero, List.set_cons_succ])
                refine wpAnyH_done (by kernel_rfl) ?_ _
                go_wp2_with fail
                go_roundw
                case rel => exact ⟨n + 1, by omega, by simp, HMd.out, hwyd, bD⟩
                case measure => simp [intOf]; omega
              · obtain rfl : n = 64 := by omega
                go_wp2_with fail
                refine (blocks_m (i := 2) (d := D) _ HMn.out (by simp) (n := 64) (by rw [HP.out.blocks]; rfl)).mono ?_; rintro e wz ⟨rfl, hmz, hbz, _⟩
                go_wp2_with fail
                go_ret
                exact ⟨rfl, hbn.trans hbz⟩

theorem apart_walk : Walks Try.prog 8 Try.f8 := by
  intro H enc W args ds p base hval hA hz
  rw [Try.params8] at hA hval
  obtain ⟨v0, vs1, d0, ds1, p0, q0, ha0, rfl, rfl, h0, hA⟩ := trodAll_cons hA
  obtain ⟨v1, vs2, d1, ds2, p1, q1, rfl, rfl, rfl, h1, hA⟩ := trodAll_cons hA
  obtain ⟨v2, vs3, d2, ds3, p2, q2, rfl, rfl, rfl, h2, hA⟩ := trodAll_cons hA
  obtain ⟨v3, vs4, d3, ds4, p3, q3, rfl, rfl, rfl, h3, hA⟩ := trodAll_cons hA
  obtain ⟨rfl, rfl, rfl⟩ := trodAll_nil hA
  obtain rfl : args = #[v0, v1, v2, v3] := by cases args; simp_all
  obtain ⟨l, hl⟩ := open_bytes (hval 0 _ v0 rfl rfl) h0
  obtain ⟨m, hm⟩ := open_bytes (hval 1 _ v1 rfl rfl) h1
  obtain ⟨x2, rfl, _⟩ := open_bool Try.underlying4 (hval 2 _ v2 rfl rfl) h2
  obtain ⟨k, hk⟩ := open_keep (hval 3 _ v3 rfl rfl) h3
  exact apart_any v0 v1 l m x2 v3 k W hl hm hk

theorem DiskApart_holds : Rows.DiskApartSaid :=
  OpenClaim.holds_of_wide 8 Try.f8 rfl rfl rfl rfl rfl rfl rfl ⟨rfl, rfl, rfl, rfl, rfl⟩ rfl rfl rfl rfl rfl (by kernel_rfl) Try.func8 (by kernel_rfl)
    (of_decide_eq_true (by kernel_rfl)) (by unfold Func.isWrapper; first | (rw [if_pos (by decide +kernel)]; kernel_rfl) | (rw [if_neg (by decide +kernel)]; exact ⟨rfl, rfl⟩))
    (fun os started H enc _ => law_lifted (C := Try.checked) (s := Rows.diskApartSpec) own started (by kernel_rfl) Try.func8 laidOut rfl rfl Try.underlying4
      (by have h : ∀ u ∈ Try.f8.params.toList, (Try.prog.readableRec u && decide (u < Try.prog.types.size)) = true := List.all_eq_true.1 (by kernel_rfl)
          intro u hu; have := h u hu; rw [Bool.and_eq_true, decide_eq_true_eq] at this; exact this)
      (by intro H l hl; rw [show Try.f8.params.size = 4 from by rw [Try.params8]; rfl] at hl; match l, hl with | [d0, d1, d2, d3], _ => rfl)
      H enc (ChangeSpec.witness6 (enc := enc) (C := Try.checked) false ⟨#[], #[.slice none 0 0, .slice none 0 0, .bool false, .slice none 0 0], []⟩ 8 (by kernel_rfl) (by kernel_rfl) (by kernel_rfl) (by kernel_rfl)) apart_walk)
#print axioms DiskApart_holds
end Go.Proofs.Ytldkokngbnaimaa
