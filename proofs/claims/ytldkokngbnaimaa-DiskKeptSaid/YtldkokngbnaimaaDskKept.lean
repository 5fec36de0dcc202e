/- DiskKept holds: behind a failure each block is what it was when it was flushed last, or what some write that waited made of it. Conditions: none beyond the row's own. -/
import Derived.Test.YtldkokngbnaimaaDskRow
namespace Go.Proofs.Ytldkokngbnaimaa
set_option linter.unusedVariables false
set_option linter.unusedSimpArgs false
open Go.ChangeShapes Go.WideShapes Go.ChangeAt Go.RowKit
attribute [local go_sem] zeroValueB

theorem look_add2 (d : Dk) (p : Wr) (n : Int) : (d.add p).look n = if n = p.1 then p.2 else d.look n := by
  unfold Dk.look
  show Dk.lay d.on (d.wait ++ [p]) n = _
  rw [Dk.lay_snoc]
  rfl
theorem BoolsV.at {w : World} {A : Option Addr} {n c : Nat} {l : List Bool} (h : BoolsV w (.slice A n c) l) {i : Nat} (hi : i < l.length) : ∃ b off, A = some ⟨b, off, none⟩ ∧ b < w.heap.size ∧ w.cell? ⟨b, off + i, none⟩ = some (.bool l[i]) := by
  obtain ⟨A', c', e, h1, h2, h3, h4⟩ := h
  injection e with e1 e2 e3
  subst e1
  obtain ⟨b, off, rfl, hb, hc⟩ := h4 (by omega)
  exact ⟨b, off, rfl, hb, hc i hi⟩
theorem tm64 (c : UInt8) : 0 ≤ (c.toNat : Int).tmod 64 ∧ (c.toNat : Int).tmod 64 < 64 := by
  rw [Int.tmod_eq_emod_of_nonneg (by omega)]
  omega
theorem tmN (c : UInt8) : ((c.toNat : Int).tmod 64).toNat = c.toNat % 64 := by
  rw [Int.tmod_eq_emod_of_nonneg (by omega)]
  omega
theorem br_zero (w : World) : BR (w.alloc (.cells #[.int .u8 0, .int .u8 0, .int .u8 0, .int .u8 0, .int .u8 0, .int .u8 0, .int .u8 0, .int .u8 0, .int .u8 0, .int .u8 0, .int .u8 0, .int .u8 0, .int .u8 0, .int .u8 0, .int .u8 0, .int .u8 0, .int .u8 0, .int .u8 0, .int .u8 0, .int .u8 0, .int .u8 0, .int .u8 0, .int .u8 0, .int .u8 0, .int .u8 0, .int .u8 0, .int .u8 0, .int .u8 0, .int .u8 0, .int .u8 0, .int .u8 0, .int .u8 0, .int .u8 0, .int .u8 0, .int .u8 0, .int .u8 0, .int .u8 0, .int .u8 0, .int .u8 0, .int .u8 0, .int .u8 0, .int .u8 0, .int .u8 0, .int .u8 0, .int .u8 0, .int .u8 0, .int .u8 0, .int .u8 0, .int .u8 0, .int .u8 0, .int .u8 0, .int .u8 0, .int .u8 0, .int .u8 0, .int .u8 0, .int .u8 0, .int .u8 0, .int .u8 0, .int .u8 0, .int .u8 0, .int .u8 0, .int .u8 0, .int .u8 0, .int .u8 0] 41)) w.heap.size (fun _ => 0) := (heap_alloc_new w _).trans (by rfl)
theorem byte_A (q : Nat) (h : q ≤ 200) : ((IntKind.u8.wrap (q : Int)).tmod 100 + 1) % 256 = ((bA q).toNat : Int) := by
  rw [bA_nat, IntKind.wrap_u8, Int.tmod_eq_emod_of_nonneg (by omega)]
  omega
theorem byte_B (q : Nat) (h : q ≤ 200) : ((IntKind.u8.wrap (q : Int)).tmod 100 + 101) % 256 = ((bB q).toNat : Int) := by
  rw [bB_nat, IntKind.wrap_u8, Int.tmod_eq_emod_of_nonneg (by omega)]
  omega

theorem byte_A' (q : Nat) : (q : Int) % 100 + 1 = ((bA q).toNat : Int) := by
  rw [bA_nat]
  omega
theorem byte_B' (q : Nat) : (q : Int) % 100 + 101 = ((bB q).toNat : Int) := by
  rw [bB_nat]
  omega

set_option maxRecDepth 100000 in
set_option maxHeartbeats 12800000 in
theorem kept_any (a b : Value) (l m : List UInt8) (kv : Value) (Kp : List Bool) (w : World) (hl : BytesV w a l) (hm : BytesV w b m) (hk : BoolsV w kv Kp) :
    Calls Try.prog 4 #[a, b, kv] w fun e w' => e = .returned (.bool true) ∧ Below w.heap.size w w' := by
  have HL := Lib.hid hl
  have HMm := Lib.hid hm
  have HK := Lib.hid hk
  obtain ⟨LA, lc, rfl, l1, l2, l3, l4⟩ := hl
  obtain ⟨MA, mc, rfl, k1, k2, k3, k4⟩ := hm
  obtain ⟨KA, kc, rfl, j1, j2, j3, j4⟩ := hk
  clear l3 l4 k3 k4 j3 j4
  unfold maxLen at l2 k2 j2
  have WK := Lib.hid works_any
  by_cases h1 : (200 : Int) < (l.length : Int)
  · go_enter Try.func4, Try.ntmps4
    go_wp2_with fail
    refine (WK.out _).mono ?_; rintro e w1 ⟨rfl, hw1⟩
    have b1 : Below w.heap.size w w1 := chain (by repeat' (first | (with_reducible exact Below.refl _ _) | (with_reducible assumption) | (with_reducible refine below_drewN ?_ _) | (with_reducible refine Below.alloc ?_ ?_ _) | (with_reducible refine Below.drew ?_) | (with_reducible refine Below.setCell ?_ ?_ _) | go_size)) hw1
    have s1 := b1.size
    go_wp2_with fail
    refine (WK.out _).mono ?_; rintro e w2 ⟨rfl, hw2⟩
    have b2 : Below w.heap.size w w2 := chain (by repeat' (first | (with_reducible exact Below.refl _ _) | (with_reducible assumption) | (with_reducible refine below_drewN ?_ _) | (with_reducible refine Below.alloc ?_ ?_ _) | (with_reducible refine Below.drew ?_) | (with_reducible refine Below.setCell ?_ ?_ _) | go_size)) hw2
    have s2 := b2.size
    go_wp2_with fail
    go_ret
    exact ⟨rfl, by assumption⟩
  by_cases h2 : (200 : Int) < (m.length : Int)
  · go_enter Try.func4, Try.ntmps4
    go_wp2_with fail
    refine (WK.out _).mono ?_; rintro e w1 ⟨rfl, hw1⟩
    have b1 : Below w.heap.size w w1 := chain (by repeat' (first | (with_reducible exact Below.refl _ _) | (with_reducible assumption) | (with_reducible refine below_drewN ?_ _) | (with_reducible refine Below.alloc ?_ ?_ _) | (with_reducible refine Below.drew ?_) | (with_reducible refine Below.setCell ?_ ?_ _) | go_size)) hw1
    have s1 := b1.size
    go_wp2_with fail
    refine (WK.out _).mono ?_; rintro e w2 ⟨rfl, hw2⟩
    have b2 : Below w.heap.size w w2 := chain (by repeat' (first | (with_reducible exact Below.refl _ _) | (with_reducible assumption) | (with_reducible refine below_drewN ?_ _) | (with_reducible refine Below.alloc ?_ ?_ _) | (with_reducible refine Below.drew ?_) | (with_reducible refine Below.setCell ?_ ?_ _) | go_size)) hw2
    have s2 := b2.size
    go_wp2_with fail
    go_ret
    exact ⟨rfl, by assumption⟩
  by_cases h3 : (1000 : Int) < (Kp.length : Int)
  · go_enter Try.func4, Try.ntmps4
    go_wp2_with fail
    refine (WK.out _).mono ?_; rintro e w1 ⟨rfl, hw1⟩
    have b1 : Below w.heap.size w w1 := chain (by repeat' (first | (with_reducible exact Below.refl _ _) | (with_reducible assumption) | (with_reducible refine below_drewN ?_ _) | (with_reducible refine Below.alloc ?_ ?_ _) | (with_reducible refine Below.drew ?_) | (with_reducible refine Below.setCell ?_ ?_ _) | go_size)) hw1
    have s1 := b1.size
    go_wp2_with fail
    refine (WK.out _).mono ?_; rintro e w2 ⟨rfl, hw2⟩
    have b2 : Below w.heap.size w w2 := chain (by repeat' (first | (with_reducible exact Below.refl _ _) | (with_reducible assumption) | (with_reducible refine below_drewN ?_ _) | (with_reducible refine Below.alloc ?_ ?_ _) | (with_reducible refine Below.drew ?_) | (with_reducible refine Below.setCell ?_ ?_ _) | go_size)) hw2
    have s2 := b2.size
    go_wp2_with fail
    go_ret
    exact ⟨rfl, by assumption⟩
  obtain ⟨i0, hi, hz0, hz1, hz2⟩ := info_parts info_bool
  go_enter Try.func4, Try.ntmps4
  go_wp2_with fail
  refine (WK.out _).mono ?_; rintro e w1 ⟨rfl, hw1⟩
  have b1 : Below w.heap.size w w1 := chain (by repeat' (first | (with_reducible exact Below.refl _ _) | (with_reducible assumption) | (with_reducible refine below_drewN ?_ _) | (with_reducible refine Below.alloc ?_ ?_ _) | (with_reducible refine Below.drew ?_) | (with_reducible refine Below.setCell ?_ ?_ _) | go_size)) hw1
  have s1 := b1.size
  go_wp2_with fail
  refine (new_m (own := []) 2 64 _ (Many.none w.heap.size w1) (by decide) (by simp) s1 (by decide) (by decide) (d' := Dk.new 64) rfl).mono ?_; rintro e w2 ⟨g1, rfl, hm1, hb1, _⟩
  have b2 := b1.trans hb1
  have HM3 := Lib.hid (hm1.mine (.cells #[.int .u8 0, .int .u8 0, .int .u8 0, .int .u8 0, .int .u8 0, .int .u8 0, .int .u8 0, .int .u8 0, .int .u8 0, .int .u8 0, .int .u8 0, .int .u8 0, .int .u8 0, .int .u8 0, .int .u8 0, .int .u8 0, .int .u8 0, .int .u8 0, .int .u8 0, .int .u8 0, .int .u8 0, .int .u8 0, .int .u8 0, .int .u8 0, .int .u8 0, .int .u8 0, .int .u8 0, .int .u8 0, .int .u8 0, .int .u8 0, .int .u8 0, .int .u8 0, .int .u8 0, .int .u8 0, .int .u8 0, .int .u8 0, .int .u8 0, .int .u8 0, .int .u8 0, .int .u8 0, .int .u8 0, .int .u8 0, .int .u8 0, .int .u8 0, .int .u8 0, .int .u8 0, .int .u8 0, .int .u8 0, .int .u8 0, .int .u8 0, .int .u8 0, .int .u8 0, .int .u8 0, .int .u8 0, .int .u8 0, .int .u8 0, .int .u8 0, .int .u8 0, .int .u8 0, .int .u8 0, .int .u8 0, .int .u8 0, .int .u8 0, .int .u8 0] 41))
  have HW3 := Lib.hid (br_zero w2)
  have b3 := b2.alloc b2.size (.cells #[.int .u8 0, .int .u8 0, .int .u8 0, .int .u8 0, .int .u8 0, .int .u8 0, .int .u8 0, .int .u8 0, .int .u8 0, .int .u8 0, .int .u8 0, .int .u8 0, .int .u8 0, .int .u8 0, .int .u8 0, .int .u8 0, .int .u8 0, .int .u8 0, .int .u8 0, .int .u8 0, .int .u8 0, .int .u8 0, .int .u8 0, .int .u8 0, .int .u8 0, .int .u8 0, .int .u8 0, .int .u8 0, .int .u8 0, .int .u8 0, .int .u8 0, .int .u8 0, .int .u8 0, .int .u8 0, .int .u8 0, .int .u8 0, .int .u8 0, .int .u8 0, .int .u8 0, .int .u8 0, .int .u8 0, .int .u8 0, .int .u8 0, .int .u8 0, .int .u8 0, .int .u8 0, .int .u8 0, .int .u8 0, .int .u8 0, .int .u8 0, .int .u8 0, .int .u8 0, .int .u8 0, .int .u8 0, .int .u8 0, .int .u8 0, .int .u8 0, .int .u8 0, .int .u8 0, .int .u8 0, .int .u8 0, .int .u8 0, .int .u8 0, .int .u8 0] 41)
  have hgl : w.heap.size ≤ w2.heap.size := b2.size
  clear hm1 hb1
  go_wp2_with fail
  generalize w2.alloc (.cells #[.int .u8 0, .int .u8 0, .int .u8 0, .int .u8 0, .int .u8 0, .int .u8 0, .int .u8 0, .int .u8 0, .int .u8 0, .int .u8 0, .int .u8 0, .int .u8 0, .int .u8 0, .int .u8 0, .int .u8 0, .int .u8 0, .int .u8 0, .int .u8 0, .int .u8 0, .int .u8 0, .int .u8 0, .int .u8 0, .int .u8 0, .int .u8 0, .int .u8 0, .int .u8 0, .int .u8 0, .int .u8 0, .int .u8 0, .int .u8 0, .int .u8 0, .int .u8 0, .int .u8 0, .int .u8 0, .int .u8 0, .int .u8 0, .int .u8 0, .int .u8 0, .int .u8 0, .int .u8 0, .int .u8 0, .int .u8 0, .int .u8 0, .int .u8 0, .int .u8 0, .int .u8 0, .int .u8 0, .int .u8 0, .int .u8 0, .int .u8 0, .int .u8 0, .int .u8 0, .int .u8 0, .int .u8 0, .int .u8 0, .int .u8 0, .int .u8 0, .int .u8 0, .int .u8 0, .int .u8 0, .int .u8 0, .int .u8 0, .int .u8 0, .int .u8 0] 41) = w3 at *
  generalize w2.heap.size = ga at *
  clear b2
  go_loopw [10] (fun i W => ∃ (q : Nat) (D : Dk) (f : Nat → UInt8), q ≤ l.length ∧ i = .int .i64 q ∧ D.Plain ∧ D.sum ≤ q ∧ Many w.heap.size [ga] W [(2, g1, D)] ∧ BR W ga f ∧ (∀ n : Nat, n < 64 → D.look (n : Int) = wantB (f n)) ∧ Below w.heap.size w W) (fun i _ => l.length - (intOf i).toNat)
  case atStart => exact ⟨0, Dk.new 64, _, by omega, rfl, Dk.Plain.new, Nat.zero_le _, HM3.out, HW3.out, fun n hn => rfl, b3⟩
  case round =>
    obtain ⟨q, D, f, hq, rfl, hP, hs, hm, hbr, hlk, hb⟩ := hrel
    have HM := Lib.hid hm
    have HP := Lib.hid hP
    have HBR := Lib.hid hbr
    have HLK := Lib.hid hlk
    clear hm hP hbr hlk HM3 HW3
    by_cases hlt : q < l.length
    · have hq2 : (q : Int) < (l.length : Int) := by omega
      obtain ⟨lb, lo, rfl, hlb, hlc⟩ := HL.out.at (i := q) hlt
      have hlc' : wr.cell? ⟨lb, lo + q, none⟩ = some (.int .u8 ((l[q]'hlt).toNat : Int)) := (hb.cell (p := ⟨lb, lo + q, none⟩) hlb).trans hlc
      clear hlc
      generalize l[q]'hlt = c at *
      have hN0 : (0 : Int) ≤ ((c.toNat % 64 : Nat) : Int) := by omega
      have hN1 : ((c.toNat % 64 : Nat) : Int) < 64 := by omega
      obtain ⟨tm0, tm1⟩ := tm64 c
      have ck := HBR.out.cell (n := c.toNat % 64) (by omega)
      have fk := HBR.out.free (c.toNat % 64)
      go_wp2_with fail
      rw [byte_A' q]
      have hst := HBR.out.set (n := c.toNat % 64) (by omega) (bA q)
      have hgs := wb_set' wr ga (c.toNat % 64) (.int .u8 ((bA q).toNat : Int))
      have hms := HM.out.own_set (b := ga) (by simp) hgs
      have bs := hb.setCell (p := ⟨ga, c.toNat % 64, none⟩) hgl (.int .u8 ((bA q).toNat : Int))
      have cs := hgs.cell (a := ⟨lb, lo + q, none⟩) hlc' (fun e => by have e : lb = ga := Option.some.inj e; omega)
      clear ck fk hlc' hgs tm0 tm1
      generalize wr.setCell ⟨ga, c.toNat % 64, none⟩ (.int .u8 ((bA q).toNat : Int)) = wS at *
      have HBS := Lib.hid hst
      have HMS := Lib.hid hms
      clear hst hms HM HBR
      have hV1 : wS.drew.cell? ⟨lb, lo + q, none⟩ = some (.int .u8 (c.toNat : Int)) := cs
      have HV1 : Hid (Many w.heap.size [ga] wS.drew [(2, g1, D)]) := Lib.hid HMS.out.drew
      have bV1 : Below w.heap.size w wS.drew := bs.drew
      have hwV1 : BR wS.drew ga (fun i => if i = c.toNat % 64 then bA q else f i) := HBS.out.stay rfl
      refine wp_region_held_drew (S := fun W => W.cell? ⟨lb, lo + q, none⟩ = some (.int .u8 (c.toNat : Int))) (by kernel_rfl) hV1 (fun hHeld => ?_)
      generalize wS.drew = V1 at *
      refine wpAnyH_take (i := 0) (oi := _) (v := ?_) rfl (by kernel_rfl) (by kernel_rfl) (by kernel_rfl) (fun _ _ _ h => h) (Or.inl ⟨by rfl, ?_⟩) (by assumption) ?_
      rotate_left
      · (intro w hSw; (try dsimp only at hSw); (try go_split_ands); go_simp; (try with_reducible rfl))
      (try simp only [List.getElem_toArray, List.getElem_cons_zero, List.getElem_cons_succ, Act.put, List.setIfInBounds_toArray, List.set_cons_zero, List.set_cons_succ])
      refine wpAnyH_take (i := 1) (oi := _) (v := ?_) rfl (by kernel_rfl) (by kernel_rfl) (by kernel_rfl) (fun _ _ _ h => h) (Or.inl ⟨by rfl, ?_⟩) (by assumption) ?_
      rotate_left
      · (intro w hSw; (try dsimp only at hSw); (try go_split_ands); go_simp; (try with_reducible rfl))
      (try simp only [List.getElem_toArray, List.getElem_cons_zero, List.getElem_cons_succ, Act.put, List.setIfInBounds_toArray, List.set_cons_zero, List.set_cons_succ])
      refine wpAnyH_take (i := 2) (oi := _) (v := ?_) rfl (by kernel_rfl) (by kernel_rfl) (by kernel_rfl) (fun _ _ _ h => h) (Or.inl ⟨by rfl, ?_⟩) (by assumption) ?_
      rotate_left
      · (intro w hSw; (try dsimp only at hSw); (try go_split_ands); go_simp; (try with_reducible rfl))
      (try simp only [List.getElem_toArray, List.getElem_cons_zero, List.getElem_cons_succ, Act.put, List.setIfInBounds_toArray, List.set_cons_zero, List.set_cons_succ])
      refine wpAnyH_take (i := 3) (oi := _) (v := ?_) rfl (by kernel_rfl) (by kernel_rfl) (by kernel_rfl) (fun _ _ _ h => h) (Or.inl ⟨by rfl, ?_⟩) (by assumption) ?_
      rotate_left
      · (intro w hSw; (try dsimp only at hSw); (try go_split_ands); go_simp; (try with_reducible rfl))
      (try simp only [List.getElem_toArray, List.getElem_cons_zero, List.getElem_cons_succ, Act.put, List.setIfInBounds_toArray, List.set_cons_zero, List.set_cons_succ])
      refine wpAnyH_take (i := 4) (oi := _) (v := ?_) rfl (by kernel_rfl) (by kernel_rfl) (by kernel_rfl) (fun _ _ _ h => h) (Or.inl ⟨by rfl, ?_⟩) (by assumption) ?_
      rotate_left
      · (intro w hSw; (try dsimp only at hSw); (try go_split_ands); go_simp; (try with_reducible rfl))
      (try simp only [List.getElem_toArray, List.getElem_cons_zero, List.getElem_cons_succ, Act.put, List.setIfInBounds_toArray, List.set_cons_zero, List.set_cons_succ])
      refine wpAnyH_take (i := 5) (oi := _) (v := ?_) rfl (by kernel_rfl) (by kernel_rfl) (by kernel_rfl) (fun _ _ _ h => h) (Or.inl ⟨by rfl, ?_⟩) (by assumption) ?_
      rotate_left
      · (intro w hSw; (try dsimp only at hSw); (try go_split_ands); go_simp; (try with_reducible rfl))
      (try simp only [List.getElem_toArray, List.getElem_cons_zero, List.getElem_cons_succ, Act.put, List.setIfInBounds_toArray, List.set_cons_zero, List.set_cons_succ])
      refine wpAnyH_take (i := 6) (oi := _) (v := ?_) rfl (by kernel_rfl) (by kernel_rfl) (by kernel_rfl) (fun _ _ _ h => h) (Or.inl ⟨by rfl, ?_⟩) (by assumption) ?_
      rotate_left
      · (intro w hSw; (try dsimp only at hSw); (try go_split_ands); go_simp; (try with_reducible rfl))
      (try simp only [List.getElem_toArray, List.getElem_cons_zero, List.getElem_cons_succ, Act.put, List.setIfInBounds_toArray, List.set_cons_zero, List.set_cons_succ])
      refine wpAnyH_take (i := 7) (oi := _) (v := ?_) rfl (by kernel_rfl) (by kernel_rfl) (by kernel_rfl) (fun _ _ _ h => h) (Or.inl ⟨by rfl, ?_⟩) (by assumption) ?_
      rotate_left
      · (intro w hSw; (try dsimp only at hSw); (try go_split_ands); go_simp; (try with_reducible rfl))
      (try simp only [List.getElem_toArray, List.getElem_cons_zero, List.getElem_cons_succ, Act.put, List.setIfInBounds_toArray, List.set_cons_zero, List.set_cons_succ])
      refine wpAnyH_take (i := 8) (oi := _) (v := ?_) rfl (by kernel_rfl) (by kernel_rfl) (by kernel_rfl) (fun _ _ _ h => h) (Or.inl ⟨by rfl, ?_⟩) (by assumption) ?_
      rotate_left
      · (intro w hSw; (try dsimp only at hSw); (try go_split_ands); go_simp; (try with_reducible rfl))
      (try simp only [List.getElem_toArray, List.getElem_cons_zero, List.getElem_cons_succ, Act.put, List.setIfInBounds_toArray, List.set_cons_zero, List.set_cons_succ])
      refine wpAnyH_take (i := 9) (oi := _) (v := ?_) rfl (by kernel_rfl) (by kernel_rfl) (by kernel_rfl) (fun _ _ _ h => h) (Or.inl ⟨by rfl, ?_⟩) (by assumption) ?_
      rotate_left
      · (intro w hSw; (try dsimp only at hSw); (try go_split_ands); go_simp; (try with_reducible rfl))
      (try simp only [List.getElem_toArray, List.getElem_cons_zero, List.getElem_cons_succ, Act.put, List.setIfInBounds_toArray, List.set_cons_zero, List.set_cons_succ])
      refine wpAnyH_take (i := 10) (oi := _) (v := ?_) rfl (by kernel_rfl) (by kernel_rfl) (by kernel_rfl) (fun _ _ _ h => h) (Or.inl ⟨by rfl, ?_⟩) (by assumption) ?_
      rotate_left
      · (intro w hSw; (try dsimp only at hSw); (try go_split_ands); go_simp; (try with_reducible rfl))
      (try simp only [List.getElem_toArray, List.getElem_cons_zero, List.getElem_cons_succ, Act.put, List.setIfInBounds_toArray, List.set_cons_zero, List.set_cons_succ])
      refine wpAnyH_ready (rs := [11]) (by kernel_rfl) (by simp) ?_
      refine AllReadyH.cons (o := _) rfl (fun K hK => ?_) AllReadyH.nil
      (try simp only [List.getElem_toArray, List.getElem_cons_zero, List.getElem_cons_succ])
      go_simp
      refine (block_m (bA q) _ (by first | exact (byte_A q (by omega)).symm | exact (byte_A' q).symm) _ HV1.out bV1.size).mono ?_; rintro e wa1 ⟨rfl, hma1, hba1, hsa1⟩
      have ba1 := bV1.trans hba1
      have ca1 : wa1.cell? ⟨lb, lo + q, none⟩ = some (.int .u8 (c.toNat : Int)) := (hba1.cell (p := ⟨lb, lo + q, none⟩) hlb).trans hV1
      refine hK.out _ _ (ca1) (fun hHeld => ?_)
      clear hK K
      (try simp only [List.getElem_toArray, List.getElem_cons_zero, List.getElem_cons_succ, Act.put, List.setIfInBounds_toArray, List.set_cons_zero, List.set_cons_succ])
      refine wpAnyH_ready (rs := [12]) (by kernel_rfl) (by simp) ?_
      refine AllReadyH.cons (o := _) rfl (fun K hK => ?_) AllReadyH.nil
      (try simp only [List.getElem_toArray, List.getElem_cons_zero, List.getElem_cons_succ])
      go_simp
      rw [n64]
      refine (write_m _ (mkB ((bA q))) _ hma1 (by simp) ba1.size (mkB_len _) (by omega) (E := 0) (HP.out.write hN0 hN1 (mkB (bA q))).2 (HP.out.write hN0 hN1 (mkB (bA q))).1).mono ?_; rintro e wb1 ⟨rfl, hmb1, hbb1, hsb1⟩
      have bb1 := ba1.trans hbb1
      have cb1 : wb1.cell? ⟨lb, lo + q, none⟩ = some (.int .u8 (c.toNat : Int)) := (hbb1.cell (p := ⟨lb, lo + q, none⟩) hlb).trans ca1
      refine hK.out _ _ (cb1) (fun hHeld => ?_)
      clear hK K
      (try simp only [List.getElem_toArray, List.getElem_cons_zero, List.getElem_cons_succ, Act.put, List.setIfInBounds_toArray, List.set_cons_zero, List.set_cons_succ])
      refine wpAnyH_take (i := 13) (oi := _) (v := ?_) rfl (by kernel_rfl) (by kernel_rfl) (by kernel_rfl) (fun _ _ _ h => h) (Or.inl ⟨by rfl, ?_⟩) (by assumption) ?_
      rotate_left
      · (intro w hSw; (try dsimp only at hSw); (try go_split_ands); go_simp; (try with_reducible rfl))
      (try simp only [List.getElem_toArray, List.getElem_cons_zero, List.getElem_cons_succ, Act.put, List.setIfInBounds_toArray, List.set_cons_zero, List.set_cons_succ])
      refine wpAnyH_done (by kernel_rfl) ?_ _
      have HB1 := Lib.hid hmb1
      clear hma1 hmb1 HV1
      have hwb := (hwV1.stay (hsa1 ga (by simp))).stay (hsb1 ga (by simp))
      have HWB := Lib.hid hwb
      clear hwb hwV1 hsa1 hsb1 HBS
      go_wp2_with fail
      go_roundw
      case rel =>
        refine ⟨q + 1, D.add (((c.toNat % 64 : Nat) : Int), mkB (bA q)), _, by omega, by simp, HP.out.add _, by rw [Dk.sum_add]; omega, HB1.out, HWB.out, fun n hn => ?_, bb1⟩
        rw [look_add2, HLK.out n hn]
        by_cases e : n = c.toNat % 64
        · rw [if_pos (by simp [e]), if_pos e, want_mk (by rw [bA_nat]; omega)]
        · rw [if_neg (fun h => e (by exact Int.ofNat.inj h)), if_neg e]
      case measure => simp [intOf]; omega
    · obtain rfl : q = l.length := by omega
      have hO : (D.settle).Plain ∧ (D.settle).sum ≤ 200 ∧ (D.settle).wait = [] ∧ (∀ n : Nat, n < 64 → (D.settle).on (n : Int) = wantB (f n)) := ⟨HP.out.settle, by rw [Dk.sum_settle]; omega, rfl, HLK.out⟩
      go_wp2_with fail
      refine (flush_m _ HM.out (by simp) hb.size (E := 0) HP.out.flush.2 HP.out.flush.1).mono ?_; rintro e w4 ⟨rfl, hm4, hb4, hs4⟩
      have HM4 := Lib.hid hm4
      have b4 := hb.trans hb4
      have HB4 := Lib.hid (HBR.out.stay (hs4 ga (by simp)))
      clear hm4 hb4 hs4 HM HP HBR HLK
      generalize D.settle = O at *
      obtain ⟨hO1, hO2, hO3, hO4⟩ := hO
      have HO := Lib.hid hO1
      have HOw := Lib.hid hO3
      have HOn := Lib.hid hO4
      clear hO1 hO3 hO4 hs
      go_wp2_with fail
      refine (waiting_m (i := 2) (d := O) _ HM4.out (by simp) (n := 0) (by rw [HOw.out]; rfl)).mono ?_; rintro e w5 ⟨rfl, hm5, hb5, hs5⟩
      have hm5' := hm5.mine (.cells #[.int .u8 0, .int .u8 0, .int .u8 0, .int .u8 0, .int .u8 0, .int .u8 0, .int .u8 0, .int .u8 0, .int .u8 0, .int .u8 0, .int .u8 0, .int .u8 0, .int .u8 0, .int .u8 0, .int .u8 0, .int .u8 0, .int .u8 0, .int .u8 0, .int .u8 0, .int .u8 0, .int .u8 0, .int .u8 0, .int .u8 0, .int .u8 0, .int .u8 0, .int .u8 0, .int .u8 0, .int .u8 0, .int .u8 0, .int .u8 0, .int .u8 0, .int .u8 0, .int .u8 0, .int .u8 0, .int .u8 0, .int .u8 0, .int .u8 0, .int .u8 0, .int .u8 0, .int .u8 0, .int .u8 0, .int .u8 0, .int .u8 0, .int .u8 0, .int .u8 0, .int .u8 0, .int .u8 0, .int .u8 0, .int .u8 0, .int .u8 0, .int .u8 0, .int .u8 0, .int .u8 0, .int .u8 0, .int .u8 0, .int .u8 0, .int .u8 0, .int .u8 0, .int .u8 0, .int .u8 0, .int .u8 0, .int .u8 0, .int .u8 0, .int .u8 0] 41)
      have hb5' := HB4.out.stay (hs5 ga (by simp))
      have b5 := b4.trans hb5
      have hg5 := hb5'.lt
      have b5a := b5.alloc b5.size (.cells #[.int .u8 0, .int .u8 0, .int .u8 0, .int .u8 0, .int .u8 0, .int .u8 0, .int .u8 0, .int .u8 0, .int .u8 0, .int .u8 0, .int .u8 0, .int .u8 0, .int .u8 0, .int .u8 0, .int .u8 0, .int .u8 0, .int .u8 0, .int .u8 0, .int .u8 0, .int .u8 0, .int .u8 0, .int .u8 0, .int .u8 0, .int .u8 0, .int .u8 0, .int .u8 0, .int .u8 0, .int .u8 0, .int .u8 0, .int .u8 0, .int .u8 0, .int .u8 0, .int .u8 0, .int .u8 0, .int .u8 0, .int .u8 0, .int .u8 0, .int .u8 0, .int .u8 0, .int .u8 0, .int .u8 0, .int .u8 0, .int .u8 0, .int .u8 0, .int .u8 0, .int .u8 0, .int .u8 0, .int .u8 0, .int .u8 0, .int .u8 0, .int .u8 0, .int .u8 0, .int .u8 0, .int .u8 0, .int .u8 0, .int .u8 0, .int .u8 0, .int .u8 0, .int .u8 0, .int .u8 0, .int .u8 0, .int .u8 0, .int .u8 0, .int .u8 0] 41)
      have hz5 : (w5.alloc (.cells #[.int .u8 0, .int .u8 0, .int .u8 0, .int .u8 0, .int .u8 0, .int .u8 0, .int .u8 0, .int .u8 0, .int .u8 0, .int .u8 0, .int .u8 0, .int .u8 0, .int .u8 0, .int .u8 0, .int .u8 0, .int .u8 0, .int .u8 0, .int .u8 0, .int .u8 0, .int .u8 0, .int .u8 0, .int .u8 0, .int .u8 0, .int .u8 0, .int .u8 0, .int .u8 0, .int .u8 0, .int .u8 0, .int .u8 0, .int .u8 0, .int .u8 0, .int .u8 0, .int .u8 0, .int .u8 0, .int .u8 0, .int .u8 0, .int .u8 0, .int .u8 0, .int .u8 0, .int .u8 0, .int .u8 0, .int .u8 0, .int .u8 0, .int .u8 0, .int .u8 0, .int .u8 0, .int .u8 0, .int .u8 0, .int .u8 0, .int .u8 0, .int .u8 0, .int .u8 0, .int .u8 0, .int .u8 0, .int .u8 0, .int .u8 0, .int .u8 0, .int .u8 0, .int .u8 0, .int .u8 0, .int .u8 0, .int .u8 0, .int .u8 0, .int .u8 0] 41)).heap[w5.heap.size]? = some (.cells #[.int .u8 0, .int .u8 0, .int .u8 0, .int .u8 0, .int .u8 0, .int .u8 0, .int .u8 0, .int .u8 0, .int .u8 0, .int .u8 0, .int .u8 0, .int .u8 0, .int .u8 0, .int .u8 0, .int .u8 0, .int .u8 0, .int .u8 0, .int .u8 0, .int .u8 0, .int .u8 0, .int .u8 0, .int .u8 0, .int .u8 0, .int .u8 0, .int .u8 0, .int .u8 0, .int .u8 0, .int .u8 0, .int .u8 0, .int .u8 0, .int .u8 0, .int .u8 0, .int .u8 0, .int .u8 0, .int .u8 0, .int .u8 0, .int .u8 0, .int .u8 0, .int .u8 0, .int .u8 0, .int .u8 0, .int .u8 0, .int .u8 0, .int .u8 0, .int .u8 0, .int .u8 0, .int .u8 0, .int .u8 0, .int .u8 0, .int .u8 0, .int .u8 0, .int .u8 0, .int .u8 0, .int .u8 0, .int .u8 0, .int .u8 0, .int .u8 0, .int .u8 0, .int .u8 0, .int .u8 0, .int .u8 0, .int .u8 0, .int .u8 0, .int .u8 0] 41 (0, 0)) := heap_alloc_new _ _
      have H5 := Lib.hid hb5'
      have H5a := Lib.hid (hb5'.stay (heap_alloc_old w5 (.cells #[.int .u8 0, .int .u8 0, .int .u8 0, .int .u8 0, .int .u8 0, .int .u8 0, .int .u8 0, .int .u8 0, .int .u8 0, .int .u8 0, .int .u8 0, .int .u8 0, .int .u8 0, .int .u8 0, .int .u8 0, .int .u8 0, .int .u8 0, .int .u8 0, .int .u8 0, .int .u8 0, .int .u8 0, .int .u8 0, .int .u8 0, .int .u8 0, .int .u8 0, .int .u8 0, .int .u8 0, .int .u8 0, .int .u8 0, .int .u8 0, .int .u8 0, .int .u8 0, .int .u8 0, .int .u8 0, .int .u8 0, .int .u8 0, .int .u8 0, .int .u8 0, .int .u8 0, .int .u8 0, .int .u8 0, .int .u8 0, .int .u8 0, .int .u8 0, .int .u8 0, .int .u8 0, .int .u8 0, .int .u8 0, .int .u8 0, .int .u8 0, .int .u8 0, .int .u8 0, .int .u8 0, .int .u8 0, .int .u8 0, .int .u8 0, .int .u8 0, .int .u8 0, .int .u8 0, .int .u8 0, .int .u8 0, .int .u8 0, .int .u8 0, .int .u8 0] 41) hg5))
      have HZ5 := Lib.hid hz5
      have HM5 := Lib.hid hm5'
      clear hm5 hb5 hs5 hm5' hb5' HM4 HB4 hz5
      go_wp2_with (first | (with_reducible refine wpList_load_br rfl _ rfl H5.out rfl ?_) | (refine wpList_store_br (f := f) rfl _ _ rfl HZ5.out rfl rfl rfl ?_))
      intro w6 h6 g6
      have hgb : w.heap.size ≤ w5.heap.size := b5.size
      have hba : ga < w5.heap.size := hg5
      have hm6 := HM5.out.own_set (b := w5.heap.size) (by simp) g6
      have b6 := below_row b5a g6 b5a.size hgb
      have ha6 := H5a.out.stay (g6.block ga (by simp; omega) (fun e => by injection e with e; omega))
      generalize w5.heap.size = gb at *
      have h6lt := h6.lt
      have hm6' := hm6.mine (.cells #[.int .u8 0, .int .u8 0, .int .u8 0, .int .u8 0, .int .u8 0, .int .u8 0, .int .u8 0, .int .u8 0, .int .u8 0, .int .u8 0, .int .u8 0, .int .u8 0, .int .u8 0, .int .u8 0, .int .u8 0, .int .u8 0, .int .u8 0, .int .u8 0, .int .u8 0, .int .u8 0, .int .u8 0, .int .u8 0, .int .u8 0, .int .u8 0, .int .u8 0, .int .u8 0, .int .u8 0, .int .u8 0, .int .u8 0, .int .u8 0, .int .u8 0, .int .u8 0, .int .u8 0, .int .u8 0, .int .u8 0, .int .u8 0, .int .u8 0, .int .u8 0, .int .u8 0, .int .u8 0, .int .u8 0, .int .u8 0, .int .u8 0, .int .u8 0, .int .u8 0, .int .u8 0, .int .u8 0, .int .u8 0, .int .u8 0, .int .u8 0, .int .u8 0, .int .u8 0, .int .u8 0, .int .u8 0, .int .u8 0, .int .u8 0, .int .u8 0, .int .u8 0, .int .u8 0, .int .u8 0, .int .u8 0, .int .u8 0, .int .u8 0, .int .u8 0] 41)
      have b6a := b6.alloc b6.size (.cells #[.int .u8 0, .int .u8 0, .int .u8 0, .int .u8 0, .int .u8 0, .int .u8 0, .int .u8 0, .int .u8 0, .int .u8 0, .int .u8 0, .int .u8 0, .int .u8 0, .int .u8 0, .int .u8 0, .int .u8 0, .int .u8 0, .int .u8 0, .int .u8 0, .int .u8 0, .int .u8 0, .int .u8 0, .int .u8 0, .int .u8 0, .int .u8 0, .int .u8 0, .int .u8 0, .int .u8 0, .int .u8 0, .int .u8 0, .int .u8 0, .int .u8 0, .int .u8 0, .int .u8 0, .int .u8 0, .int .u8 0, .int .u8 0, .int .u8 0, .int .u8 0, .int .u8 0, .int .u8 0, .int .u8 0, .int .u8 0, .int .u8 0, .int .u8 0, .int .u8 0, .int .u8 0, .int .u8 0, .int .u8 0, .int .u8 0, .int .u8 0, .int .u8 0, .int .u8 0, .int .u8 0, .int .u8 0, .int .u8 0, .int .u8 0, .int .u8 0, .int .u8 0, .int .u8 0, .int .u8 0, .int .u8 0, .int .u8 0, .int .u8 0, .int .u8 0] 41)
      have hz6 : (w6.alloc (.cells #[.int .u8 0, .int .u8 0, .int .u8 0, .int .u8 0, .int .u8 0, .int .u8 0, .int .u8 0, .int .u8 0, .int .u8 0, .int .u8 0, .int .u8 0, .int .u8 0, .int .u8 0, .int .u8 0, .int .u8 0, .int .u8 0, .int .u8 0, .int .u8 0, .int .u8 0, .int .u8 0, .int .u8 0, .int .u8 0, .int .u8 0, .int .u8 0, .int .u8 0, .int .u8 0, .int .u8 0, .int .u8 0, .int .u8 0, .int .u8 0, .int .u8 0, .int .u8 0, .int .u8 0, .int .u8 0, .int .u8 0, .int .u8 0, .int .u8 0, .int .u8 0, .int .u8 0, .int .u8 0, .int .u8 0, .int .u8 0, .int .u8 0, .int .u8 0, .int .u8 0, .int .u8 0, .int .u8 0, .int .u8 0, .int .u8 0, .int .u8 0, .int .u8 0, .int .u8 0, .int .u8 0, .int .u8 0, .int .u8 0, .int .u8 0, .int .u8 0, .int .u8 0, .int .u8 0, .int .u8 0, .int .u8 0, .int .u8 0, .int .u8 0, .int .u8 0] 41)).heap[w6.heap.size]? = some (.cells #[.int .u8 0, .int .u8 0, .int .u8 0, .int .u8 0, .int .u8 0, .int .u8 0, .int .u8 0, .int .u8 0, .int .u8 0, .int .u8 0, .int .u8 0, .int .u8 0, .int .u8 0, .int .u8 0, .int .u8 0, .int .u8 0, .int .u8 0, .int .u8 0, .int .u8 0, .int .u8 0, .int .u8 0, .int .u8 0, .int .u8 0, .int .u8 0, .int .u8 0, .int .u8 0, .int .u8 0, .int .u8 0, .int .u8 0, .int .u8 0, .int .u8 0, .int .u8 0, .int .u8 0, .int .u8 0, .int .u8 0, .int .u8 0, .int .u8 0, .int .u8 0, .int .u8 0, .int .u8 0, .int .u8 0, .int .u8 0, .int .u8 0, .int .u8 0, .int .u8 0, .int .u8 0, .int .u8 0, .int .u8 0, .int .u8 0, .int .u8 0, .int .u8 0, .int .u8 0, .int .u8 0, .int .u8 0, .int .u8 0, .int .u8 0, .int .u8 0, .int .u8 0, .int .u8 0, .int .u8 0, .int .u8 0, .int .u8 0, .int .u8 0, .int .u8 0] 41 (0, 0)) := heap_alloc_new _ _
      have hgc : w.heap.size ≤ w6.heap.size := b6.size
      have H6 := Lib.hid ha6
      have H6a := Lib.hid (ha6.stay (heap_alloc_old w6 (.cells #[.int .u8 0, .int .u8 0, .int .u8 0, .int .u8 0, .int .u8 0, .int .u8 0, .int .u8 0, .int .u8 0, .int .u8 0, .int .u8 0, .int .u8 0, .int .u8 0, .int .u8 0, .int .u8 0, .int .u8 0, .int .u8 0, .int .u8 0, .int .u8 0, .int .u8 0, .int .u8 0, .int .u8 0, .int .u8 0, .int .u8 0, .int .u8 0, .int .u8 0, .int .u8 0, .int .u8 0, .int .u8 0, .int .u8 0, .int .u8 0, .int .u8 0, .int .u8 0, .int .u8 0, .int .u8 0, .int .u8 0, .int .u8 0, .int .u8 0, .int .u8 0, .int .u8 0, .int .u8 0, .int .u8 0, .int .u8 0, .int .u8 0, .int .u8 0, .int .u8 0, .int .u8 0, .int .u8 0, .int .u8 0, .int .u8 0, .int .u8 0, .int .u8 0, .int .u8 0, .int .u8 0, .int .u8 0, .int .u8 0, .int .u8 0, .int .u8 0, .int .u8 0, .int .u8 0, .int .u8 0, .int .u8 0, .int .u8 0, .int .u8 0, .int .u8 0] 41) ha6.lt))
      have H6b := Lib.hid (h6.stay (heap_alloc_old w6 (.cells #[.int .u8 0, .int .u8 0, .int .u8 0, .int .u8 0, .int .u8 0, .int .u8 0, .int .u8 0, .int .u8 0, .int .u8 0, .int .u8 0, .int .u8 0, .int .u8 0, .int .u8 0, .int .u8 0, .int .u8 0, .int .u8 0, .int .u8 0, .int .u8 0, .int .u8 0, .int .u8 0, .int .u8 0, .int .u8 0, .int .u8 0, .int .u8 0, .int .u8 0, .int .u8 0, .int .u8 0, .int .u8 0, .int .u8 0, .int .u8 0, .int .u8 0, .int .u8 0, .int .u8 0, .int .u8 0, .int .u8 0, .int .u8 0, .int .u8 0, .int .u8 0, .int .u8 0, .int .u8 0, .int .u8 0, .int .u8 0, .int .u8 0, .int .u8 0, .int .u8 0, .int .u8 0, .int .u8 0, .int .u8 0, .int .u8 0, .int .u8 0, .int .u8 0, .int .u8 0, .int .u8 0, .int .u8 0, .int .u8 0, .int .u8 0, .int .u8 0, .int .u8 0, .int .u8 0, .int .u8 0, .int .u8 0, .int .u8 0, .int .u8 0, .int .u8 0] 41) h6lt))
      have HZ6 := Lib.hid hz6
      have HM6 := Lib.hid hm6'
      have hbc0 : gb < w6.heap.size := h6lt
      clear h6 g6 hm6 ha6 hm6' hz6 H5 H5a HZ5 HM5 hg5 h6lt
      go_wp2_with (first | (with_reducible refine wpList_load_br rfl _ rfl H6.out rfl ?_) | (refine wpList_store_br (f := f) rfl _ _ rfl HZ6.out rfl rfl rfl ?_))
      intro w7 h7 g7
      have hm7 := HM6.out.own_set (b := w6.heap.size) (by simp) g7
      have b7 := below_row b6a g7 b6a.size hgc
      have ha7 := H6a.out.stay (g7.block ga (by simp; omega) (fun e => by injection e with e; omega))
      have hb7 := H6b.out.stay (g7.block gb (by simp; omega) (fun e => by injection e with e; omega))
      generalize w6.heap.size = gc at *
      have HMx := Lib.hid hm7
      have HAx := Lib.hid ha7
      have HBx := Lib.hid hb7
      have HCx := Lib.hid h7
      have hab : ¬ ga = gb := by omega
      have hac : ¬ ga = gc := by omega
      have hbc : ¬ gb = gc := by omega
      have hba' : ¬ gb = ga := by omega
      have hca : ¬ gc = ga := by omega
      have hcb : ¬ gc = gb := by omega
      clear hm7 ha7 hb7 h7 g7 H6 H6a H6b HZ6 HM6 b6a b6 b5a
      go_wp2_with fail
      obtain ⟨wo, hwo⟩ : ∃ wo : World, wo = w7 := ⟨_, rfl⟩
      go_loopw [13] (fun i W => ∃ (q : Nat) (D : Dk) (fw fl : Nat → UInt8), q ≤ m.length ∧ i = .int .i64 q ∧ D.Plain ∧ D.sum ≤ 200 + q ∧ D.on = O.on ∧ D.wait.length = q ∧ Many w.heap.size [gc, gb, ga] W [(2, g1, D)] ∧ BR W ga f ∧ BR W gb fw ∧ BR W gc fl ∧ (∀ n : Nat, n < 64 → Dk.lay O.on (Dk.kept D.wait Kp) (n : Int) = wantB (fw n)) ∧ (∀ n : Nat, n < 64 → Dk.lay O.on D.wait (n : Int) = wantB (fl n)) ∧ Below w.heap.size w W) (fun i _ => m.length - (intOf i).toNat)
      case atStart => exact ⟨0, O, f, f, by omega, rfl, HO.out, by omega, rfl, by rw [HOw.out]; rfl, HMx.out, HAx.out, HBx.out, HCx.out, fun n hn => by rw [HOw.out]; exact HOn.out n hn, fun n hn => by rw [HOw.out]; exact HOn.out n hn, b7⟩
      case round =>
        clear hwo
        obtain ⟨q, D, fw, fl, hq, rfl, hP, hs, hon, hwl, hm, hba2, hbb2, hbc2, hkw, hkl, hb⟩ := hrel
        have HM := Lib.hid hm
        have HP := Lib.hid hP
        have HA := Lib.hid hba2
        have HBw := Lib.hid hbb2
        have HCl := Lib.hid hbc2
        have HKW := Lib.hid hkw
        have HKL := Lib.hid hkl
        have HON := Lib.hid hon
        have HWL := Lib.hid hwl
        clear hm hP hba2 hbb2 hbc2 hkw hkl hon hwl HMx HAx HBx HCx
        by_cases hlt : q < m.length
        · have hq2 : (q : Int) < (m.length : Int) := by omega
          obtain ⟨mb, mo, rfl, hmb, hmc⟩ := HMm.out.at (i := q) hlt
          have hmc' : wr.cell? ⟨mb, mo + q, none⟩ = some (.int .u8 ((m[q]'hlt).toNat : Int)) := (hb.cell (p := ⟨mb, mo + q, none⟩) hmb).trans hmc
          clear hmc
          generalize m[q]'hlt = c at *
          have hN0 : (0 : Int) ≤ ((c.toNat % 64 : Nat) : Int) := by omega
          have hN1 : ((c.toNat % 64 : Nat) : Int) < 64 := by omega
          obtain ⟨tm0, tm1⟩ := tm64 c
          have ckb := HBw.out.cell (n := c.toNat % 64) (by omega)
          have fkb := HBw.out.free (c.toNat % 64)
          have ckc := HCl.out.cell (n := c.toNat % 64) (by omega)
          have fkc := HCl.out.free (c.toNat % 64)
          have hmb1 : ¬ mb = gb := by omega
          have hmb2 : ¬ mb = gc := by omega
          by_cases hkq : (Kp[q]?).getD false = true
          · have hql : q < Kp.length := by
              rcases Nat.lt_or_ge q Kp.length with h | h
              · exact h
              · rw [List.getElem?_eq_none h] at hkq
                cases hkq
            obtain ⟨kb0, ko, rfl, hkb0, hkc⟩ := HK.out.at (i := q) hql
            have hkt : Kp[q]'hql = true := by rw [List.getElem?_eq_getElem hql] at hkq; exact hkq
            rw [hkt] at hkc
            have hkc' : wr.cell? ⟨kb0, ko + q, none⟩ = some (.bool true) := (hb.cell (p := ⟨kb0, ko + q, none⟩) hkb0).trans hkc
            have hql' : (q : Int) < (Kp.length : Int) := by omega
            have HKQ := Lib.hid hkq
            clear hkc hkt hkq
            go_wp2_with fail
            rw [byte_B' q]
            have h1s := HBw.out.set (n := c.toNat % 64) (by omega) (bB q)
            have g1s := wb_set' wr gb (c.toNat % 64) (.int .u8 ((bB q).toNat : Int))
            have m1s := HM.out.own_set (b := gb) (by simp) g1s
            have b1s := hb.setCell (p := ⟨gb, c.toNat % 64, none⟩) hgb (.int .u8 ((bB q).toNat : Int))
            have a1s := HA.out.stay (heap_setCell_other wr ⟨gb, c.toNat % 64, none⟩ ga (.int .u8 ((bB q).toNat : Int)) hab)
            have c1s := HCl.out.stay (heap_setCell_other wr ⟨gb, c.toNat % 64, none⟩ gc (.int .u8 ((bB q).toNat : Int)) hcb)
            have d1s := g1s.cell (a := ⟨mb, mo + q, none⟩) hmc' (fun e => hmb1 (Option.some.inj e))
            generalize wr.setCell ⟨gb, c.toNat % 64, none⟩ (.int .u8 ((bB q).toNat : Int)) = wP at *
            have h2s := c1s.set (n := c.toNat % 64) (by omega) (bB q)
            have g2s := wb_set' wP gc (c.toNat % 64) (.int .u8 ((bB q).toNat : Int))
            have m2s := m1s.own_set (b := gc) (by simp) g2s
            have b2s := b1s.setCell (p := ⟨gc, c.toNat % 64, none⟩) hgc (.int .u8 ((bB q).toNat : Int))
            have a2s := a1s.stay (heap_setCell_other wP ⟨gc, c.toNat % 64, none⟩ ga (.int .u8 ((bB q).toNat : Int)) hac)
            have w2s := h1s.stay (heap_setCell_other wP ⟨gc, c.toNat % 64, none⟩ gb (.int .u8 ((bB q).toNat : Int)) hbc)
            have d2s := g2s.cell (a := ⟨mb, mo + q, none⟩) d1s (fun e => hmb2 (Option.some.inj e))
            generalize wP.setCell ⟨gc, c.toNat % 64, none⟩ (.int .u8 ((bB q).toNat : Int)) = wQ at *
            clear h1s g1s m1s b1s a1s c1s d1s g2s
            have MX := Lib.hid m2s
            clear m2s ckb fkb ckc fkc tm0 tm1 HM HA HBw HCl
            have hV31 : wQ.drew.cell? ⟨mb, mo + q, none⟩ = some (.int .u8 (c.toNat : Int)) := d2s
            have HV31 : Hid (Many w.heap.size [gc, gb, ga] wQ.drew [(2, g1, D)]) := Lib.hid MX.out.drew
            have bV31 : Below w.heap.size w wQ.drew := b2s.drew
            have pA : BR wQ.drew ga f := a2s.stay rfl
            have pB : BR wQ.drew gb (fun i => if i = c.toNat % 64 then bB q else fw i) := w2s.stay rfl
            have pC : BR wQ.drew gc (fun i => if i = c.toNat % 64 then bB q else fl i) := h2s.stay rfl
            refine wp_region_held_drew (S := fun W => W.cell? ⟨mb, mo + q, none⟩ = some (.int .u8 (c.toNat : Int))) (by kernel_rfl) hV31 (fun hHeld => ?_)
            generalize wQ.drew = V31 at *
            refine wpAnyH_take (i := 0) (oi := _) (v := ?_) rfl (by kernel_rfl) (by kernel_rfl) (by kernel_rfl) (fun _ _ _ h => h) (Or.inl ⟨by rfl, ?_⟩) (by assumption) ?_
            rotate_left
            · (intro w hSw; (try dsimp only at hSw); (try go_split_ands); go_simp; (try with_reducible rfl))
            (try simp only [List.getElem_toArray, List.getElem_cons_zero, List.getElem_cons_succ, Act.put, List.setIfInBounds_toArray, List.set_cons_zero, List.set_cons_succ])
            refine wpAnyH_take (i := 1) (oi := _) (v := ?_) rfl (by kernel_rfl) (by kernel_rfl) (by kernel_rfl) (fun _ _ _ h => h) (Or.inl ⟨by rfl, ?_⟩) (by assumption) ?_
            rotate_left
            · (intro w hSw; (try dsimp only at hSw); (try go_split_ands); go_simp; (try with_reducible rfl))
            (try simp only [List.getElem_toArray, List.getElem_cons_zero, List.getElem_cons_succ, Act.put, List.setIfInBounds_toArray, List.set_cons_zero, List.set_cons_succ])
            refine wpAnyH_take (i := 2) (oi := _) (v := ?_) rfl (by kernel_rfl) (by kernel_rfl) (by kernel_rfl) (fun _ _ _ h => h) (Or.inl ⟨by rfl, ?_⟩) (by assumption) ?_
            rotate_left
            · (intro w hSw; (try dsimp only at hSw); (try go_split_ands); go_simp; (try with_reducible rfl))
            (try simp only [List.getElem_toArray, List.getElem_cons_zero, List.getElem_cons_succ, Act.put, List.setIfInBounds_toArray, List.set_cons_zero, List.set_cons_succ])
            refine wpAnyH_take (i := 3) (oi := _) (v := ?_) rfl (by kernel_rfl) (by kernel_rfl) (by kernel_rfl) (fun _ _ _ h => h) (Or.inl ⟨by rfl, ?_⟩) (by assumption) ?_
            rotate_left
            · (intro w hSw; (try dsimp only at hSw); (try go_split_ands); go_simp; (try with_reducible rfl))
            (try simp only [List.getElem_toArray, List.getElem_cons_zero, List.getElem_cons_succ, Act.put, List.setIfInBounds_toArray, List.set_cons_zero, List.set_cons_succ])
            refine wpAnyH_take (i := 4) (oi := _) (v := ?_) rfl (by kernel_rfl) (by kernel_rfl) (by kernel_rfl) (fun _ _ _ h => h) (Or.inl ⟨by rfl, ?_⟩) (by assumption) ?_
            rotate_left
            · (intro w hSw; (try dsimp only at hSw); (try go_split_ands); go_simp; (try with_reducible rfl))
            (try simp only [List.getElem_toArray, List.getElem_cons_zero, List.getElem_cons_succ, Act.put, List.setIfInBounds_toArray, List.set_cons_zero, List.set_cons_succ])
            refine wpAnyH_take (i := 5) (oi := _) (v := ?_) rfl (by kernel_rfl) (by kernel_rfl) (by kernel_rfl) (fun _ _ _ h => h) (Or.inl ⟨by rfl, ?_⟩) (by assumption) ?_
            rotate_left
            · (intro w hSw; (try dsimp only at hSw); (try go_split_ands); go_simp; (try with_reducible rfl))
            (try simp only [List.getElem_toArray, List.getElem_cons_zero, List.getElem_cons_succ, Act.put, List.setIfInBounds_toArray, List.set_cons_zero, List.set_cons_succ])
            refine wpAnyH_take (i := 6) (oi := _) (v := ?_) rfl (by kernel_rfl) (by kernel_rfl) (by kernel_rfl) (fun _ _ _ h => h) (Or.inl ⟨by rfl, ?_⟩) (by assumption) ?_
            rotate_left
            · (intro w hSw; (try dsimp only at hSw); (try go_split_ands); go_simp; (try with_reducible rfl))
            (try simp only [List.getElem_toArray, List.getElem_cons_zero, List.getElem_cons_succ, Act.put, List.setIfInBounds_toArray, List.set_cons_zero, List.set_cons_succ])
            refine wpAnyH_take (i := 7) (oi := _) (v := ?_) rfl (by kernel_rfl) (by kernel_rfl) (by kernel_rfl) (fun _ _ _ h => h) (Or.inl ⟨by rfl, ?_⟩) (by assumption) ?_
            rotate_left
            · (intro w hSw; (try dsimp only at hSw); (try go_split_ands); go_simp; (try with_reducible rfl))
            (try simp only [List.getElem_toArray, List.getElem_cons_zero, List.getElem_cons_succ, Act.put, List.setIfInBounds_toArray, List.set_cons_zero, List.set_cons_succ])
            refine wpAnyH_ready (rs := [8]) (by kernel_rfl) (by simp) ?_
            refine AllReadyH.cons (o := _) rfl (fun K hK => ?_) AllReadyH.nil
            (try simp only [List.getElem_toArray, List.getElem_cons_zero, List.getElem_cons_succ])
            go_simp
            refine (block_m (bB q) _ (by first | exact rfl) _ HV31.out bV31.size).mono ?_; rintro e wa31 ⟨rfl, hma31, hba31, hsa31⟩
            have ba31 := bV31.trans hba31
            have ca31 : wa31.cell? ⟨mb, mo + q, none⟩ = some (.int .u8 (c.toNat : Int)) := (hba31.cell (p := ⟨mb, mo + q, none⟩) hmb).trans hV31
            refine hK.out _ _ (ca31) (fun hHeld => ?_)
            clear hK K
            (try simp only [List.getElem_toArray, List.getElem_cons_zero, List.getElem_cons_succ, Act.put, List.setIfInBounds_toArray, List.set_cons_zero, List.set_cons_succ])
            refine wpAnyH_ready (rs := [9]) (by kernel_rfl) (by simp) ?_
            refine AllReadyH.cons (o := _) rfl (fun K hK => ?_) AllReadyH.nil
            (try simp only [List.getElem_toArray, List.getElem_cons_zero, List.getElem_cons_succ])
            go_simp
            rw [n64]
            refine (write_m _ (mkB ((bB q))) _ hma31 (by simp) ba31.size (mkB_len _) (by omega) (E := 0) (HP.out.write hN0 hN1 (mkB (bB q))).2 (HP.out.write hN0 hN1 (mkB (bB q))).1).mono ?_; rintro e wb31 ⟨rfl, hmb31, hbb31, hsb31⟩
            have bb31 := ba31.trans hbb31
            have cb31 : wb31.cell? ⟨mb, mo + q, none⟩ = some (.int .u8 (c.toNat : Int)) := (hbb31.cell (p := ⟨mb, mo + q, none⟩) hmb).trans ca31
            refine hK.out _ _ (cb31) (fun hHeld => ?_)
            clear hK K
            (try simp only [List.getElem_toArray, List.getElem_cons_zero, List.getElem_cons_succ, Act.put, List.setIfInBounds_toArray, List.set_cons_zero, List.set_cons_succ])
            refine wpAnyH_take (i := 10) (oi := _) (v := ?_) rfl (by kernel_rfl) (by kernel_rfl) (by kernel_rfl) (fun _ _ _ h => h) (Or.inl ⟨by rfl, ?_⟩) (by assumption) ?_
            rotate_left
            · (intro w hSw; (try dsimp only at hSw); (try go_split_ands); go_simp; (try with_reducible rfl))
            (try simp only [List.getElem_toArray, List.getElem_cons_zero, List.getElem_cons_succ, Act.put, List.setIfInBounds_toArray, List.set_cons_zero, List.set_cons_succ])
            refine wpAnyH_done (by kernel_rfl) ?_ _
            have HB31 := Lib.hid hmb31
            clear hma31 hmb31 HV31
            have QA := Lib.hid ((pA.stay (hsa31 ga (by simp))).stay (hsb31 ga (by simp)))
            have QB := Lib.hid ((pB.stay (hsa31 gb (by simp))).stay (hsb31 gb (by simp)))
            have QC := Lib.hid ((pC.stay (hsa31 gc (by simp))).stay (hsb31 gc (by simp)))
            clear pA pB pC a2s w2s h2s hsa31 hsb31 MX
            go_wp2_with fail
            go_roundw
            case rel =>
              refine ⟨q + 1, D.add (((c.toNat % 64 : Nat) : Int), mkB (bB q)), (fun i => if i = c.toNat % 64 then bB q else fw i), (fun i => if i = c.toNat % 64 then bB q else fl i), by omega, by simp, HP.out.add _, by rw [Dk.sum_add]; omega, HON.out, by simp [Dk.add, HWL.out], HB31.out, QA.out, QB.out, QC.out, fun n hn => ?_, fun n hn => ?_, bb31⟩
              · show Dk.lay O.on (Dk.kept (D.wait ++ [_]) Kp) (n : Int) = _
                rw [Dk.kept_snoc, HWL.out, HKQ.out, if_pos rfl, Dk.lay_snoc]
                unfold Dk.put
                dsimp only
                by_cases e : n = c.toNat % 64
                · rw [if_pos (by simp [e]), if_pos e, want_mk (by rw [bB_nat]; omega)]
                · rw [if_neg (fun h => e (by exact Int.ofNat.inj h)), if_neg e, HKW.out n hn]
              · show Dk.lay O.on (D.wait ++ [_]) (n : Int) = _
                rw [Dk.lay_snoc]
                unfold Dk.put
                dsimp only
                by_cases e : n = c.toNat % 64
                · rw [if_pos (by simp [e]), if_pos e, want_mk (by rw [bB_nat]; omega)]
                · rw [if_neg (fun h => e (by exact Int.ofNat.inj h)), if_neg e, HKL.out n hn]
            case measure => simp [intOf]; omega
          · have HKQ := Lib.hid (Bool.eq_false_iff.2 hkq)
            by_cases hql : q < Kp.length
            · obtain ⟨kb0, ko, rfl, hkb0, hkc⟩ := HK.out.at (i := q) hql
              have hkt : Kp[q]'hql = false := by
                have := HKQ.out
                rw [List.getElem?_eq_getElem hql] at this
                exact this
              rw [hkt] at hkc
              have hkc' : wr.cell? ⟨kb0, ko + q, none⟩ = some (.bool false) := (hb.cell (p := ⟨kb0, ko + q, none⟩) hkb0).trans hkc
              have hql' : (q : Int) < (Kp.length : Int) := by omega
              clear hkc hkt hkq
              go_wp2_with fail
              rw [byte_B' q]
              have h2s := HCl.out.set (n := c.toNat % 64) (by omega) (bB q)
              have g2s := wb_set' wr gc (c.toNat % 64) (.int .u8 ((bB q).toNat : Int))
              have m2s := HM.out.own_set (b := gc) (by simp) g2s
              have b2s := hb.setCell (p := ⟨gc, c.toNat % 64, none⟩) hgc (.int .u8 ((bB q).toNat : Int))
              have a2s := HA.out.stay (heap_setCell_other wr ⟨gc, c.toNat % 64, none⟩ ga (.int .u8 ((bB q).toNat : Int)) hac)
              have w2s := HBw.out.stay (heap_setCell_other wr ⟨gc, c.toNat % 64, none⟩ gb (.int .u8 ((bB q).toNat : Int)) hbc)
              have d2s := g2s.cell (a := ⟨mb, mo + q, none⟩) hmc' (fun e => hmb2 (Option.some.inj e))
              generalize wr.setCell ⟨gc, c.toNat % 64, none⟩ (.int .u8 ((bB q).toNat : Int)) = wQ at *
              clear g2s
              have MX := Lib.hid m2s
              clear m2s ckb fkb ckc fkc tm0 tm1 HM HA HBw HCl
              have hV32 : wQ.drew.cell? ⟨mb, mo + q, none⟩ = some (.int .u8 (c.toNat : Int)) := d2s
              have HV32 : Hid (Many w.heap.size [gc, gb, ga] wQ.drew [(2, g1, D)]) := Lib.hid MX.out.drew
              have bV32 : Below w.heap.size w wQ.drew := b2s.drew
              have pA : BR wQ.drew ga f := a2s.stay rfl
              have pB : BR wQ.drew gb fw := w2s.stay rfl
              have pC : BR wQ.drew gc (fun i => if i = c.toNat % 64 then bB q else fl i) := h2s.stay rfl
              refine wp_region_held_drew (S := fun W => W.cell? ⟨mb, mo + q, none⟩ = some (.int .u8 (c.toNat : Int))) (by kernel_rfl) hV32 (fun hHeld => ?_)
              generalize wQ.drew = V32 at *
              refine wpAnyH_take (i := 0) (oi := _) (v := ?_) rfl (by kernel_rfl) (by kernel_rfl) (by kernel_rfl) (fun _ _ _ h => h) (Or.inl ⟨by rfl, ?_⟩) (by assumption) ?_
              rotate_left
              · (intro w hSw; (try dsimp only at hSw); (try go_split_ands); go_simp; (try with_reducible rfl))
              (try simp only [List.getElem_toArray, List.getElem_cons_zero, List.getElem_cons_succ, Act.put, List.setIfInBounds_toArray, List.set_cons_zero, List.set_cons_succ])
              refine wpAnyH_take (i := 1) (oi := _) (v := ?_) rfl (by kernel_rfl) (by kernel_rfl) (by kernel_rfl) (fun _ _ _ h => h) (Or.inl ⟨by rfl, ?_⟩) (by assumption) ?_
              rotate_left
              · (intro w hSw; (try dsimp only at hSw); (try go_split_ands); go_simp; (try with_reducible rfl))
              (try simp only [List.getElem_toArray, List.getElem_cons_zero, List.getElem_cons_succ, Act.put, List.setIfInBounds_toArray, List.set_cons_zero, List.set_cons_succ])
              refine wpAnyH_take (i := 2) (oi := _) (v := ?_) rfl (by kernel_rfl) (by kernel_rfl) (by kernel_rfl) (fun _ _ _ h => h) (Or.inl ⟨by rfl, ?_⟩) (by assumption) ?_
              rotate_left
              · (intro w hSw; (try dsimp only at hSw); (try go_split_ands); go_simp; (try with_reducible rfl))
              (try simp only [List.getElem_toArray, List.getElem_cons_zero, List.getElem_cons_succ, Act.put, List.setIfInBounds_toArray, List.set_cons_zero, List.set_cons_succ])
              refine wpAnyH_take (i := 3) (oi := _) (v := ?_) rfl (by kernel_rfl) (by kernel_rfl) (by kernel_rfl) (fun _ _ _ h => h) (Or.inl ⟨by rfl, ?_⟩) (by assumption) ?_
              rotate_left
              · (intro w hSw; (try dsimp only at hSw); (try go_split_ands); go_simp; (try with_reducible rfl))
              (try simp only [List.getElem_toArray, List.getElem_cons_zero, List.getElem_cons_succ, Act.put, List.setIfInBounds_toArray, List.set_cons_zero, List.set_cons_succ])
              refine wpAnyH_take (i := 4) (oi := _) (v := ?_) rfl (by kernel_rfl) (by kernel_rfl) (by kernel_rfl) (fun _ _ _ h => h) (Or.inl ⟨by rfl, ?_⟩) (by assumption) ?_
              rotate_left
              · (intro w hSw; (try dsimp only at hSw); (try go_split_ands); go_simp; (try with_reducible rfl))
              (try simp only [List.getElem_toArray, List.getElem_cons_zero, List.getElem_cons_succ, Act.put, List.setIfInBounds_toArray, List.set_cons_zero, List.set_cons_succ])
              refine wpAnyH_take (i := 5) (oi := _) (v := ?_) rfl (by kernel_rfl) (by kernel_rfl) (by kernel_rfl) (fun _ _ _ h => h) (Or.inl ⟨by rfl, ?_⟩) (by assumption) ?_
              rotate_left
              · (intro w hSw; (try dsimp only at hSw); (try go_split_ands); go_simp; (try with_reducible rfl))
              (try simp only [List.getElem_toArray, List.getElem_cons_zero, List.getElem_cons_succ, Act.put, List.setIfInBounds_toArray, List.set_cons_zero, List.set_cons_succ])
              refine wpAnyH_take (i := 6) (oi := _) (v := ?_) rfl (by kernel_rfl) (by kernel_rfl) (by kernel_rfl) (fun _ _ _ h => h) (Or.inl ⟨by rfl, ?_⟩) (by assumption) ?_
              rotate_left
              · (intro w hSw; (try dsimp only at hSw); (try go_split_ands); go_simp; (try with_reducible rfl))
              (try simp only [List.getElem_toArray, List.getElem_cons_zero, List.getElem_cons_succ, Act.put, List.setIfInBounds_toArray, List.set_cons_zero, List.set_cons_succ])
              refine wpAnyH_take (i := 7) (oi := _) (v := ?_) rfl (by kernel_rfl) (by kernel_rfl) (by kernel_rfl) (fun _ _ _ h => h) (Or.inl ⟨by rfl, ?_⟩) (by assumption) ?_
              rotate_left
              · (intro w hSw; (try dsimp only at hSw); (try go_split_ands); go_simp; (try with_reducible rfl))
              (try simp only [List.getElem_toArray, List.getElem_cons_zero, List.getElem_cons_succ, Act.put, List.setIfInBounds_toArray, List.set_cons_zero, List.set_cons_succ])
              refine wpAnyH_ready (rs := [8]) (by kernel_rfl) (by simp) ?_
              refine AllReadyH.cons (o := _) rfl (fun K hK => ?_) AllReadyH.nil
              (try simp only [List.getElem_toArray, List.getElem_cons_zero, List.getElem_cons_succ])
              go_simp
              refine (block_m (bB q) _ (by first | exact rfl) _ HV32.out bV32.size).mono ?_; rintro e wa32 ⟨rfl, hma32, hba32, hsa32⟩
              have ba32 := bV32.trans hba32
              have ca32 : wa32.cell? ⟨mb, mo + q, none⟩ = some (.int .u8 (c.toNat : Int)) := (hba32.cell (p := ⟨mb, mo + q, none⟩) hmb).trans hV32
              refine hK.out _ _ (ca32) (fun hHeld => ?_)
              clear hK K
              (try simp only [List.getElem_toArray, List.getElem_cons_zero, List.getElem_cons_succ, Act.put, List.setIfInBounds_toArray, List.set_cons_zero, List.set_cons_succ])
              refine wpAnyH_ready (rs := [9]) (by kernel_rfl) (by simp) ?_
              refine AllReadyH.cons (o := _) rfl (fun K hK => ?_) AllReadyH.nil
              (try simp only [List.getElem_toArray, List.getElem_cons_zero, List.getElem_cons_succ])
              go_simp
              rw [n64]
              refine (write_m _ (mkB ((bB q))) _ hma32 (by simp) ba32.size (mkB_len _) (by omega) (E := 0) (HP.out.write hN0 hN1 (mkB (bB q))).2 (HP.out.write hN0 hN1 (mkB (bB q))).1).mono ?_; rintro e wb32 ⟨rfl, hmb32, hbb32, hsb32⟩
              have bb32 := ba32.trans hbb32
              have cb32 : wb32.cell? ⟨mb, mo + q, none⟩ = some (.int .u8 (c.toNat : Int)) := (hbb32.cell (p := ⟨mb, mo + q, none⟩) hmb).trans ca32
              refine hK.out _ _ (cb32) (fun hHeld => ?_)
              clear hK K
              (try simp only [List.getElem_toArray, List.getElem_cons_zero, List.getElem_cons_succ, Act.put, List.setIfInBounds_toArray, List.set_cons_zero, List.set_cons_succ])
              refine wpAnyH_take (i := 10) (oi := _) (v := ?_) rfl (by kernel_rfl) (by kernel_rfl) (by kernel_rfl) (fun _ _ _ h => h) (Or.inl ⟨by rfl, ?_⟩) (by assumption) ?_
              rotate_left
              · (intro w hSw; (try dsimp only at hSw); (try go_split_ands); go_simp; (try with_reducible rfl))
              (try simp only [List.getElem_toArray, List.getElem_cons_zero, List.getElem_cons_succ, Act.put, List.setIfInBounds_toArray, List.set_cons_zero, List.set_cons_succ])
              refine wpAnyH_done (by kernel_rfl) ?_ _
              have HB32 := Lib.hid hmb32
              clear hma32 hmb32 HV32
              have QA := Lib.hid ((pA.stay (hsa32 ga (by simp))).stay (hsb32 ga (by simp)))
              have QB := Lib.hid ((pB.stay (hsa32 gb (by simp))).stay (hsb32 gb (by simp)))
              have QC := Lib.hid ((pC.stay (hsa32 gc (by simp))).stay (hsb32 gc (by simp)))
              clear pA pB pC a2s w2s h2s hsa32 hsb32 MX
              go_wp2_with fail
              go_roundw
              case rel =>
                refine ⟨q + 1, D.add (((c.toNat % 64 : Nat) : Int), mkB (bB q)), fw, (fun i => if i = c.toNat % 64 then bB q else fl i), by omega, by simp, HP.out.add _, by rw [Dk.sum_add]; omega, HON.out, by simp [Dk.add, HWL.out], HB32.out, QA.out, QB.out, QC.out, fun n hn => ?_, fun n hn => ?_, bb32⟩
                · show Dk.lay O.on (Dk.kept (D.wait ++ [_]) Kp) (n : Int) = _
                  rw [Dk.kept_snoc, HWL.out, HKQ.out, if_ff, List.append_nil, HKW.out n hn]
                · show Dk.lay O.on (D.wait ++ [_]) (n : Int) = _
                  rw [Dk.lay_snoc]
                  unfold Dk.put
                  dsimp only
                  by_cases e : n = c.toNat % 64
                  · rw [if_pos (by simp [e]), if_pos e, want_mk (by rw [bB_nat]; omega)]
                  · rw [if_neg (fun h => e (by exact Int.ofNat.inj h)), if_neg e, HKL.out n hn]
              case measure => simp [intOf]; omega
            · have hql' : (Kp.length : Int) ≤ (q : Int) := by omega
              clear hkq
              go_wp2_with fail
              rw [byte_B' q]
              have h2s := HCl.out.set (n := c.toNat % 64) (by omega) (bB q)
              have g2s := wb_set' wr gc (c.toNat % 64) (.int .u8 ((bB q).toNat : Int))
              have m2s := HM.out.own_set (b := gc) (by simp) g2s
              have b2s := hb.setCell (p := ⟨gc, c.toNat % 64, none⟩) hgc (.int .u8 ((bB q).toNat : Int))
              have a2s := HA.out.stay (heap_setCell_other wr ⟨gc, c.toNat % 64, none⟩ ga (.int .u8 ((bB q).toNat : Int)) hac)
              have w2s := HBw.out.stay (heap_setCell_other wr ⟨gc, c.toNat % 64, none⟩ gb (.int .u8 ((bB q).toNat : Int)) hbc)
              have d2s := g2s.cell (a := ⟨mb, mo + q, none⟩) hmc' (fun e => hmb2 (Option.some.inj e))
              generalize wr.setCell ⟨gc, c.toNat % 64, none⟩ (.int .u8 ((bB q).toNat : Int)) = wQ at *
              clear g2s
              have MX := Lib.hid m2s
              clear m2s ckb fkb ckc fkc tm0 tm1 HM HA HBw HCl
              have hV33 : wQ.drew.cell? ⟨mb, mo + q, none⟩ = some (.int .u8 (c.toNat : Int)) := d2s
              have HV33 : Hid (Many w.heap.size [gc, gb, ga] wQ.drew [(2, g1, D)]) := Lib.hid MX.out.drew
              have bV33 : Below w.heap.size w wQ.drew := b2s.drew
              have pA : BR wQ.drew ga f := a2s.stay rfl
              have pB : BR wQ.drew gb fw := w2s.stay rfl
              have pC : BR wQ.drew gc (fun i => if i = c.toNat % 64 then bB q else fl i) := h2s.stay rfl
              refine wp_region_held_drew (S := fun W => W.cell? ⟨mb, mo + q, none⟩ = some (.int .u8 (c.toNat : Int))) (by kernel_rfl) hV33 (fun hHeld => ?_)
              generalize wQ.drew = V33 at *
              refine wpAnyH_take (i := 0) (oi := _) (v := ?_) rfl (by kernel_rfl) (by kernel_rfl) (by kernel_rfl) (fun _ _ _ h => h) (Or.inl ⟨by rfl, ?_⟩) (by assumption) ?_
              rotate_left
              · (intro w hSw; (try dsimp only at hSw); (try go_split_ands); go_simp; (try with_reducible rfl))
              (try simp only [List.getElem_toArray, List.getElem_cons_zero, List.getElem_cons_succ, Act.put, List.setIfInBounds_toArray, List.set_cons_zero, List.set_cons_succ])
              refine wpAnyH_take (i := 1) (oi := _) (v := ?_) rfl (by kernel_rfl) (by kernel_rfl) (by kernel_rfl) (fun _ _ _ h => h) (Or.inl ⟨by rfl, ?_⟩) (by assumption) ?_
              rotate_left
              · (intro w hSw; (try dsimp only at hSw); (try go_split_ands); go_simp; (try with_reducible rfl))
              (try simp only [List.getElem_toArray, List.getElem_cons_zero, List.getElem_cons_succ, Act.put, List.setIfInBounds_toArray, List.set_cons_zero, List.set_cons_succ])
              refine wpAnyH_take (i := 2) (oi := _) (v := ?_) rfl (by kernel_rfl) (by kernel_rfl) (by kernel_rfl) (fun _ _ _ h => h) (Or.inl ⟨by rfl, ?_⟩) (by assumption) ?_
              rotate_left
              · (intro w hSw; (try dsimp only at hSw); (try go_split_ands); go_simp; (try with_reducible rfl))
              (try simp only [List.getElem_toArray, List.getElem_cons_zero, List.getElem_cons_succ, Act.put, List.setIfInBounds_toArray, List.set_cons_zero, List.set_cons_succ])
              refine wpAnyH_take (i := 3) (oi := _) (v := ?_) rfl (by kernel_rfl) (by kernel_rfl) (by kernel_rfl) (fun _ _ _ h => h) (Or.inl ⟨by rfl, ?_⟩) (by assumption) ?_
              rotate_left
              · (intro w hSw; (try dsimp only at hSw); (try go_split_ands); go_simp; (try with_reducible rfl))
              (try simp only [List.getElem_toArray, List.getElem_cons_zero, List.getElem_cons_succ, Act.put, List.setIfInBounds_toArray, List.set_cons_zero, List.set_cons_succ])
              refine wpAnyH_take (i := 4) (oi := _) (v := ?_) rfl (by kernel_rfl) (by kernel_rfl) (by kernel_rfl) (fun _ _ _ h => h) (Or.inl ⟨by rfl, ?_⟩) (by assumption) ?_
              rotate_left
              · (intro w hSw; (try dsimp only at hSw); (try go_split_ands); go_simp; (try with_reducible rfl))
              (try simp only [List.getElem_toArray, List.getElem_cons_zero, List.getElem_cons_succ, Act.put, List.setIfInBounds_toArray, List.set_cons_zero, List.set_cons_succ])
              refine wpAnyH_take (i := 5) (oi := _) (v := ?_) rfl (by kernel_rfl) (by kernel_rfl) (by kernel_rfl) (fun _ _ _ h => h) (Or.inl ⟨by rfl, ?_⟩) (by assumption) ?_
              rotate_left
              · (intro w hSw; (try dsimp only at hSw); (try go_split_ands); go_simp; (try with_reducible rfl))
              (try simp only [List.getElem_toArray, List.getElem_cons_zero, List.getElem_cons_succ, Act.put, List.setIfInBounds_toArray, List.set_cons_zero, List.set_cons_succ])
              refine wpAnyH_take (i := 6) (oi := _) (v := ?_) rfl (by kernel_rfl) (by kernel_rfl) (by kernel_rfl) (fun _ _ _ h => h) (Or.inl ⟨by rfl, ?_⟩) (by assumption) ?_
              rotate_left
              · (intro w hSw; (try dsimp only at hSw); (try go_split_ands); go_simp; (try with_reducible rfl))
              (try simp only [List.getElem_toArray, List.getElem_cons_zero, List.getElem_cons_succ, Act.put, List.setIfInBounds_toArray, List.set_cons_zero, List.set_cons_succ])
              refine wpAnyH_take (i := 7) (oi := _) (v := ?_) rfl (by kernel_rfl) (by kernel_rfl) (by kernel_rfl) (fun _ _ _ h => h) (Or.inl ⟨by rfl, ?_⟩) (by assumption) ?_
              rotate_left
              · (intro w hSw; (try dsimp only at hSw); (try go_split_ands); go_simp; (try with_reducible rfl))
              (try simp only [List.getElem_toArray, List.getElem_cons_zero, List.getElem_cons_succ, Act.put, List.setIfInBounds_toArray, List.set_cons_zero, List.set_cons_succ])
              refine wpAnyH_ready (rs := [8]) (by kernel_rfl) (by simp) ?_
              refine AllReadyH.cons (o := _) rfl (fun K hK => ?_) AllReadyH.nil
              (try simp only [List.getElem_toArray, List.getElem_cons_zero, List.getElem_cons_succ])
              go_simp
              refine (block_m (bB q) _ (by first | exact rfl) _ HV33.out bV33.size).mono ?_; rintro e wa33 ⟨rfl, hma33, hba33, hsa33⟩
              have ba33 := bV33.trans hba33
              have ca33 : wa33.cell? ⟨mb, mo + q, none⟩ = some (.int .u8 (c.toNat : Int)) := (hba33.cell (p := ⟨mb, mo + q, none⟩) hmb).trans hV33
              refine hK.out _ _ (ca33) (fun hHeld => ?_)
              clear hK K
              (try simp only [List.getElem_toArray, List.getElem_cons_zero, List.getElem_cons_succ, Act.put, List.setIfInBounds_toArray, List.set_cons_zero, List.set_cons_succ])
              refine wpAnyH_ready (rs := [9]) (by kernel_rfl) (by simp) ?_
              refine AllReadyH.cons (o := _) rfl (fun K hK => ?_) AllReadyH.nil
              (try simp only [List.getElem_toArray, List.getElem_cons_zero, List.getElem_cons_succ])
              go_simp
              rw [n64]
              refine (write_m _ (mkB ((bB q))) _ hma33 (by simp) ba33.size (mkB_len _) (by omega) (E := 0) (HP.out.write hN0 hN1 (mkB (bB q))).2 (HP.out.write hN0 hN1 (mkB (bB q))).1).mono ?_; rintro e wb33 ⟨rfl, hmb33, hbb33, hsb33⟩
              have bb33 := ba33.trans hbb33
              have cb33 : wb33.cell? ⟨mb, mo + q, none⟩ = some (.int .u8 (c.toNat : Int)) := (hbb33.cell (p := ⟨mb, mo + q, none⟩) hmb).trans ca33
              refine hK.out _ _ (cb33) (fun hHeld => ?_)
              clear hK K
              (try simp only [List.getElem_toArray, List.getElem_cons_zero, List.getElem_cons_succ, Act.put, List.setIfInBounds_toArray, List.set_cons_zero, List.set_cons_succ])
              refine wpAnyH_take (i := 10) (oi := _) (v := ?_) rfl (by kernel_rfl) (by kernel_rfl) (by kernel_rfl) (fun _ _ _ h => h) (Or.inl ⟨by rfl, ?_⟩) (by assumption) ?_
              rotate_left
              · (intro w hSw; (try dsimp only at hSw); (try go_split_ands); go_simp; (try with_reducible rfl))
              (try simp only [List.getElem_toArray, List.getElem_cons_zero, List.getElem_cons_succ, Act.put, List.setIfInBounds_toArray, List.set_cons_zero, List.set_cons_succ])
              refine wpAnyH_done (by kernel_rfl) ?_ _
              have HB33 := Lib.hid hmb33
              clear hma33 hmb33 HV33
              have QA := Lib.hid ((pA.stay (hsa33 ga (by simp))).stay (hsb33 ga (by simp)))
              have QB := Lib.hid ((pB.stay (hsa33 gb (by simp))).stay (hsb33 gb (by simp)))
              have QC := Lib.hid ((pC.stay (hsa33 gc (by simp))).stay (hsb33 gc (by simp)))
              clear pA pB pC a2s w2s h2s hsa33 hsb33 MX
              go_wp2_with fail
              go_roundw
              case rel =>
                refine ⟨q + 1, D.add (((c.toNat % 64 : Nat) : Int), mkB (bB q)), fw, (fun i => if i = c.toNat % 64 then bB q else fl i), by omega, by simp, HP.out.add _, by rw [Dk.sum_add]; omega, HON.out, by simp [Dk.add, HWL.out], HB33.out, QA.out, QB.out, QC.out, fun n hn => ?_, fun n hn => ?_, bb33⟩
                · show Dk.lay O.on (Dk.kept (D.wait ++ [_]) Kp) (n : Int) = _
                  rw [Dk.kept_snoc, HWL.out, HKQ.out, if_ff, List.append_nil, HKW.out n hn]
                · show Dk.lay O.on (D.wait ++ [_]) (n : Int) = _
                  rw [Dk.lay_snoc]
                  unfold Dk.put
                  dsimp only
                  by_cases e : n = c.toNat % 64
                  · rw [if_pos (by simp [e]), if_pos e, want_mk (by rw [bB_nat]; omega)]
                  · rw [if_neg (fun h => e (by exact Int.ofNat.inj h)), if_neg e, HKL.out n hn]
              case measure => simp [intOf]; omega
        · obtain rfl : q = m.length := by omega
          go_wp2_with (refine wpList_make_full _ rfl _ _ 23 rfl wr.heap.size 4 i0 (.bool false) 1 Try.underlying23 hi hz0 hz1 .i64 .i64 (m.length : Int) (m.length : Int) m.length rfl rfl rfl rfl (by rw [hz2]; omega) (by unfold maxLen; omega) (Nat.le_refl _) ?_)
          intro w8 hrow hgr
          have hkb := made_kb hrow
          have hbl : Below wr.heap.size wr w8 := ⟨hgr.os, hgr.tape, hgr.output, hgr.size, fun k hk => hgr.block k hk (by simp)⟩
          have hkblt := hkb.lt
          have hm8 : Many w.heap.size [wr.heap.size, gc, gb, ga] w8 [(2, g1, D)] := HM.out.grow hbl (fun k hk => by
            rcases List.mem_cons.1 hk with rfl | hk
            · exact .inr ⟨Nat.le_refl _, hkblt⟩
            · exact .inl hk)
          have ha8 := HA.out.stay (hbl.block ga HA.out.lt)
          have hb8 := HBw.out.stay (hbl.block gb HBw.out.lt)
          have hc8 := HCl.out.stay (hbl.block gc HCl.out.lt)
          have hka : ¬ wr.heap.size = ga := by have := HA.out.lt; omega
          have hkb2 : ¬ wr.heap.size = gb := by have := HBw.out.lt; omega
          have hkc2 : ¬ wr.heap.size = gc := by have := HCl.out.lt; omega
          have b8 := chain hb hbl
          have hkle : w.heap.size ≤ wr.heap.size := hb.size
          generalize wr.heap.size = kb at *
          have HM8 := Lib.hid hm8
          have HA8 := Lib.hid ha8
          have HB8 := Lib.hid hb8
          have HC8 := Lib.hid hc8
          have HK8 := Lib.hid hkb
          clear hrow hgr hkb hbl hm8 ha8 hb8 hc8 HM HA HBw HCl hkblt
          go_wp2_with fail
          obtain ⟨wo3, hwo3⟩ : ∃ wo3 : World, wo3 = w8 := ⟨_, rfl⟩
          go_loopw [16] (fun i W => ∃ q : Nat, q ≤ m.length ∧ i = .int .i64 q ∧ Many w.heap.size [kb, gc, gb, ga] W [(2, g1, D)] ∧ BR W ga f ∧ BR W gb fw ∧ BR W gc fl ∧ KB W kb (List.replicate q true ++ List.replicate (m.length - q) false) ∧ Below w.heap.size w W) (fun i _ => m.length - (intOf i).toNat)
          case atStart => exact ⟨0, by omega, rfl, HM8.out, HA8.out, HB8.out, HC8.out, HK8.out, b8⟩
          case round =>
            clear hwo3
            obtain ⟨q, hq, rfl, hm, hra, hrb, hrc, hrk, hb⟩ := hrel
            have HM := Lib.hid hm
            have HA := Lib.hid hra
            have HBw := Lib.hid hrb
            have HCl := Lib.hid hrc
            have HKb := Lib.hid hrk
            clear hm hra hrb hrc hrk HM8 HA8 HB8 HC8 HK8
            by_cases hlt : q < m.length
            · have hq2 : (q : Int) < (m.length : Int) := by omega
              have ck := HKb.out.cell (j := q) (by simp; omega)
              have fk := HKb.out.free q
              go_wp2_with fail
              go_roundw
              case rel =>
                refine ⟨q + 1, by omega, by simp, HM.out.own_set (b := kb) (by simp) (wb_set' _ _ _ _), HA.out.stay (heap_setCell_other _ _ _ _ (fun e => hka e.symm)), HBw.out.stay (heap_setCell_other _ _ _ _ (fun e => hkb2 e.symm)), HCl.out.stay (heap_setCell_other _ _ _ _ (fun e => hkc2 e.symm)), ?_, hb.setCell (p := ⟨kb, q, none⟩) hkle _⟩
                have := HKb.out.set q true
                rwa [set_rep q m.length hlt] at this
              case measure => simp [intOf]; omega
            · obtain rfl : q = m.length := by omega
              have hkl3 : (List.replicate m.length true ++ List.replicate (m.length - m.length) false) = List.replicate m.length true := by simp
              rw [hkl3] at HKb
              clear hkl3
              go_wp2_with fail
              refine (copy_m 4 (i := 2) (d := D) _ HM.out (by simp) (by decide) (by simp) hb.size).mono ?_; rintro e x41 ⟨g4, rfl, hm41, hb41, hs41⟩
              have M41 := Lib.hid (hm41)
              have c41 := hb.trans hb41
              have HA := Lib.hid (HA.out.stay (hs41 ga (by simp)))
              have HBw := Lib.hid (HBw.out.stay (hs41 gb (by simp)))
              have HCl := Lib.hid (HCl.out.stay (hs41 gc (by simp)))
              have HKb := Lib.hid (HKb.out.stay (hs41 kb (by simp)))
              clear hm41 hb41 hs41 HM
              go_wp2_with fail
              refine (copy_m 5 (i := 2) (d := D) _ M41.out (by simp) (by decide) (by simp) c41.size).mono ?_; rintro e x42 ⟨g5, rfl, hm42, hb42, hs42⟩
              have M42 := Lib.hid (hm42.sub (own' := [kb, gc, gb, ga]) (l' := [(2, g1, D), (4, g4, D), (5, g5, D)]) (by simp) (by simp))
              have c42 := c41.trans hb42
              have HA := Lib.hid (HA.out.stay (hs42 ga (by simp)))
              have HBw := Lib.hid (HBw.out.stay (hs42 gb (by simp)))
              have HCl := Lib.hid (HCl.out.stay (hs42 gc (by simp)))
              have HKb := Lib.hid (HKb.out.stay (hs42 kb (by simp)))
              clear hm42 hb42 hs42 M41
              go_wp2_with fail
              refine (fail_m _ Kp _ M42.out (by simp) c42.size (HK.out.below (c42.mono (Nat.le_refl _))) (E := 0) (HP.out.fail Kp).2 (HP.out.fail Kp).1).mono ?_; rintro e x43 ⟨rfl, hm43, hb43, hs43⟩
              have M43 := Lib.hid (hm43.sub (own' := [kb, gc, gb, ga]) (l' := [(4, g4, D), (2, g1, D.fail Kp), (5, g5, D)]) (by simp) (by simp))
              have c43 := c42.trans hb43
              have HA := Lib.hid (HA.out.stay (hs43 ga (by simp)))
              have HBw := Lib.hid (HBw.out.stay (hs43 gb (by simp)))
              have HCl := Lib.hid (HCl.out.stay (hs43 gc (by simp)))
              have HKb := Lib.hid (HKb.out.stay (hs43 kb (by simp)))
              clear hm43 hb43 hs43 M42
              go_wp2_with fail
              refine (fail_m _ [] _ M43.out (by simp) c43.size (BoolsV.nil _) (E := 0) (HP.out.fail []).2 (HP.out.fail []).1).mono ?_; rintro e x44 ⟨rfl, hm44, hb44, hs44⟩
              have M44 := Lib.hid (hm44.sub (own' := [kb, gc, gb, ga]) (l' := [(5, g5, D), (2, g1, D.fail Kp), (4, g4, D.fail [])]) (by simp) (by simp))
              have c44 := c43.trans hb44
              have HA := Lib.hid (HA.out.stay (hs44 ga (by simp)))
              have HBw := Lib.hid (HBw.out.stay (hs44 gb (by simp)))
              have HCl := Lib.hid (HCl.out.stay (hs44 gc (by simp)))
              have HKb := Lib.hid (HKb.out.stay (hs44 kb (by simp)))
              clear hm44 hb44 hs44 M43
              go_wp2_with fail
              refine (fail_m _ (List.replicate m.length true) _ M44.out (by simp) c44.size (HKb.out.bools (by simp; unfold maxLen; omega) _ (by simp)) (E := 0) (HP.out.fail (List.replicate m.length true)).2 (HP.out.fail (List.replicate m.length true)).1).mono ?_; rintro e x45 ⟨rfl, hm45, hb45, hs45⟩
              have M45 := Lib.hid (hm45.sub (own' := [kb, gc, gb, ga]) (l' := [(5, g5, D.fail (List.replicate m.length true)), (2, g1, D.fail Kp), (4, g4, D.fail [])]) (by simp) (by simp))
              have c45 := c44.trans hb45
              have HA := Lib.hid (HA.out.stay (hs45 ga (by simp)))
              have HBw := Lib.hid (HBw.out.stay (hs45 gb (by simp)))
              have HCl := Lib.hid (HCl.out.stay (hs45 gc (by simp)))
              have HKb := Lib.hid (HKb.out.stay (hs45 kb (by simp)))
              clear hm45 hb45 hs45 M44
              go_wp2_with fail
              refine (booted_m 6 (i := 2) (d := D.fail Kp) _ M45.out (by simp) (by decide) (by simp) c45.size rfl rfl).mono ?_; rintro e x46 ⟨g6, rfl, hm46, hb46, hs46⟩
              have M46 := Lib.hid (hm46)
              have c46 := c45.trans hb46
              have HA := Lib.hid (HA.out.stay (hs46 ga (by simp)))
              have HBw := Lib.hid (HBw.out.stay (hs46 gb (by simp)))
              have HCl := Lib.hid (HCl.out.stay (hs46 gc (by simp)))
              have HKb := Lib.hid (HKb.out.stay (hs46 kb (by simp)))
              clear hm46 hb46 hs46 M45
              go_wp2_with fail
              refine (booted_m 7 (i := 4) (d := D.fail []) _ M46.out (by simp) (by decide) (by simp) c46.size rfl rfl).mono ?_; rintro e x47 ⟨g7, rfl, hm47, hb47, hs47⟩
              have M47 := Lib.hid (hm47)
              have c47 := c46.trans hb47
              have HA := Lib.hid (HA.out.stay (hs47 ga (by simp)))
              have HBw := Lib.hid (HBw.out.stay (hs47 gb (by simp)))
              have HCl := Lib.hid (HCl.out.stay (hs47 gc (by simp)))
              have HKb := Lib.hid (HKb.out.stay (hs47 kb (by simp)))
              clear hm47 hb47 hs47 M46
              go_wp2_with fail
              refine (booted_m 8 (i := 5) (d := D.fail (List.replicate m.length true)) _ M47.out (by simp) (by decide) (by simp) c47.size rfl rfl).mono ?_; rintro e x48 ⟨g8, rfl, hm48, hb48, hs48⟩
              have M48 := Lib.hid (hm48.sub (own' := [gc, gb, ga]) (l' := [(6, g6, (D.fail Kp).boot), (7, g7, (D.fail []).boot), (8, g8, (D.fail (List.replicate m.length true)).boot)]) (by simp) (by simp))
              have c48 := c47.trans hb48
              have HA := Lib.hid (HA.out.stay (hs48 ga (by simp)))
              have HBw := Lib.hid (HBw.out.stay (hs48 gb (by simp)))
              have HCl := Lib.hid (HCl.out.stay (hs48 gc (by simp)))
              clear hm48 hb48 hs48 M47
              go_wp2_with fail
              have e6 : ∀ n : Nat, n < 64 → ((D.fail Kp).boot).look (n : Int) = wantB (fw n) := fun n hn => by rw [Dk.look_boot, HON.out]; exact HKW.out n hn
              have e7 : ∀ n : Nat, n < 64 → ((D.fail []).boot).look (n : Int) = wantB (f n) := fun n hn => by rw [Dk.look_boot, Dk.kept_nil, HON.out]; exact HOn.out n hn
              have e8 : ∀ n : Nat, n < 64 → ((D.fail (List.replicate m.length true)).boot).look (n : Int) = wantB (fl n) := fun n hn => by rw [Dk.look_boot, ← HWL.out, Dk.kept_all, HON.out]; exact HKL.out n hn
              have E6 := Lib.hid e6
              have E7 := Lib.hid e7
              have E8 := Lib.hid e8
              have P6 := Lib.hid (HP.out.boot Kp)
              have P7 := Lib.hid (HP.out.boot [])
              have P8 := Lib.hid (HP.out.boot (List.replicate m.length true))
              clear e6 e7 e8 HP HKb
              generalize (D.fail Kp).boot = D6 at *
              generalize (D.fail []).boot = D7 at *
              generalize (D.fail (List.replicate m.length true)).boot = D8 at *
              obtain ⟨wo4, hwo4⟩ : ∃ wo4 : World, wo4 = x48 := ⟨_, rfl⟩
              go_loopw [22] (fun i W => ∃ n : Nat, n ≤ 64 ∧ i = .int .i64 n ∧ Many w.heap.size [gc, gb, ga] W [(6, g6, D6), (7, g7, D7), (8, g8, D8)] ∧ BR W ga f ∧ BR W gb fw ∧ BR W gc fl ∧ Below w.heap.size w W) (fun i _ => 64 - (intOf i).toNat)
              case atStart => exact ⟨0, by omega, rfl, M48.out, HA.out, HBw.out, HCl.out, c48⟩
              case round =>
                clear hwo4
                obtain ⟨n, hn, rfl, hm, hra, hrb, hrc, hb⟩ := hrel
                have HM := Lib.hid hm
                have HA2 := Lib.hid hra
                have HB2 := Lib.hid hrb
                have HC2 := Lib.hid hrc
                clear hm hra hrb hrc M48 HA HBw HCl
                by_cases hlt : n < 64
                · have hlt1 : (n : Int) < 64 := by omega
                  have hn0 : (0 : Int) ≤ (n : Int) := by omega
                  have cb := HB2.out.cell hlt
                  go_wp2_with fail
                  refine (is_m (n : Int) (fw n) _ rfl _ HM.out (i := 6) (d := D6) (by simp) hb.size (wf_i64 hn0 (by omega)) (r := true) (by rw [P6.out.bad hn0 hlt1, P6.out.read hn0 hlt1, E6.out n hlt]; simp)).mono ?_; rintro e y1 ⟨rfl, hm1, hb1, hs1⟩
                  have N1 := Lib.hid hm1
                  have d1 := hb.trans hb1
                  have HA3 := Lib.hid (HA2.out.stay (hs1 ga (by simp)))
                  have HB3 := Lib.hid (HB2.out.stay (hs1 gb (by simp)))
                  have HC3 := Lib.hid (HC2.out.stay (hs1 gc (by simp)))
                  have ca := HA3.out.cell hlt
                  clear hm1 hb1 hs1 HM HA2 HB2 HC2 cb
                  go_wp2_with fail
                  refine (is_m (n : Int) (f n) _ rfl _ N1.out (i := 7) (d := D7) (by simp) d1.size (wf_i64 hn0 (by omega)) (r := true) (by rw [P7.out.bad hn0 hlt1, P7.out.read hn0 hlt1, E7.out n hlt]; simp)).mono ?_; rintro e y2 ⟨rfl, hm2, hb2, hs2⟩
                  have N2 := Lib.hid hm2
                  have d2 := d1.trans hb2
                  have HA4 := Lib.hid (HA3.out.stay (hs2 ga (by simp)))
                  have HB4 := Lib.hid (HB3.out.stay (hs2 gb (by simp)))
                  have HC4 := Lib.hid (HC3.out.stay (hs2 gc (by simp)))
                  have cc := HC4.out.cell hlt
                  clear hm2 hb2 hs2 N1 HA3 HB3 HC3 ca
                  go_wp2_with fail
                  refine (is_m (n : Int) (fl n) _ rfl _ N2.out (i := 8) (d := D8) (by simp) d2.size (wf_i64 hn0 (by omega)) (r := true) (by rw [P8.out.bad hn0 hlt1, P8.out.read hn0 hlt1, E8.out n hlt]; simp)).mono ?_; rintro e y3 ⟨rfl, hm3, hb3, hs3⟩
                  have N3 := Lib.hid hm3
                  have d3 := d2.trans hb3
                  have HA5 := Lib.hid (HA4.out.stay (hs3 ga (by simp)))
                  have HB5 := Lib.hid (HB4.out.stay (hs3 gb (by simp)))
                  have HC5 := Lib.hid (HC4.out.stay (hs3 gc (by simp)))
                  clear hm3 hb3 hs3 N2 HA4 HB4 HC4 cc
                  go_wp2_with fail
                  go_roundw
                  case rel => exact ⟨n + 1, by omega, by simp, N3.out, HA5.out, HB5.out, HC5.out, d3⟩
                  case measure => simp [intOf]; omega
                · obtain rfl : n = 64 := by omega
                  go_wp2_with fail
                  go_ret
                  exact ⟨rfl, hb⟩

theorem kept_walk : Walks Try.prog 4 Try.f4 := by
  intro H enc W args ds p base hval hA hz
  rw [Try.params4] at hA hval
  obtain ⟨v0, vs1, d0, ds1, p0, q0, ha0, rfl, rfl, h0, hA⟩ := trodAll_cons hA
  obtain ⟨v1, vs2, d1, ds2, p1, q1, rfl, rfl, rfl, h1, hA⟩ := trodAll_cons hA
  obtain ⟨v2, vs3, d2, ds3, p2, q2, rfl, rfl, rfl, h2, hA⟩ := trodAll_cons hA
  obtain ⟨rfl, rfl, rfl⟩ := trodAll_nil hA
  obtain rfl : args = #[v0, v1, v2] := by cases args; simp_all
  obtain ⟨l, hl⟩ := open_bytes (hval 0 _ v0 rfl rfl) h0
  obtain ⟨m, hm⟩ := open_bytes (hval 1 _ v1 rfl rfl) h1
  obtain ⟨k, hk⟩ := open_keep (hval 2 _ v2 rfl rfl) h2
  exact kept_any v0 v1 l m v2 k W hl hm hk

theorem DiskKept_holds : Rows.DiskKeptSaid :=
  OpenClaim.holds_of_wide 4 Try.f4 rfl rfl rfl rfl rfl rfl rfl ⟨rfl, rfl, rfl, rfl, rfl⟩ rfl rfl rfl rfl rfl (by kernel_rfl) Try.func4 (by kernel_rfl)
    (of_decide_eq_true (by kernel_rfl)) (by unfold Func.isWrapper; first | (rw [if_pos (by decide +kernel)]; kernel_rfl) | (rw [if_neg (by decide +kernel)]; exact ⟨rfl, rfl⟩))
    (fun os started H enc _ => law_lifted (C := Try.checked) (s := Rows.diskKeptSpec) own started (by kernel_rfl) Try.func4 laidOut rfl rfl Try.underlying4
      (by have h : ∀ u ∈ Try.f4.params.toList, (Try.prog.readableRec u && decide (u < Try.prog.types.size)) = true := List.all_eq_true.1 (by kernel_rfl)
          intro u hu; have := h u hu; rw [Bool.and_eq_true, decide_eq_true_eq] at this; exact this)
      (by intro H l hl; rw [show Try.f4.params.size = 3 from by rw [Try.params4]; rfl] at hl; match l, hl with | [d0, d1, d2], _ => rfl)
      H enc (ChangeSpec.witness6 (enc := enc) (C := Try.checked) false ⟨#[], #[.slice none 0 0, .slice none 0 0, .slice none 0 0], []⟩ 8 (by kernel_rfl) (by kernel_rfl) (by kernel_rfl) (by kernel_rfl)) kept_walk)
#print axioms DiskKept_holds
end Go.Proofs.Ytldkokngbnaimaa
