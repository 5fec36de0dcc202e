/- DiskCuts holds: a cut at a write, or a flush, comes to what a failure comes to that is told ahead of it. Conditions: none beyond the row's own. -/
import Derived.Test.YtldkokngbnaimaaDskOpen
import Derived.Test.YtldkokngbnaimaaDskWorks
namespace Go.Proofs.Ytldkokngbnaimaa
set_option linter.unusedVariables false
set_option linter.unusedSimpArgs false
open Go.ChangeShapes Go.WideShapes Go.ChangeAt Go.RowKit
attribute [local go_sem] zeroValueB

theorem if_ff {α : Type} (a b : α) : (if false = true then a else b) = b := rfl
theorem n64 (c : UInt8) : IntKind.i64.wrap ((c.toNat : Int).tmod 64) = ((c.toNat % 64 : Nat) : Int) := by
  have h : (c.toNat : Int).tmod 64 = ((c.toNat % 64 : Nat) : Int) := by rw [Int.tmod_eq_emod_of_nonneg (by omega)]; omega
  rw [h, IntKind.wrap_i64]
  omega
namespace Dk
/-- The disk with a cut before it. -/
def wk (t : Dk) (m : Nat) (k : List Bool) : Dk := { t with cut := m, keep := k }
/-- A disk that has no cut before it, and lives. -/
structure Plain (t : Dk) : Prop where
  dead : t.dead = false
  cut : t.cut = 0
  blocks : t.blocks = 64
theorem Plain.bad {t : Dk} (h : t.Plain) {n : Int} (h0 : 0 ≤ n) (h1 : n < 64) : t.bad n = 0 := by
  unfold Dk.bad
  rw [h.dead, if_ff, if_neg (by rw [h.blocks]; omega)]
theorem Plain.write {t : Dk} (h : t.Plain) {n : Int} (h0 : 0 ≤ n) (h1 : n < 64) (b : List UInt8) : t.write n b = t.add (n, b) ∧ t.writeE n = 0 := by
  have hb := h.bad h0 h1
  unfold Dk.write Dk.writeE
  rw [if_pos hb, if_pos hb, h.cut, if_neg (by decide), if_neg (by decide)]
  refine ⟨?_, rfl⟩
  have := h.cut
  unfold Dk.tick Dk.add
  cases t
  simp_all
theorem Plain.flush {t : Dk} (h : t.Plain) : t.flush = t.settle ∧ t.flushE = 0 := by
  unfold Dk.flush Dk.flushE
  rw [h.dead, if_ff, if_ff, h.cut, if_neg (by decide), if_neg (by decide)]
  refine ⟨?_, rfl⟩
  have := h.cut
  unfold Dk.tick Dk.settle
  cases t
  simp_all
theorem Plain.add {t : Dk} (h : t.Plain) (p : Wr) : (t.add p).Plain := ⟨h.dead, h.cut, h.blocks⟩
theorem Plain.settle {t : Dk} (h : t.Plain) : t.settle.Plain := ⟨h.dead, h.cut, h.blocks⟩
theorem sum_add (t : Dk) (p : Wr) : (t.add p).sum = t.sum + 1 := by simp [Dk.sum, Dk.add]; omega
theorem sum_settle (t : Dk) : t.settle.sum = t.sum := by simp [Dk.sum, Dk.settle]
theorem Plain.fail {t : Dk} (h : t.Plain) (k : List Bool) : t.failD k = t.fail k ∧ t.failE = 0 := by
  unfold Dk.failD Dk.failE
  rw [h.dead]
  exact ⟨rfl, rfl⟩
theorem wk_write {t : Dk} (h : t.Plain) {n : Int} (h0 : 0 ≤ n) (h1 : n < 64) (b : List UInt8) {m : Nat} (hm : 2 ≤ m) (k : List Bool) : (t.wk m k).write n b = (t.add (n, b)).wk (m - 1) k ∧ (t.wk m k).writeE n = 0 := by
  have hb : (t.wk m k).bad n = 0 := h.bad h0 h1
  have hc : ¬ (t.wk m k).cut = 1 := by show ¬ m = 1; omega
  unfold Dk.write Dk.writeE
  rw [if_pos hb, if_pos hb, if_neg hc, if_neg hc]
  exact ⟨rfl, rfl⟩
theorem wk_write1 {t : Dk} (h : t.Plain) {n : Int} (h0 : 0 ≤ n) (h1 : n < 64) (b : List UInt8) (k : List Bool) : (t.wk 1 k).write n b = (t.add (n, b)).fail k ∧ (t.wk 1 k).writeE n = 51 := by
  have hb : (t.wk 1 k).bad n = 0 := h.bad h0 h1
  have hc : (t.wk 1 k).cut = 1 := rfl
  unfold Dk.write Dk.writeE
  rw [if_pos hb, if_pos hb, if_pos hc, if_pos hc]
  exact ⟨rfl, rfl⟩
theorem wk_flush {t : Dk} (h : t.Plain) {m : Nat} (hm : 2 ≤ m) (k : List Bool) : (t.wk m k).flush = t.settle.wk (m - 1) k ∧ (t.wk m k).flushE = 0 := by
  have hd : (t.wk m k).dead = false := h.dead
  have hc : ¬ (t.wk m k).cut = 1 := by show ¬ m = 1; omega
  unfold Dk.flush Dk.flushE
  rw [hd, if_ff, if_ff, if_neg hc, if_neg hc]
  exact ⟨rfl, rfl⟩
theorem wk_flush1 {t : Dk} (h : t.Plain) (k : List Bool) : (t.wk 1 k).flush = t.fail k ∧ (t.wk 1 k).flushE = 51 := by
  have hd : (t.wk 1 k).dead = false := h.dead
  have hc : (t.wk 1 k).cut = 1 := rfl
  unfold Dk.flush Dk.flushE
  rw [hd, if_ff, if_ff, if_pos hc, if_pos hc]
  exact ⟨rfl, rfl⟩
end Dk

set_option maxRecDepth 100000 in
set_option maxHeartbeats 6400000 in
theorem cuts_any (a : Value) (l : List UInt8) (at_ : Int) (kv : Value) (Kp : List Bool) (w : World) (hl : BytesV w a l) (hk : BoolsV w kv Kp) :
    Calls Try.prog 3 #[a, .int .i64 at_, kv] w fun e w' => e = .returned (.bool true) ∧ Below w.heap.size w w' := by
  have HL := Lib.hid hl
  have HK := Lib.hid hk
  obtain ⟨LA, lc, rfl, l1, l2, l3, l4⟩ := hl
  obtain ⟨KA, kc, rfl, k1, k2, k3, k4⟩ := hk
  clear l3 l4 k3 k4
  unfold maxLen at l2 k2
  have WK := Lib.hid works_any
  by_cases h1 : (200 : Int) < (l.length : Int)
  · go_enter Try.func3, Try.ntmps3
    go_wp2_with fail
    refine (WK.out _).mono ?_; rintro e w1 ⟨rfl, hw1⟩
    have b1 : Below w.heap.size w w1 := chain (by repeat' (first | (with_reducible exact Below.refl _ _) | (with_reducible assumption) | (with_reducible refine below_drewN ?_ _) | (with_reducible refine Below.alloc ?_ ?_ _) | (with_reducible refine Below.drew ?_) | (with_reducible refine Below.setCell ?_ ?_ _) | go_size)) hw1
    have s1 := b1.size
    go_wp2_with fail
    refine (WK.out _).mono ?_; rintro e w2 ⟨rfl, hw2⟩
    have b2 : Below w.heap.size w w2 := chain (by repeat' (first | (with_reducible exact Below.refl _ _) | (with_reducible assumption) | (with_reducible refine below_drewN ?_ _) | (with_reducible refine Below.alloc ?_ ?_ _) | (with_reducible refine Below.drew ?_) | (with_reducible refine Below.setCell ?_ ?_ _) | go_size)) hw2
    have s2 := b2.size
    go_wp2_with fail
    go_ret
    exact ⟨rfl, by assumption⟩
  by_cases h2 : (1000 : Int) < (Kp.length : Int)
  · go_enter Try.func3, Try.ntmps3
    go_wp2_with fail
    refine (WK.out _).mono ?_; rintro e w1 ⟨rfl, hw1⟩
    have b1 : Below w.heap.size w w1 := chain (by repeat' (first | (with_reducible exact Below.refl _ _) | (with_reducible assumption) | (with_reducible refine below_drewN ?_ _) | (with_reducible refine Below.alloc ?_ ?_ _) | (with_reducible refine Below.drew ?_) | (with_reducible refine Below.setCell ?_ ?_ _) | go_size)) hw1
    have s1 := b1.size
    go_wp2_with fail
    refine (WK.out _).mono ?_; rintro e w2 ⟨rfl, hw2⟩
    have b2 : Below w.heap.size w w2 := chain (by repeat' (first | (with_reducible exact Below.refl _ _) | (with_reducible assumption) | (with_reducible refine below_drewN ?_ _) | (with_reducible refine Below.alloc ?_ ?_ _) | (with_reducible refine Below.drew ?_) | (with_reducible refine Below.setCell ?_ ?_ _) | go_size)) hw2
    have s2 := b2.size
    go_wp2_with fail
    go_ret
    exact ⟨rfl, by assumption⟩
  by_cases h3 : l.length = 0
  · have h3' : ((l.length : Int) == 0) = true := by simp [h3]
    go_enter Try.func3, Try.ntmps3
    go_wp2_with fail
    refine (WK.out _).mono ?_; rintro e w1 ⟨rfl, hw1⟩
    have b1 : Below w.heap.size w w1 := chain (by repeat' (first | (with_reducible exact Below.refl _ _) | (with_reducible assumption) | (with_reducible refine below_drewN ?_ _) | (with_reducible refine Below.alloc ?_ ?_ _) | (with_reducible refine Below.drew ?_) | (with_reducible refine Below.setCell ?_ ?_ _) | go_size)) hw1
    have s1 := b1.size
    go_wp2_with fail
    refine (WK.out _).mono ?_; rintro e w2 ⟨rfl, hw2⟩
    have b2 : Below w.heap.size w w2 := chain (by repeat' (first | (with_reducible exact Below.refl _ _) | (with_reducible assumption) | (with_reducible refine below_drewN ?_ _) | (with_reducible refine Below.alloc ?_ ?_ _) | (with_reducible refine Below.drew ?_) | (with_reducible refine Below.setCell ?_ ?_ _) | go_size)) hw2
    have s2 := b2.size
    go_wp2_with fail
    go_ret
    exact ⟨rfl, by assumption⟩
  have h3' : ((l.length : Int) == 0) = false := by simp [h3]
  obtain ⟨kk, hkk, hkl⟩ := umod_int at_ (l.length : Int) (by omega) (by omega)
  have HKK := Lib.hid hkk
  clear hkk
  go_enter Try.func3, Try.ntmps3
  go_wp2_with fail
  refine (WK.out _).mono ?_; rintro e w1 ⟨rfl, hw1⟩
  have b1 : Below w.heap.size w w1 := chain (by repeat' (first | (with_reducible exact Below.refl _ _) | (with_reducible assumption) | (with_reducible refine below_drewN ?_ _) | (with_reducible refine Below.alloc ?_ ?_ _) | (with_reducible refine Below.drew ?_) | (with_reducible refine Below.setCell ?_ ?_ _) | go_size)) hw1
  have s1 := b1.size
  go_wp2_with fail
  rw [HKK.out]
  refine (new_m (own := []) 2 64 _ (Many.none w.heap.size w1) (by decide) (by simp) s1 (by decide) (by decide) (d' := Dk.new 64) rfl).mono ?_; rintro e w2 ⟨g1, rfl, hm2, hb2, _⟩
  have HM2 := Lib.hid hm2
  have b2 := b1.trans hb2
  clear hm2 hb2
  go_wp2_with fail
  refine (new_m 3 64 _ HM2.out (by decide) (by simp) b2.size (by decide) (by decide) (d' := Dk.new 64) rfl).mono ?_; rintro e w3 ⟨g2, rfl, hm3, hb3, _⟩
  have HM3 := Lib.hid hm3.swap
  have b3 := b2.trans hb3
  clear hm3 hb3 HM2
  go_wp2_with fail
  have hkn : (((kk + 1 : Nat) : Int)) = (kk : Int) + 1 := by omega
  refine (cut_m ((kk : Int) + 1) _ Kp _ HM3.out (by simp) b3.size (HK.out.below (b3.mono (Nat.le_refl _))) (by omega) (by omega) (E := 0) (d' := (Dk.new 64).wk (kk + 1) Kp) (by unfold Dk.sayCutE; rw [if_neg (by decide), if_neg (by omega)]) (by unfold Dk.sayCut Dk.wk; rw [if_neg (by decide), if_neg (by omega), show ((kk : Int) + 1).toNat = kk + 1 from by omega])).mono ?_; rintro e w4 ⟨rfl, hm4, hb4, _⟩
  have HM4 := Lib.hid hm4
  have b4 := b3.trans hb4
  clear hm4 hb4 HM3
  go_wp2_with fail
  go_loopw [12] (fun i W => ∃ (q : Nat) (T : Dk), q ≤ kk + 1 ∧ i = .int .i64 q ∧ T.Plain ∧ T.sum ≤ q ∧ Many w.heap.size [] W [(2, g1, if q ≤ kk then T.wk (kk + 1 - q) Kp else T.fail Kp), (3, g2, T)] ∧ Below w.heap.size w W) (fun i _ => kk + 1 - (intOf i).toNat)
  case atStart => exact ⟨0, Dk.new 64, by omega, rfl, ⟨rfl, rfl, rfl⟩, Nat.zero_le _, by rw [if_pos (by omega)]; exact HM4.out, b4⟩
  case round =>
    obtain ⟨q, T, hq, rfl, hT, hTs, hm, hb⟩ := hrel
    by_cases hqk : q ≤ kk
    · rw [if_pos hqk] at hm
      obtain ⟨lb, lo, rfl, hlb, hlc⟩ := HL.out.at (i := q) (by omega)
      have hlc' : wr.cell? ⟨lb, lo + q, none⟩ = some (.int .u8 ((l[q]'(by omega)).toNat : Int)) := (hb.cell (p := ⟨lb, lo + q, none⟩) hlb).trans hlc
      clear hlc
      generalize l[q]'(by omega) = c at *
      have HM := Lib.hid hm
      have HP := Lib.hid hT
      have hq1 : (q : Int) ≤ (kk : Int) := by omega
      have hq2 : (q : Int) < (l.length : Int) := by omega
      have hq2' : q < l.length := by omega
      clear hm hT HM4
      have hN0 : (0 : Int) ≤ ((c.toNat % 64 : Nat) : Int) := by omega
      have hN1 : ((c.toNat % 64 : Nat) : Int) < 64 := by omega
      have hN0 : (0 : Int) ≤ ((c.toNat % 64 : Nat) : Int) := by omega
      have hN1 : ((c.toNat % 64 : Nat) : Int) < 64 := by omega
      have hN0 : (0 : Int) ≤ ((c.toNat % 64 : Nat) : Int) := by omega
      have hN1 : ((c.toNat % 64 : Nat) : Int) < 64 := by omega
      have hN0 : (0 : Int) ≤ ((c.toNat % 64 : Nat) : Int) := by omega
      have hN1 : ((c.toNat % 64 : Nat) : Int) < 64 := by omega
      have hN0 : (0 : Int) ≤ ((c.toNat % 64 : Nat) : Int) := by omega
      have hN1 : ((c.toNat % 64 : Nat) : Int) < 64 := by omega
      by_cases hc : c.toNat = 255
      · have hc' : ((c.toNat : Int) == 255) = true := by simp; omega
        clear hc
        by_cases hlt : q < kk
        · have hlt1 : (q : Int) < (kk : Int) := by omega
          have hlt2 : ((q : Int) == (kk : Int)) = false := by simp; omega
          go_wp2_with fail
          refine (flush_m _ HM.out (by simp) hb.size (E := 0) (Dk.wk_flush HP.out (by omega) Kp).2 (Dk.wk_flush HP.out (by omega) Kp).1).mono ?_; rintro e wx ⟨rfl, hmx, hbx, _⟩
          have HX := Lib.hid hmx.swap
          have bx := hb.trans hbx
          clear hmx hbx HM
          go_wp2_with fail
          refine (flush_m _ HX.out (by simp) bx.size (E := 0) HP.out.flush.2 HP.out.flush.1).mono ?_; rintro e wy ⟨rfl, hmy, hby, _⟩
          have HY := Lib.hid hmy.swap
          have bY := bx.trans hby
          clear hmy hby HX
          go_wp2_with fail
          go_roundw
          case rel => exact ⟨q + 1, T.settle, by omega, by simp, HP.out.settle, by rw [Dk.sum_settle]; omega, by rw [if_pos (by omega), show kk + 1 - (q + 1) = kk + 1 - q - 1 from by omega]; exact HY.out, bY⟩
          case measure => simp [intOf]; omega
        · obtain rfl : q = kk := by omega
          go_wp2_with fail
          rw [show q + 1 - q = 1 from by omega] at HM
          refine (flush_m _ HM.out (by simp) hb.size (E := 51) (Dk.wk_flush1 HP.out Kp).2 (Dk.wk_flush1 HP.out Kp).1).mono ?_; rintro e wx ⟨rfl, hmx, hbx, _⟩
          have HX := Lib.hid hmx
          have bx := hb.trans hbx
          clear hmx hbx HM
          go_wp2_with fail
          go_roundw
          case rel => exact ⟨q + 1, T, by omega, by simp, HP.out, by omega, by rw [if_neg (by omega)]; exact HX.out, bx⟩
          case measure => simp [intOf]
      · have hc' : ((c.toNat : Int) == 255) = false := by simp; omega
        clear hc
        by_cases hlt : q < kk
        · have hlt1 : (q : Int) < (kk : Int) := by omega
          have hlt2 : ((q : Int) == (kk : Int)) = false := by simp; omega
          go_wp2_with fail
          have hV1 : wr.drew.cell? ⟨lb, lo + q, none⟩ = some (.int .u8 (c.toNat : Int)) := hlc'
          have HV1 : Hid (Many w.heap.size [] wr.drew [(2, g1, T.wk (kk + 1 - q) Kp), (3, g2, T)]) := Lib.hid HM.out.drew
          have bV1 : Below w.heap.size w wr.drew := hb.drew
          refine wp_region_held_drew (S := fun W => W.cell? ⟨lb, lo + q, none⟩ = some (.int .u8 (c.toNat : Int))) (by kernel_rfl) hV1 (fun hHeld => ?_)
          generalize wr.drew = V1 at *
          refine wpAnyH_take (i := 0) (oi := _) (v := ?_) rfl (by kernel_rfl) (by kernel_rfl) (by kernel_rfl) (fun _ _ _ h => h) (Or.inl ⟨by rfl, ?_⟩) (by assumption) ?_
          rotate_left
          · (intro w hSw; (try dsimp only at hSw); (try go_split_ands); go_simp; (try with_reducible rfl))
          (try simp only [List.getElem_toArray, List.getElem_cons_zero, List.getElem_cons_succ, Act.put, List.setIfInBounds_toArray, List.set_cons_zero, List.set_cons_succ])
          refine wpAnyH_take (i := 1) (oi := _) (v := ?_) rfl (by kernel_rfl) (by kernel_rfl) (by kernel_rfl) (fun _ _ _ h => h) (Or.inl ⟨by rfl, ?_⟩) (by assumption) ?_
          rotate_left
          · (intro w hSw; (try dsimp only at hSw); (try go_split_ands); go_simp; (try with_reducible rfl))
          (try simp only [List.getElem_toArray, List.getElem_cons_zero, List.getElem_cons_succ, Act.put, List.setIfInBounds_toArray, List.set_cons_zero, List.set_cons_succ])
          refine wpAnyH_take (i := 2) (oi := _) (v := ?_) rfl (by kernel_rfl) (by kernel_rfl) (by kernel_rfl) (fun _ _ _ h => h) (Or.inl ⟨by rfl, ?_⟩) (by assumption) ?_
          rotate_left
          · (intro w hSw; (try dsimp only at hSw); (try go_split_ands); go_simp; (try with_reducible rfl))
          (try simp only [List.getElem_toArray, List.getElem_cons_zero, List.getElem_cons_succ, Act.put, List.setIfInBounds_toArray, List.set_cons_zero, List.set_cons_succ])
          refine wpAnyH_take (i := 3) (oi := _) (v := ?_) rfl (by kernel_rfl) (by kernel_rfl) (by kernel_rfl) (fun _ _ _ h => h) (Or.inl ⟨by rfl, ?_⟩) (by assumption) ?_
          rotate_left
          · (intro w hSw; (try dsimp only at hSw); (try go_split_ands); go_simp; (try with_reducible rfl))
          (try simp only [List.getElem_toArray, List.getElem_cons_zero, List.getElem_cons_succ, Act.put, List.setIfInBounds_toArray, List.set_cons_zero, List.set_cons_succ])
          refine wpAnyH_take (i := 4) (oi := _) (v := ?_) rfl (by kernel_rfl) (by kernel_rfl) (by kernel_rfl) (fun _ _ _ h => h) (Or.inl ⟨by rfl, ?_⟩) (by assumption) ?_
          rotate_left
          · (intro w hSw; (try dsimp only at hSw); (try go_split_ands); go_simp; (try with_reducible rfl))
          (try simp only [List.getElem_toArray, List.getElem_cons_zero, List.getElem_cons_succ, Act.put, List.setIfInBounds_toArray, List.set_cons_zero, List.set_cons_succ])
          refine wpAnyH_take (i := 5) (oi := _) (v := ?_) rfl (by kernel_rfl) (by kernel_rfl) (by kernel_rfl) (fun _ _ _ h => h) (Or.inl ⟨by rfl, ?_⟩) (by assumption) ?_
          rotate_left
          · (intro w hSw; (try dsimp only at hSw); (try go_split_ands); go_simp; (try with_reducible rfl))
          (try simp only [List.getElem_toArray, List.getElem_cons_zero, List.getElem_cons_succ, Act.put, List.setIfInBounds_toArray, List.set_cons_zero, List.set_cons_succ])
          refine wpAnyH_take (i := 6) (oi := _) (v := ?_) rfl (by kernel_rfl) (by kernel_rfl) (by kernel_rfl) (fun _ _ _ h => h) (Or.inl ⟨by rfl, ?_⟩) (by assumption) ?_
          rotate_left
          · (intro w hSw; (try dsimp only at hSw); (try go_split_ands); go_simp; (try with_reducible rfl))
          (try simp only [List.getElem_toArray, List.getElem_cons_zero, List.getElem_cons_succ, Act.put, List.setIfInBounds_toArray, List.set_cons_zero, List.set_cons_succ])
          refine wpAnyH_take (i := 7) (oi := _) (v := ?_) rfl (by kernel_rfl) (by kernel_rfl) (by kernel_rfl) (fun _ _ _ h => h) (Or.inl ⟨by rfl, ?_⟩) (by assumption) ?_
          rotate_left
          · (intro w hSw; (try dsimp only at hSw); (try go_split_ands); go_simp; (try with_reducible rfl))
          (try simp only [List.getElem_toArray, List.getElem_cons_zero, List.getElem_cons_succ, Act.put, List.setIfInBounds_toArray, List.set_cons_zero, List.set_cons_succ])
          refine wpAnyH_take (i := 8) (oi := _) (v := ?_) rfl (by kernel_rfl) (by kernel_rfl) (by kernel_rfl) (fun _ _ _ h => h) (Or.inl ⟨by rfl, ?_⟩) (by assumption) ?_
          rotate_left
          · (intro w hSw; (try dsimp only at hSw); (try go_split_ands); go_simp; (try with_reducible rfl))
          (try simp only [List.getElem_toArray, List.getElem_cons_zero, List.getElem_cons_succ, Act.put, List.setIfInBounds_toArray, List.set_cons_zero, List.set_cons_succ])
          refine wpAnyH_ready (rs := [9]) (by kernel_rfl) (by simp) ?_
          refine AllReadyH.cons (o := _) rfl (fun K hK => ?_) AllReadyH.nil
          (try simp only [List.getElem_toArray, List.getElem_cons_zero, List.getElem_cons_succ])
          go_simp
          refine (block_m (UInt8.ofNat q) _ (by rw [UInt8.toNat_ofNat', IntKind.wrap_u8]; omega) _ HV1.out bV1.size).mono ?_; rintro e wa1 ⟨rfl, hma1, hba1, _⟩
          have ba1 := bV1.trans hba1
          have ca1 := (hba1.cell (p := ⟨lb, lo + q, none⟩) hlb).trans hV1
          refine hK.out _ _ (ca1) (fun hHeld => ?_)
          clear hK K
          (try simp only [List.getElem_toArray, List.getElem_cons_zero, List.getElem_cons_succ, Act.put, List.setIfInBounds_toArray, List.set_cons_zero, List.set_cons_succ])
          refine wpAnyH_ready (rs := [10]) (by kernel_rfl) (by simp) ?_
          refine AllReadyH.cons (o := _) rfl (fun K hK => ?_) AllReadyH.nil
          (try simp only [List.getElem_toArray, List.getElem_cons_zero, List.getElem_cons_succ])
          go_simp
          rw [n64]
          refine (write_m _ (mkB (UInt8.ofNat q)) _ hma1 (by simp) ba1.size (mkB_len _) (by show T.sum + 1 ≤ _; omega) (E := 0) (Dk.wk_write HP.out hN0 hN1 (mkB (UInt8.ofNat q)) (by omega) Kp).2 (Dk.wk_write HP.out hN0 hN1 (mkB (UInt8.ofNat q)) (by omega) Kp).1).mono ?_; rintro e wb1 ⟨rfl, hmb1, hbb1, _⟩
          have bb1 := ba1.trans hbb1
          have cb1 := (hbb1.cell (p := ⟨lb, lo + q, none⟩) hlb).trans ca1
          refine hK.out _ _ (cb1) (fun hHeld => ?_)
          clear hK K
          (try simp only [List.getElem_toArray, List.getElem_cons_zero, List.getElem_cons_succ, Act.put, List.setIfInBounds_toArray, List.set_cons_zero, List.set_cons_succ])
          refine wpAnyH_take (i := 11) (oi := _) (v := ?_) rfl (by kernel_rfl) (by kernel_rfl) (by kernel_rfl) (fun _ _ _ h => h) (Or.inl ⟨by rfl, ?_⟩) (by assumption) ?_
          rotate_left
          · (intro w hSw; (try dsimp only at hSw); (try go_split_ands); go_simp; (try with_reducible rfl))
          (try simp only [List.getElem_toArray, List.getElem_cons_zero, List.getElem_cons_succ, Act.put, List.setIfInBounds_toArray, List.set_cons_zero, List.set_cons_succ])
          refine wpAnyH_done (by kernel_rfl) ?_ _
          have HB1 := Lib.hid hmb1.swap
          clear hma1 hmb1 HV1
          go_wp2_with fail
          have hV2 : wb1.drew.cell? ⟨lb, lo + q, none⟩ = some (.int .u8 (c.toNat : Int)) := cb1
          have HV2 : Hid (Many w.heap.size [] wb1.drew [(3, g2, T), (2, g1, (T.add (((c.toNat % 64 : Nat) : Int), mkB (UInt8.ofNat q))).wk (kk + 1 - q - 1) Kp)]) := Lib.hid HB1.out.drew
          have bV2 : Below w.heap.size w wb1.drew := bb1.drew
          refine wp_region_held_drew (S := fun W => W.cell? ⟨lb, lo + q, none⟩ = some (.int .u8 (c.toNat : Int))) (by kernel_rfl) hV2 (fun hHeld => ?_)
          generalize wb1.drew = V2 at *
          refine wpAnyH_take (i := 0) (oi := _) (v := ?_) rfl (by kernel_rfl) (by kernel_rfl) (by kernel_rfl) (fun _ _ _ h => h) (Or.inl ⟨by rfl, ?_⟩) (by assumption) ?_
          rotate_left
          · (intro w hSw; (try dsimp only at hSw); (try go_split_ands); go_simp; (try with_reducible rfl))
          (try simp only [List.getElem_toArray, List.getElem_cons_zero, List.getElem_cons_succ, Act.put, List.setIfInBounds_toArray, List.set_cons_zero, List.set_cons_succ])
          refine wpAnyH_take (i := 1) (oi := _) (v := ?_) rfl (by kernel_rfl) (by kernel_rfl) (by kernel_rfl) (fun _ _ _ h => h) (Or.inl ⟨by rfl, ?_⟩) (by assumption) ?_
          rotate_left
          · (intro w hSw; (try dsimp only at hSw); (try go_split_ands); go_simp; (try with_reducible rfl))
          (try simp only [List.getElem_toArray, List.getElem_cons_zero, List.getElem_cons_succ, Act.put, List.setIfInBounds_toArray, List.set_cons_zero, List.set_cons_succ])
          refine wpAnyH_take (i := 2) (oi := _) (v := ?_) rfl (by kernel_rfl) (by kernel_rfl) (by kernel_rfl) (fun _ _ _ h => h) (Or.inl ⟨by rfl, ?_⟩) (by assumption) ?_
          rotate_left
          · (intro w hSw; (try dsimp only at hSw); (try go_split_ands); go_simp; (try with_reducible rfl))
          (try simp only [List.getElem_toArray, List.getElem_cons_zero, List.getElem_cons_succ, Act.put, List.setIfInBounds_toArray, List.set_cons_zero, List.set_cons_succ])
          refine wpAnyH_take (i := 3) (oi := _) (v := ?_) rfl (by kernel_rfl) (by kernel_rfl) (by kernel_rfl) (fun _ _ _ h => h) (Or.inl ⟨by rfl, ?_⟩) (by assumption) ?_
          rotate_left
          · (intro w hSw; (try dsimp only at hSw); (try go_split_ands); go_simp; (try with_reducible rfl))
          (try simp only [List.getElem_toArray, List.getElem_cons_zero, List.getElem_cons_succ, Act.put, List.setIfInBounds_toArray, List.set_cons_zero, List.set_cons_succ])
          refine wpAnyH_take (i := 4) (oi := _) (v := ?_) rfl (by kernel_rfl) (by kernel_rfl) (by kernel_rfl) (fun _ _ _ h => h) (Or.inl ⟨by rfl, ?_⟩) (by assumption) ?_
          rotate_left
          · (intro w hSw; (try dsimp only at hSw); (try go_split_ands); go_simp; (try with_reducible rfl))
          (try simp only [List.getElem_toArray, List.getElem_cons_zero, List.getElem_cons_succ, Act.put, List.setIfInBounds_toArray, List.set_cons_zero, List.set_cons_succ])
          refine wpAnyH_take (i := 5) (oi := _) (v := ?_) rfl (by kernel_rfl) (by kernel_rfl) (by kernel_rfl) (fun _ _ _ h => h) (Or.inl ⟨by rfl, ?_⟩) (by assumption) ?_
          rotate_left
          · (intro w hSw; (try dsimp only at hSw); (try go_split_ands); go_simp; (try with_reducible rfl))
          (try simp only [List.getElem_toArray, List.getElem_cons_zero, List.getElem_cons_succ, Act.put, List.setIfInBounds_toArray, List.set_cons_zero, List.set_cons_succ])
          refine wpAnyH_take (i := 6) (oi := _) (v := ?_) rfl (by kernel_rfl) (by kernel_rfl) (by kernel_rfl) (fun _ _ _ h => h) (Or.inl ⟨by rfl, ?_⟩) (by assumption) ?_
          rotate_left
          · (intro w hSw; (try dsimp only at hSw); (try go_split_ands); go_simp; (try with_reducible rfl))
          (try simp only [List.getElem_toArray, List.getElem_cons_zero, List.getElem_cons_succ, Act.put, List.setIfInBounds_toArray, List.set_cons_zero, List.set_cons_succ])
          refine wpAnyH_take (i := 7) (oi := _) (v := ?_) rfl (by kernel_rfl) (by kernel_rfl) (by kernel_rfl) (fun _ _ _ h => h) (Or.inl ⟨by rfl, ?_⟩) (by assumption) ?_
          rotate_left
          · (intro w hSw; (try dsimp only at hSw); (try go_split_ands); go_simp; (try with_reducible rfl))
          (try simp only [List.getElem_toArray, List.getElem_cons_zero, List.getElem_cons_succ, Act.put, List.setIfInBounds_toArray, List.set_cons_zero, List.set_cons_succ])
          refine wpAnyH_take (i := 8) (oi := _) (v := ?_) rfl (by kernel_rfl) (by kernel_rfl) (by kernel_rfl) (fun _ _ _ h => h) (Or.inl ⟨by rfl, ?_⟩) (by assumption) ?_
          rotate_left
          · (intro w hSw; (try dsimp only at hSw); (try go_split_ands); go_simp; (try with_reducible rfl))
          (try simp only [List.getElem_toArray, List.getElem_cons_zero, List.getElem_cons_succ, Act.put, List.setIfInBounds_toArray, List.set_cons_zero, List.set_cons_succ])
          refine wpAnyH_ready (rs := [9]) (by kernel_rfl) (by simp) ?_
          refine AllReadyH.cons (o := _) rfl (fun K hK => ?_) AllReadyH.nil
          (try simp only [List.getElem_toArray, List.getElem_cons_zero, List.getElem_cons_succ])
          go_simp
          refine (block_m (UInt8.ofNat q) _ (by rw [UInt8.toNat_ofNat', IntKind.wrap_u8]; omega) _ HV2.out bV2.size).mono ?_; rintro e wa2 ⟨rfl, hma2, hba2, _⟩
          have ba2 := bV2.trans hba2
          have ca2 := (hba2.cell (p := ⟨lb, lo + q, none⟩) hlb).trans hV2
          refine hK.out _ _ (ca2) (fun hHeld => ?_)
          clear hK K
          (try simp only [List.getElem_toArray, List.getElem_cons_zero, List.getElem_cons_succ, Act.put, List.setIfInBounds_toArray, List.set_cons_zero, List.set_cons_succ])
          refine wpAnyH_ready (rs := [10]) (by kernel_rfl) (by simp) ?_
          refine AllReadyH.cons (o := _) rfl (fun K hK => ?_) AllReadyH.nil
          (try simp only [List.getElem_toArray, List.getElem_cons_zero, List.getElem_cons_succ])
          go_simp
          rw [n64]
          refine (write_m _ (mkB (UInt8.ofNat q)) _ hma2 (by simp) ba2.size (mkB_len _) (by omega) (E := 0) (HP.out.write hN0 hN1 (mkB (UInt8.ofNat q))).2 (HP.out.write hN0 hN1 (mkB (UInt8.ofNat q))).1).mono ?_; rintro e wb2 ⟨rfl, hmb2, hbb2, _⟩
          have bb2 := ba2.trans hbb2
          have cb2 := (hbb2.cell (p := ⟨lb, lo + q, none⟩) hlb).trans ca2
          refine hK.out _ _ (cb2) (fun hHeld => ?_)
          clear hK K
          (try simp only [List.getElem_toArray, List.getElem_cons_zero, List.getElem_cons_succ, Act.put, List.setIfInBounds_toArray, List.set_cons_zero, List.set_cons_succ])
          refine wpAnyH_take (i := 11) (oi := _) (v := ?_) rfl (by kernel_rfl) (by kernel_rfl) (by kernel_rfl) (fun _ _ _ h => h) (Or.inl ⟨by rfl, ?_⟩) (by assumption) ?_
          rotate_left
          · (intro w hSw; (try dsimp only at hSw); (try go_split_ands); go_simp; (try with_reducible rfl))
          (try simp only [List.getElem_toArray, List.getElem_cons_zero, List.getElem_cons_succ, Act.put, List.setIfInBounds_toArray, List.set_cons_zero, List.set_cons_succ])
          refine wpAnyH_done (by kernel_rfl) ?_ _
          have HB2 := Lib.hid hmb2.swap
          clear hma2 hmb2 HV2
          go_wp2_with fail
          go_roundw
          case rel => exact ⟨q + 1, T.add (((c.toNat % 64 : Nat) : Int), mkB (UInt8.ofNat q)), by omega, by simp, HP.out.add _, by rw [Dk.sum_add]; omega, by rw [if_pos (by omega), show kk + 1 - (q + 1) = kk + 1 - q - 1 from by omega]; exact HB2.out, bb2⟩
          case measure => simp [intOf]; omega
        · obtain rfl : q = kk := by omega
          rw [show q + 1 - q = 1 from by omega] at HM
          go_wp2_with fail
          have hV1 : wr.drew.cell? ⟨lb, lo + q, none⟩ = some (.int .u8 (c.toNat : Int)) := hlc'
          have HV1 : Hid (Many w.heap.size [] wr.drew [(2, g1, T.wk 1 Kp), (3, g2, T)]) := Lib.hid HM.out.drew
          have bV1 : Below w.heap.size w wr.drew := hb.drew
          refine wp_region_held_drew (S := fun W => W.cell? ⟨lb, lo + q, none⟩ = some (.int .u8 (c.toNat : Int))) (by kernel_rfl) hV1 (fun hHeld => ?_)
          generalize wr.drew = V1 at *
          refine wpAnyH_take (i := 0) (oi := _) (v := ?_) rfl (by kernel_rfl) (by kernel_rfl) (by kernel_rfl) (fun _ _ _ h => h) (Or.inl ⟨by rfl, ?_⟩) (by assumption) ?_
          rotate_left
          · (intro w hSw; (try dsimp only at hSw); (try go_split_ands); go_simp; (try with_reducible rfl))
          (try simp only [List.getElem_toArray, List.getElem_cons_zero, List.getElem_cons_succ, Act.put, List.setIfInBounds_toArray, List.set_cons_zero, List.set_cons_succ])
          refine wpAnyH_take (i := 1) (oi := _) (v := ?_) rfl (by kernel_rfl) (by kernel_rfl) (by kernel_rfl) (fun _ _ _ h => h) (Or.inl ⟨by rfl, ?_⟩) (by assumption) ?_
          rotate_left
          · (intro w hSw; (try dsimp only at hSw); (try go_split_ands); go_simp; (try with_reducible rfl))
          (try simp only [List.getElem_toArray, List.getElem_cons_zero, List.getElem_cons_succ, Act.put, List.setIfInBounds_toArray, List.set_cons_zero, List.set_cons_succ])
          refine wpAnyH_take (i := 2) (oi := _) (v := ?_) rfl (by kernel_rfl) (by kernel_rfl) (by kernel_rfl) (fun _ _ _ h => h) (Or.inl ⟨by rfl, ?_⟩) (by assumption) ?_
          rotate_left
          · (intro w hSw; (try dsimp only at hSw); (try go_split_ands); go_simp; (try with_reducible rfl))
          (try simp only [List.getElem_toArray, List.getElem_cons_zero, List.getElem_cons_succ, Act.put, List.setIfInBounds_toArray, List.set_cons_zero, List.set_cons_succ])
          refine wpAnyH_take (i := 3) (oi := _) (v := ?_) rfl (by kernel_rfl) (by kernel_rfl) (by kernel_rfl) (fun _ _ _ h => h) (Or.inl ⟨by rfl, ?_⟩) (by assumption) ?_
          rotate_left
          · (intro w hSw; (try dsimp only at hSw); (try go_split_ands); go_simp; (try with_reducible rfl))
          (try simp only [List.getElem_toArray, List.getElem_cons_zero, List.getElem_cons_succ, Act.put, List.setIfInBounds_toArray, List.set_cons_zero, List.set_cons_succ])
          refine wpAnyH_take (i := 4) (oi := _) (v := ?_) rfl (by kernel_rfl) (by kernel_rfl) (by kernel_rfl) (fun _ _ _ h => h) (Or.inl ⟨by rfl, ?_⟩) (by assumption) ?_
          rotate_left
          · (intro w hSw; (try dsimp only at hSw); (try go_split_ands); go_simp; (try with_reducible rfl))
          (try simp only [List.getElem_toArray, List.getElem_cons_zero, List.getElem_cons_succ, Act.put, List.setIfInBounds_toArray, List.set_cons_zero, List.set_cons_succ])
          refine wpAnyH_take (i := 5) (oi := _) (v := ?_) rfl (by kernel_rfl) (by kernel_rfl) (by kernel_rfl) (fun _ _ _ h => h) (Or.inl ⟨by rfl, ?_⟩) (by assumption) ?_
          rotate_left
          · (intro w hSw; (try dsimp only at hSw); (try go_split_ands); go_simp; (try with_reducible rfl))
          (try simp only [List.getElem_toArray, List.getElem_cons_zero, List.getElem_cons_succ, Act.put, List.setIfInBounds_toArray, List.set_cons_zero, List.set_cons_succ])
          refine wpAnyH_take (i := 6) (oi := _) (v := ?_) rfl (by kernel_rfl) (by kernel_rfl) (by kernel_rfl) (fun _ _ _ h => h) (Or.inl ⟨by rfl, ?_⟩) (by assumption) ?_
          rotate_left
          · (intro w hSw; (try dsimp only at hSw); (try go_split_ands); go_simp; (try with_reducible rfl))
          (try simp only [List.getElem_toArray, List.getElem_cons_zero, List.getElem_cons_succ, Act.put, List.setIfInBounds_toArray, List.set_cons_zero, List.set_cons_succ])
          refine wpAnyH_take (i := 7) (oi := _) (v := ?_) rfl (by kernel_rfl) (by kernel_rfl) (by kernel_rfl) (fun _ _ _ h => h) (Or.inl ⟨by rfl, ?_⟩) (by assumption) ?_
          rotate_left
          · (intro w hSw; (try dsimp only at hSw); (try go_split_ands); go_simp; (try with_reducible rfl))
          (try simp only [List.getElem_toArray, List.getElem_cons_zero, List.getElem_cons_succ, Act.put, List.setIfInBounds_toArray, List.set_cons_zero, List.set_cons_succ])
          refine wpAnyH_take (i := 8) (oi := _) (v := ?_) rfl (by kernel_rfl) (by kernel_rfl) (by kernel_rfl) (fun _ _ _ h => h) (Or.inl ⟨by rfl, ?_⟩) (by assumption) ?_
          rotate_left
          · (intro w hSw; (try dsimp only at hSw); (try go_split_ands); go_simp; (try with_reducible rfl))
          (try simp only [List.getElem_toArray, List.getElem_cons_zero, List.getElem_cons_succ, Act.put, List.setIfInBounds_toArray, List.set_cons_zero, List.set_cons_succ])
          refine wpAnyH_ready (rs := [9]) (by kernel_rfl) (by simp) ?_
          refine AllReadyH.cons (o := _) rfl (fun K hK => ?_) AllReadyH.nil
          (try simp only [List.getElem_toArray, List.getElem_cons_zero, List.getElem_cons_succ])
          go_simp
          refine (block_m (UInt8.ofNat q) _ (by rw [UInt8.toNat_ofNat', IntKind.wrap_u8]; omega) _ HV1.out bV1.size).mono ?_; rintro e wa1 ⟨rfl, hma1, hba1, _⟩
          have ba1 := bV1.trans hba1
          have ca1 := (hba1.cell (p := ⟨lb, lo + q, none⟩) hlb).trans hV1
          refine hK.out _ _ (ca1) (fun hHeld => ?_)
          clear hK K
          (try simp only [List.getElem_toArray, List.getElem_cons_zero, List.getElem_cons_succ, Act.put, List.setIfInBounds_toArray, List.set_cons_zero, List.set_cons_succ])
          refine wpAnyH_ready (rs := [10]) (by kernel_rfl) (by simp) ?_
          refine AllReadyH.cons (o := _) rfl (fun K hK => ?_) AllReadyH.nil
          (try simp only [List.getElem_toArray, List.getElem_cons_zero, List.getElem_cons_succ])
          go_simp
          rw [n64]
          refine (write_m _ (mkB (UInt8.ofNat q)) _ hma1 (by simp) ba1.size (mkB_len _) (by show T.sum + 1 ≤ _; omega) (E := 51) (Dk.wk_write1 HP.out hN0 hN1 (mkB (UInt8.ofNat q)) Kp).2 (Dk.wk_write1 HP.out hN0 hN1 (mkB (UInt8.ofNat q)) Kp).1).mono ?_; rintro e wb1 ⟨rfl, hmb1, hbb1, _⟩
          have bb1 := ba1.trans hbb1
          have cb1 := (hbb1.cell (p := ⟨lb, lo + q, none⟩) hlb).trans ca1
          refine hK.out _ _ (cb1) (fun hHeld => ?_)
          clear hK K
          (try simp only [List.getElem_toArray, List.getElem_cons_zero, List.getElem_cons_succ, Act.put, List.setIfInBounds_toArray, List.set_cons_zero, List.set_cons_succ])
          refine wpAnyH_take (i := 11) (oi := _) (v := ?_) rfl (by kernel_rfl) (by kernel_rfl) (by kernel_rfl) (fun _ _ _ h => h) (Or.inl ⟨by rfl, ?_⟩) (by assumption) ?_
          rotate_left
          · (intro w hSw; (try dsimp only at hSw); (try go_split_ands); go_simp; (try with_reducible rfl))
          (try simp only [List.getElem_toArray, List.getElem_cons_zero, List.getElem_cons_succ, Act.put, List.setIfInBounds_toArray, List.set_cons_zero, List.set_cons_succ])
          refine wpAnyH_done (by kernel_rfl) ?_ _
          have HB1 := Lib.hid hmb1.swap
          clear hma1 hmb1 HV1
          go_wp2_with fail
          have hV2 : wb1.drew.cell? ⟨lb, lo + q, none⟩ = some (.int .u8 (c.toNat : Int)) := cb1
          have HV2 : Hid (Many w.heap.size [] wb1.drew [(3, g2, T), (2, g1, (T.add (((c.toNat % 64 : Nat) : Int), mkB (UInt8.ofNat q))).fail Kp)]) := Lib.hid HB1.out.drew
          have bV2 : Below w.heap.size w wb1.drew := bb1.drew
          refine wp_region_held_drew (S := fun W => W.cell? ⟨lb, lo + q, none⟩ = some (.int .u8 (c.toNat : Int))) (by kernel_rfl) hV2 (fun hHeld => ?_)
          generalize wb1.drew = V2 at *
          refine wpAnyH_take (i := 0) (oi := _) (v := ?_) rfl (by kernel_rfl) (by kernel_rfl) (by kernel_rfl) (fun _ _ _ h => h) (Or.inl ⟨by rfl, ?_⟩) (by assumption) ?_
          rotate_left
          · (intro w hSw; (try dsimp only at hSw); (try go_split_ands); go_simp; (try with_reducible rfl))
          (try simp only [List.getElem_toArray, List.getElem_cons_zero, List.getElem_cons_succ, Act.put, List.setIfInBounds_toArray, List.set_cons_zero, List.set_cons_succ])
          refine wpAnyH_take (i := 1) (oi := _) (v := ?_) rfl (by kernel_rfl) (by kernel_rfl) (by kernel_rfl) (fun _ _ _ h => h) (Or.inl ⟨by rfl, ?_⟩) (by assumption) ?_
          rotate_left
          · (intro w hSw; (try dsimp only at hSw); (try go_split_ands); go_simp; (try with_reducible rfl))
          (try simp only [List.getElem_toArray, List.getElem_cons_zero, List.getElem_cons_succ, Act.put, List.setIfInBounds_toArray, List.set_cons_zero, List.set_cons_succ])
          refine wpAnyH_take (i := 2) (oi := _) (v := ?_) rfl (by kernel_rfl) (by kernel_rfl) (by kernel_rfl) (fun _ _ _ h => h) (Or.inl ⟨by rfl, ?_⟩) (by assumption) ?_
          rotate_left
          · (intro w hSw; (try dsimp only at hSw); (try go_split_ands); go_simp; (try with_reducible rfl))
          (try simp only [List.getElem_toArray, List.getElem_cons_zero, List.getElem_cons_succ, Act.put, List.setIfInBounds_toArray, List.set_cons_zero, List.set_cons_succ])
          refine wpAnyH_take (i := 3) (oi := _) (v := ?_) rfl (by kernel_rfl) (by kernel_rfl) (by kernel_rfl) (fun _ _ _ h => h) (Or.inl ⟨by rfl, ?_⟩) (by assumption) ?_
          rotate_left
          · (intro w hSw; (try dsimp only at hSw); (try go_split_ands); go_simp; (try with_reducible rfl))
          (try simp only [List.getElem_toArray, List.getElem_cons_zero, List.getElem_cons_succ, Act.put, List.setIfInBounds_toArray, List.set_cons_zero, List.set_cons_succ])
          refine wpAnyH_take (i := 4) (oi := _) (v := ?_) rfl (by kernel_rfl) (by kernel_rfl) (by kernel_rfl) (fun _ _ _ h => h) (Or.inl ⟨by rfl, ?_⟩) (by assumption) ?_
          rotate_left
          · (intro w hSw; (try dsimp only at hSw); (try go_split_ands); go_simp; (try with_reducible rfl))
          (try simp only [List.getElem_toArray, List.getElem_cons_zero, List.getElem_cons_succ, Act.put, List.setIfInBounds_toArray, List.set_cons_zero, List.set_cons_succ])
          refine wpAnyH_take (i := 5) (oi := _) (v := ?_) rfl (by kernel_rfl) (by kernel_rfl) (by kernel_rfl) (fun _ _ _ h => h) (Or.inl ⟨by rfl, ?_⟩) (by assumption) ?_
          rotate_left
          · (intro w hSw; (try dsimp only at hSw); (try go_split_ands); go_simp; (try with_reducible rfl))
          (try simp only [List.getElem_toArray, List.getElem_cons_zero, List.getElem_cons_succ, Act.put, List.setIfInBounds_toArray, List.set_cons_zero, List.set_cons_succ])
          refine wpAnyH_take (i := 6) (oi := _) (v := ?_) rfl (by kernel_rfl) (by kernel_rfl) (by kernel_rfl) (fun _ _ _ h => h) (Or.inl ⟨by rfl, ?_⟩) (by assumption) ?_
          rotate_left
          · (intro w hSw; (try dsimp only at hSw); (try go_split_ands); go_simp; (try with_reducible rfl))
          (try simp only [List.getElem_toArray, List.getElem_cons_zero, List.getElem_cons_succ, Act.put, List.setIfInBounds_toArray, List.set_cons_zero, List.set_cons_succ])
          refine wpAnyH_take (i := 7) (oi := _) (v := ?_) rfl (by kernel_rfl) (by kernel_rfl) (by kernel_rfl) (fun _ _ _ h => h) (Or.inl ⟨by rfl, ?_⟩) (by assumption) ?_
          rotate_left
          · (intro w hSw; (try dsimp only at hSw); (try go_split_ands); go_simp; (try with_reducible rfl))
          (try simp only [List.getElem_toArray, List.getElem_cons_zero, List.getElem_cons_succ, Act.put, List.setIfInBounds_toArray, List.set_cons_zero, List.set_cons_succ])
          refine wpAnyH_take (i := 8) (oi := _) (v := ?_) rfl (by kernel_rfl) (by kernel_rfl) (by kernel_rfl) (fun _ _ _ h => h) (Or.inl ⟨by rfl, ?_⟩) (by assumption) ?_
          rotate_left
          · (intro w hSw; (try dsimp only at hSw); (try go_split_ands); go_simp; (try with_reducible rfl))
          (try simp only [List.getElem_toArray, List.getElem_cons_zero, List.getElem_cons_succ, Act.put, List.setIfInBounds_toArray, List.set_cons_zero, List.set_cons_succ])
          refine wpAnyH_ready (rs := [9]) (by kernel_rfl) (by simp) ?_
          refine AllReadyH.cons (o := _) rfl (fun K hK => ?_) AllReadyH.nil
          (try simp only [List.getElem_toArray, List.getElem_cons_zero, List.getElem_cons_succ])
          go_simp
          refine (block_m (UInt8.ofNat q) _ (by rw [UInt8.toNat_ofNat', IntKind.wrap_u8]; omega) _ HV2.out bV2.size).mono ?_; rintro e wa2 ⟨rfl, hma2, hba2, _⟩
          have ba2 := bV2.trans hba2
          have ca2 := (hba2.cell (p := ⟨lb, lo + q, none⟩) hlb).trans hV2
          refine hK.out _ _ (ca2) (fun hHeld => ?_)
          clear hK K
          (try simp only [List.getElem_toArray, List.getElem_cons_zero, List.getElem_cons_succ, Act.put, List.setIfInBounds_toArray, List.set_cons_zero, List.set_cons_succ])
          refine wpAnyH_ready (rs := [10]) (by kernel_rfl) (by simp) ?_
          refine AllReadyH.cons (o := _) rfl (fun K hK => ?_) AllReadyH.nil
          (try simp only [List.getElem_toArray, List.getElem_cons_zero, List.getElem_cons_succ])
          go_simp
          rw [n64]
          refine (write_m _ (mkB (UInt8.ofNat q)) _ hma2 (by simp) ba2.size (mkB_len _) (by omega) (E := 0) (HP.out.write hN0 hN1 (mkB (UInt8.ofNat q))).2 (HP.out.write hN0 hN1 (mkB (UInt8.ofNat q))).1).mono ?_; rintro e wb2 ⟨rfl, hmb2, hbb2, _⟩
          have bb2 := ba2.trans hbb2
          have cb2 := (hbb2.cell (p := ⟨lb, lo + q, none⟩) hlb).trans ca2
          refine hK.out _ _ (cb2) (fun hHeld => ?_)
          clear hK K
          (try simp only [List.getElem_toArray, List.getElem_cons_zero, List.getElem_cons_succ, Act.put, List.setIfInBounds_toArray, List.set_cons_zero, List.set_cons_succ])
          refine wpAnyH_take (i := 11) (oi := _) (v := ?_) rfl (by kernel_rfl) (by kernel_rfl) (by kernel_rfl) (fun _ _ _ h => h) (Or.inl ⟨by rfl, ?_⟩) (by assumption) ?_
          rotate_left
          · (intro w hSw; (try dsimp only at hSw); (try go_split_ands); go_simp; (try with_reducible rfl))
          (try simp only [List.getElem_toArray, List.getElem_cons_zero, List.getElem_cons_succ, Act.put, List.setIfInBounds_toArray, List.set_cons_zero, List.set_cons_succ])
          refine wpAnyH_done (by kernel_rfl) ?_ _
          have HB2 := Lib.hid hmb2.swap
          clear hma2 hmb2 HV2
          go_wp2_with fail
          go_roundw
          case rel => exact ⟨q + 1, T.add (((c.toNat % 64 : Nat) : Int), mkB (UInt8.ofNat q)), by omega, by simp, HP.out.add _, by rw [Dk.sum_add]; omega, by rw [if_neg (by omega)]; exact HB2.out, bb2⟩
          case measure => simp [intOf]
    · obtain rfl : q = kk + 1 := by omega
      rw [if_neg hqk] at hm
      have hle : (kk : Int) < ((kk + 1 : Nat) : Int) := by omega
      have HM := Lib.hid hm.swap
      have HP := Lib.hid hT
      clear hm hT HM4
      go_wp2_with fail
      refine (fail_m _ Kp _ HM.out (by simp) hb.size (HK.out.below (hb.mono (Nat.le_refl _))) (E := 0) (HP.out.fail Kp).2 (HP.out.fail Kp).1).mono ?_; rintro e wx ⟨rfl, hmx, hbx, _⟩
      have HX := Lib.hid hmx
      have bx := hb.trans hbx
      clear hmx hbx HM
      go_wp2_with fail
      refine (dead_m (i := 2) (d := T.fail Kp) _ HX.out (by simp) (r := true) rfl).mono ?_; rintro e wy ⟨rfl, hmy, hby, _⟩
      have HY := Lib.hid hmy
      have bY := bx.trans hby
      clear hmy hby HX
      go_wp2_with fail
      refine (booted_m 4 (i := 2) (d := T.fail Kp) _ HY.out (by simp) (by decide) (by simp) bY.size rfl rfl).mono ?_; rintro e wz ⟨ga, rfl, hmz, hbz, _⟩
      have HZ := Lib.hid hmz
      have bz := bY.trans hbz
      clear hmz hbz HY
      go_wp2_with fail
      refine (booted_m 5 (i := 3) (d := T.fail Kp) _ HZ.out (by simp) (by decide) (by simp) bz.size rfl rfl).mono ?_; rintro e wu ⟨gb, rfl, hmu, hbu, _⟩
      have HU := Lib.hid (hmu.sub (own' := []) (l' := [(4, ga, (T.fail Kp).boot), (5, gb, (T.fail Kp).boot)]) (fun _ h => h) (by simp))
      have bu := bz.trans hbu
      clear hmu hbu HZ
      have hPD : ((T.fail Kp).boot).Plain := ⟨rfl, rfl, HP.out.blocks⟩
      have hOk := (HU.out.ok (x := (4, ga, (T.fail Kp).boot)) (by simp))
      dsimp only at hOk
      have HPD := Lib.hid hPD
      have HOK := Lib.hid hOk
      clear hPD hOk
      generalize (T.fail Kp).boot = D at *
      clear HP
      go_wp2_with fail
      obtain ⟨wu', hwu'⟩ : ∃ wu' : World, wu' = wu := ⟨_, rfl⟩
      go_loopw [16] (fun i W => ∃ n : Nat, n ≤ 64 ∧ i = .int .i64 n ∧ Many w.heap.size [] W [(4, ga, D), (5, gb, D)] ∧ Below w.heap.size w W) (fun i _ => 64 - (intOf i).toNat)
      case atStart => exact ⟨0, by omega, rfl, HU.out, bu⟩
      case round =>
        clear hwu'
        obtain ⟨n, hn, rfl, hm, hbn⟩ := hrel
        by_cases hlt : n < 64
        · have hlt1 : (n : Int) < 64 := by omega
          have hn0 : (0 : Int) ≤ (n : Int) := by omega
          have HM := Lib.hid hm
          have hR5 := HOK.out.read (n : Int)
          have HBD := Lib.hid (HPD.out.bad hn0 hlt1)
          obtain ⟨R, hR⟩ : ∃ R, R = D.read (n : Int) := ⟨_, rfl⟩
          rw [← hR] at hR5
          have HR := Lib.hid hR.symm
          have HR5 := Lib.hid hR5
          have qx := fun W : World => run_eq_blk R R hR5 hR5 W
          have hqq : (R == R) = true := by simp
          rw [hqq] at qx
          clear hm hR hR5 hqq HU
          go_wp2_with fail
          refine (read_m (n : Int) _ HM.out (i := 4) (d := D) (by simp) hbn.size (wf_i64 hn0 (by omega)) (E := 0) HBD.out HR.out).mono ?_; rintro e wx ⟨rfl, hmx, hbx, _⟩
          have HX := Lib.hid hmx
          have bx := hbn.trans hbx
          have HA := Lib.hid (Lies.new wx (zs 512) _ rfl)
          clear hmx hbx HM
          go_wp2_with (with_reducible refine wpList_store_blk (m := R) rfl _ _ rfl rfl rfl HA.out (zs_len 512) HR5.out ?_)
          intro wy hly gy
          have by1 : Below wx.heap.size wx wy := below_row ((Below.refl _ _).alloc (Nat.le_refl _) _) gy (by simp) (Nat.le_refl _)
          have HY := Lib.hid (HX.out.below by1)
          have bY := bx.trans (by1.mono bx.size)
          have HLY := Lib.hid hly
          clear hly gy by1 HX
          go_wp2_with fail
          refine (read_q (n : Int) _ HY.out (i := 5) (d := D) (by simp) (wf_i64 hn0 (by omega)) (E := 0) HBD.out HR.out).mono ?_; rintro e wz ⟨rfl, hmz, hbz⟩
          have HZ := Lib.hid hmz
          have bz := chain bY hbz
          have hlt5 := HLY.out.lt
          have hsz := hbz.size
          have HLZ := Lib.hid ((HLY.out.below hbz).alloc (.cells (ac (zs 512)) 34))
          have HA2 := Lib.hid (Lies.new wz (zs 512) _ rfl)
          clear hmz hbz HY HLY
          go_wp2_with (with_reducible refine wpList_store_blk (m := R) rfl _ _ rfl rfl rfl HA2.out (zs_len 512) HR5.out ?_)
          intro wv2 hlv gv
          have bv1 : Below wz.heap.size wz wv2 := below_row ((Below.refl _ _).alloc (Nat.le_refl _) _) gv (by simp) (Nat.le_refl _)
          have HV := Lib.hid (HZ.out.below bv1)
          have bV := chain bz bv1
          have HLV := Lib.hid (HLZ.out.but gv (fun e => by injection e with e; omega))
          have HLW := Lib.hid hlv
          clear hlv gv bv1 HZ HLZ
          go_wp2_with (first | (refine wpList_load_blk_g _ rfl rfl HLV.out HR5.out (by rfl) ?_) | (refine wpList_load_blk_g _ rfl rfl HLW.out HR5.out (by rfl) ?_))
          go_roundw
          case rel => exact ⟨n + 1, by omega, by simp, HV.out, bV⟩
          case measure => simp [intOf]; omega
        · obtain rfl : n = 64 := by omega
          go_wp2_with fail
          go_ret
          exact ⟨rfl, hbn⟩

theorem cuts_walk : Walks Try.prog 3 Try.f3 := by
  intro H enc W args ds p base hval hA hz
  rw [Try.params3] at hA hval
  obtain ⟨v0, vs1, d0, ds1, p0, q0, ha0, rfl, rfl, h0, hA⟩ := trodAll_cons hA
  obtain ⟨v1, vs2, d1, ds2, p1, q1, rfl, rfl, rfl, h1, hA⟩ := trodAll_cons hA
  obtain ⟨v2, vs3, d2, ds3, p2, q2, rfl, rfl, rfl, h2, hA⟩ := trodAll_cons hA
  obtain ⟨rfl, rfl, rfl⟩ := trodAll_nil hA
  obtain rfl : args = #[v0, v1, v2] := by cases args; simp_all
  obtain ⟨l, hl⟩ := open_bytes (hval 0 _ v0 rfl rfl) h0
  obtain ⟨x1, rfl, _⟩ := open_int Try.underlying3 (hval 1 _ v1 rfl rfl) h1
  obtain ⟨k, hk⟩ := open_keep (hval 2 _ v2 rfl rfl) h2
  exact cuts_any v0 l x1 v2 k W hl hk

theorem DiskCuts_holds : Rows.DiskCutsSaid :=
  OpenClaim.holds_of_wide 3 Try.f3 rfl rfl rfl rfl rfl rfl rfl ⟨rfl, rfl, rfl, rfl, rfl⟩ rfl rfl rfl rfl rfl (by kernel_rfl) Try.func3 (by kernel_rfl)
    (of_decide_eq_true (by kernel_rfl)) (by unfold Func.isWrapper; first | (rw [if_pos (by decide +kernel)]; kernel_rfl) | (rw [if_neg (by decide +kernel)]; exact ⟨rfl, rfl⟩))
    (fun os started H enc _ => law_lifted (C := Try.checked) (s := Rows.diskCutsSpec) own started (by kernel_rfl) Try.func3 laidOut rfl rfl Try.underlying4
      (by have h : ∀ u ∈ Try.f3.params.toList, (Try.prog.readableRec u && decide (u < Try.prog.types.size)) = true := List.all_eq_true.1 (by kernel_rfl)
          intro u hu; have := h u hu; rw [Bool.and_eq_true, decide_eq_true_eq] at this; exact this)
      (by intro H l hl; rw [show Try.f3.params.size = 3 from by rw [Try.params3]; rfl] at hl; match l, hl with | [d0, d1, d2], _ => rfl)
      H enc (ChangeSpec.witness6 (enc := enc) (C := Try.checked) false ⟨#[], #[.slice none 0 0, .int .i64 0, .slice none 0 0], []⟩ 8 (by kernel_rfl) (by kernel_rfl) (by kernel_rfl) (by kernel_rfl)) cuts_walk)
#print axioms DiskCuts_holds
end Go.Proofs.Ytldkokngbnaimaa
