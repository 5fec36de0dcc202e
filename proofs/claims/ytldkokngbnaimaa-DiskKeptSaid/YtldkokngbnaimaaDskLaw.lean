/- A disk's methods, as the laws meet them: one disk whose blocks lie beyond a base. Conditions: none. -/
import Derived.Test.YtldkokngbnaimaaDskRead
import Derived.Test.YtldkokngbnaimaaDskCopy
import Derived.Deep.DeepCutAuto
namespace Go.Proofs.Ytldkokngbnaimaa
set_option linter.unusedVariables false
set_option linter.unusedSimpArgs false
open Go.ChangeShapes Go.WideShapes Go.ChangeAt Go.RowKit

attribute [local go_sem] zeroValueB
attribute [local go_sem] run_build_none

theorem Read_any {fp rp : Nat → Prop} {g : Nat} {d : Dk} (n : Int) (w : World) (h : DiskV w fp rp g d) (hn : (Lit.int .i64 n).wf = true) :
    Calls Try.prog 18 #[dptr g, .int .i64 n] w fun e w' => e = .returned (.tuple #[blk (d.read n), .int .i64 (d.bad n)]) ∧ Below w.heap.size w w' := by
  unfold Dk.read
  by_cases hb : d.bad n = 0
  · rw [if_pos hb, hb]
    exact Read_ok n w h hb hn
  · rw [if_neg hb]
    refine Read_bad (dptr g) n (d.bad n) w (by simp [hb]) (fun W hW => ?_)
    obtain ⟨m, v, kv, D⟩ := h.below hW
    exact bad_cell n W D.box.cells.1 D.box.cells.2.2.2.2.2

/-! ### a block of a byte -/
def mkB (c : UInt8) : List UInt8 := (((zs 512).set 0 c).set 200 (c + 1)).set 511 (c + 2)
theorem mkB_len (c : UInt8) : (mkB c).length = 512 := by simp [mkB]
theorem mkB_get (c : UInt8) : (mkB c)[0]? = some c := by
  unfold mkB
  rw [List.getElem?_set_ne (by decide), List.getElem?_set_ne (by decide), List.getElem?_set_self (by simp)]
theorem mkB_inj {a b : UInt8} (h : mkB a = mkB b) : a = b := by
  have h1 := mkB_get a
  rw [h, mkB_get b] at h1
  injection h1 with h1
  exact h1.symm
theorem mkB_zero (c : UInt8) : mkB c ≠ zs 512 := by
  intro h
  have h1 : (mkB c)[0]? = some 0 := by rw [h]; unfold zs; rw [List.getElem?_replicate, if_pos (by decide)]
  have h2 : (mkB c)[200]? = some 0 := by rw [h]; unfold zs; rw [List.getElem?_replicate, if_pos (by decide)]
  rw [mkB_get] at h1
  have h3 : (mkB c)[200]? = some (c + 1) := by
    unfold mkB
    rw [List.getElem?_set_ne (by decide), List.getElem?_set_self (by simp)]
  rw [h3] at h2
  injection h1 with h1
  injection h2 with h2
  rw [h1] at h2
  exact absurd h2 (by decide)
def wantB (c : UInt8) : List UInt8 := if c = 0 then zs 512 else mkB c
theorem wantB_len (c : UInt8) : (wantB c).length = 512 := by
  unfold wantB
  split
  · simp
  · exact mkB_len c

theorem ac_set (l : List UInt8) (j : Nat) (x : UInt8) : (ac l).setIfInBounds j (.int .u8 (x.toNat : Int)) = ac (l.set j x) := by
  unfold ac
  simp [bc, List.map_set]
theorem u8_add (c k : UInt8) : ((c.toNat : Int) + (k.toNat : Int)) % 256 = ((c + k).toNat : Int) := by
  rw [UInt8.toNat_add]
  omega
set_option maxRecDepth 20000 in
set_option maxHeartbeats 800000 in
theorem block_any (c : UInt8) (w : World) : Calls Try.prog 14 #[.int .u8 (c.toNat : Int)] w fun e w' => e = .returned (blk (mkB c)) ∧ Below w.heap.size w w' := by
  have h1 : ((c.toNat : Int) + 1) % 256 = ((c + 1).toNat : Int) := u8_add c 1
  have h2 : ((c.toNat : Int) + 2) % 256 = ((c + 2).toNat : Int) := u8_add c 2
  have L3 := Lies.new (w.alloc (.cells (ac (zs 512)) 34)) (zs 512) (w.heap.size + 1) (by simp)
  have q0 := L3.cell (j := 0) (by simp)
  have q2 := L3.cell (j := 200) (by simp)
  have q5 := L3.cell (j := 511) (by simp)
  have f0 := L3.free 0
  have f2 := L3.free 200
  have f5 := L3.free 511
  have e : ((((ac (zs 512)).setIfInBounds 0 (.int .u8 (c.toNat : Int))).setIfInBounds 200 (.int .u8 (((c.toNat : Int) + 1) % 256))).setIfInBounds 511 (.int .u8 (((c.toNat : Int) + 2) % 256))) = ac (mkB c) := by
    rw [h1, h2, ac_set, ac_set, ac_set]
    rfl
  have HE := Lib.hid e
  have L5 : Lies ((w.alloc (.cells (ac (zs 512)) 34)).alloc (.cells (ac (mkB c)) 34)) (w.heap.size + 1) (mkB c) := Lies.new _ _ _ (by simp)
  have L6 : Lies ((w.alloc (.cells (ac (zs 512)) 34)).alloc (.cells (ac (mkB c)) 34)) w.heap.size (zs 512) := (Lies.new _ _ _ rfl).alloc _
  rw [← HE.out] at L5 L6
  have H5 := Lib.hid L5
  have H6 := Lib.hid L6
  clear L3 e h1 h2 L5 L6
  go_enter Try.func14, Try.ntmps14
  go_wp2_with (first | (with_reducible refine wpList_load_blk rfl _ rfl rfl H5.out (mkB_len c) ?_) | (with_reducible refine wpList_store_blk (m := mkB c) rfl _ _ rfl rfl rfl H6.out (zs_len 512) (mkB_len c) ?_))
  intro w1 hl g1
  have b1 : Below w.heap.size w w1 := below_row (by repeat' (first | (with_reducible exact Below.refl _ _) | (with_reducible assumption) | (with_reducible refine below_drewN ?_ _) | (with_reducible refine Below.alloc ?_ ?_ _) | (with_reducible refine Below.drew ?_) | (with_reducible refine Below.setCell ?_ ?_ _) | go_size)) g1 (by go_size) (Nat.le_refl _)
  have HF := Lib.hid hl
  clear hl g1
  go_wp2_with fail
  refine bodyPost_ret (results_cell_row (p := 2) (P := Try.prog) Try.results14 _ w1 w.heap.size 34 (ac (mkB c)) (0, 0) _ rfl HF.out Try.underlying34 rfl (by rw [info_blk, ac_size, mkB_len])) rfl ?_
  exact ⟨rfl, b1⟩

theorem is_guard (d : Dk) (n : Int) (c : UInt8) : (decide (d.bad n = 0) && (d.read n == wantB c)) = if d.bad n = 0 then (d.read n == wantB c) else false := by
  by_cases h : d.bad n = 0
  · rw [if_pos h]
    simp [h]
  · rw [if_neg h]
    simp [h]
set_option maxHeartbeats 1600000 in
theorem is_any {fp rp : Nat → Prop} {g : Nat} {d : Dk} (n : Int) (c : UInt8) (w : World) (h : DiskV w fp rp g d) (hn : (Lit.int .i64 n).wf = true) :
    Calls Try.prog 21 #[dptr g, .int .i64 n, .int .u8 (c.toNat : Int)] w fun e w' => e = .returned (.bool (decide (d.bad n = 0) && (d.read n == wantB c))) ∧ Below w.heap.size w w' := by
  have CR := Lib.hid (Read_any n w h hn)
  have hR := h.ok.read n
  have CB := Lib.hid (block_any c)
  rw [is_guard]
  generalize d.read n = R at *
  have hq : ∀ w, (Op.equalIn 10000 34 (blk R) (blk (wantB c))).run Try.prog w = .ok (R == wantB c) w := fun w => run_eq_blk R (wantB c) hR (wantB_len c) w
  have HR := Lib.hid hR
  have hw : ((c.toNat : Int) == 0) = decide (c = 0) := by
    by_cases h0 : c = 0
    · subst h0; rfl
    · have : c.toNat ≠ 0 := fun e => h0 (UInt8.toNat_inj.1 e)
      simp [h0, this]
  clear hR h
  by_cases hb : d.bad n = 0
  · rw [if_pos hb]
    rw [hb] at CR
    by_cases h0 : c = 0
    · rw [show decide (c = 0) = true from by simp [h0]] at hw
      have hwb : wantB c = zs 512 := if_pos h0
      rw [hwb] at hq ⊢
      clear h0 hb hwb
      go_enter Try.func21, Try.ntmps21
      go_wp2_with fail
      refine CR.out.mono ?_; rintro e w1 ⟨rfl, hw1⟩
      have HA := Lib.hid (Lies.new w1 (zs 512) _ rfl)
      go_wp2_with (with_reducible refine wpList_store_blk (m := R) rfl _ _ rfl rfl rfl HA.out (zs_len 512) HR.out ?_)
      intro w2 hl2 g2
      have b2 : Below w.heap.size w w2 := below_row (Below.alloc hw1 hw1.size _) g2 (by have := hw1.size; simp; omega) hw1.size
      have H2 := Lib.hid hl2
      clear hl2 g2
      go_wp2_with fail
      refine (CB.out _).mono ?_; rintro e w3 ⟨rfl, hw3⟩
      have b3 := chain b2 hw3
      have s3 := H2.out.lt
      have H3 := Lib.hid ((H2.out.below hw3).alloc (.cells (ac (zs 512)) 34))
      have HB := Lib.hid (Lies.new w3 (zs 512) _ rfl)
      have hs3 := hw3.size
      go_wp2_with (with_reducible refine wpList_store_blk (m := mkB c) rfl _ _ rfl rfl rfl HB.out (zs_len 512) (mkB_len c) ?_)
      intro w4 hl4 g4
      have b4 : Below w.heap.size w w4 := below_row (b3.alloc b3.size _) g4 (by have := b3.size; simp; omega) b3.size
      have H4 := Lib.hid (H3.out.but g4 (fun e => by injection e with e; omega))
      have HC := Lib.hid hl4
      clear hl4 g4
      go_wp2_with (with_reducible refine wpList_store_blk (m := zs 512) rfl _ _ rfl rfl rfl HC.out (mkB_len c) (zs_len 512) ?_)
      intro w5 hl5 g5
      have b5 : Below w.heap.size w w5 := below_row b4 g5 b4.size (by have := b3.size; omega)
      have H5 := Lib.hid (H4.out.but g5 (fun e => by injection e with e; omega))
      have HD := Lib.hid hl5
      clear hl5 g5
      go_wp2_with (first | (refine wpList_load_blk_g _ rfl rfl H5.out HR.out (by rfl) ?_) | (refine wpList_load_blk_g _ rfl rfl HD.out (zs_len 512) (by rfl) ?_))
      go_ret
      exact ⟨rfl, b5⟩
    · rw [show decide (c = 0) = false from by simp [h0]] at hw
      have hwb : wantB c = mkB c := if_neg h0
      rw [hwb] at hq ⊢
      clear h0 hb hwb
      go_enter Try.func21, Try.ntmps21
      go_wp2_with fail
      refine CR.out.mono ?_; rintro e w1 ⟨rfl, hw1⟩
      have HA := Lib.hid (Lies.new w1 (zs 512) _ rfl)
      go_wp2_with (with_reducible refine wpList_store_blk (m := R) rfl _ _ rfl rfl rfl HA.out (zs_len 512) HR.out ?_)
      intro w2 hl2 g2
      have b2 : Below w.heap.size w w2 := below_row (Below.alloc hw1 hw1.size _) g2 (by have := hw1.size; simp; omega) hw1.size
      have H2 := Lib.hid hl2
      clear hl2 g2
      go_wp2_with fail
      refine (CB.out _).mono ?_; rintro e w3 ⟨rfl, hw3⟩
      have b3 := chain b2 hw3
      have s3 := H2.out.lt
      have H3 := Lib.hid ((H2.out.below hw3).alloc (.cells (ac (zs 512)) 34))
      have HB := Lib.hid (Lies.new w3 (zs 512) _ rfl)
      have hs3 := hw3.size
      go_wp2_with (with_reducible refine wpList_store_blk (m := mkB c) rfl _ _ rfl rfl rfl HB.out (zs_len 512) (mkB_len c) ?_)
      intro w4 hl4 g4
      have b4 : Below w.heap.size w w4 := below_row (b3.alloc b3.size _) g4 (by have := b3.size; simp; omega) b3.size
      have H4 := Lib.hid (H3.out.but g4 (fun e => by injection e with e; omega))
      have HC := Lib.hid hl4
      clear hl4 g4
      go_wp2_with (first | (refine wpList_load_blk_g _ rfl rfl H4.out HR.out (by rfl) ?_) | (refine wpList_load_blk_g _ rfl rfl HC.out (mkB_len c) (by rfl) ?_))
      go_ret
      exact ⟨rfl, b4⟩
  · rw [if_neg hb]
    have hb' : (d.bad n == 0) = false := by simp [hb]
    generalize d.bad n = E at *
    clear hq hb
    by_cases h0 : c = 0
    · rw [show decide (c = 0) = true from by simp [h0]] at hw
      clear h0
      go_enter Try.func21, Try.ntmps21
      go_wp2_with fail
      refine CR.out.mono ?_; rintro e w1 ⟨rfl, hw1⟩
      have HA := Lib.hid (Lies.new w1 (zs 512) _ rfl)
      go_wp2_with (with_reducible refine wpList_store_blk (m := R) rfl _ _ rfl rfl rfl HA.out (zs_len 512) HR.out ?_)
      intro w2 hl2 g2
      have b2 : Below w.heap.size w w2 := below_row (Below.alloc hw1 hw1.size _) g2 (by have := hw1.size; simp; omega) hw1.size
      clear hl2 g2
      go_wp2_with fail
      refine (CB.out _).mono ?_; rintro e w3 ⟨rfl, hw3⟩
      have b3 := chain b2 hw3
      have HB := Lib.hid (Lies.new w3 (zs 512) _ rfl)
      go_wp2_with (with_reducible refine wpList_store_blk (m := mkB c) rfl _ _ rfl rfl rfl HB.out (zs_len 512) (mkB_len c) ?_)
      intro w4 hl4 g4
      have b4 : Below w.heap.size w w4 := below_row (b3.alloc b3.size _) g4 (by have := b3.size; simp; omega) b3.size
      have HC := Lib.hid hl4
      clear hl4 g4
      go_wp2_with (with_reducible refine wpList_store_blk (m := zs 512) rfl _ _ rfl rfl rfl HC.out (mkB_len c) (zs_len 512) ?_)
      intro w5 hl5 g5
      have b5 : Below w.heap.size w w5 := below_row b4 g5 b4.size (by have := b3.size; omega)
      clear hl5 g5
      go_wp2_with fail
      go_ret
      exact ⟨rfl, b5⟩
    · rw [show decide (c = 0) = false from by simp [h0]] at hw
      clear h0
      go_enter Try.func21, Try.ntmps21
      go_wp2_with fail
      refine CR.out.mono ?_; rintro e w1 ⟨rfl, hw1⟩
      have HA := Lib.hid (Lies.new w1 (zs 512) _ rfl)
      go_wp2_with (with_reducible refine wpList_store_blk (m := R) rfl _ _ rfl rfl rfl HA.out (zs_len 512) HR.out ?_)
      intro w2 hl2 g2
      have b2 : Below w.heap.size w w2 := below_row (Below.alloc hw1 hw1.size _) g2 (by have := hw1.size; simp; omega) hw1.size
      clear hl2 g2
      go_wp2_with fail
      refine (CB.out _).mono ?_; rintro e w3 ⟨rfl, hw3⟩
      have b3 := chain b2 hw3
      have HB := Lib.hid (Lies.new w3 (zs 512) _ rfl)
      go_wp2_with (with_reducible refine wpList_store_blk (m := mkB c) rfl _ _ rfl rfl rfl HB.out (zs_len 512) (mkB_len c) ?_)
      intro w4 hl4 g4
      have b4 : Below w.heap.size w w4 := below_row (b3.alloc b3.size _) g4 (by have := b3.size; simp; omega) b3.size
      have HC := Lib.hid hl4
      clear hl4 g4
      go_wp2_with fail
      go_ret
      exact ⟨rfl, b4⟩
theorem booted_any (rq : Nat → Prop) {fp rp : Nat → Prop} {g : Nat} {d : Dk} (w : World) (h : DiskV w fp rp g d) (hd : d.dead = true) :
    Calls Try.prog 17 #[dptr g] w fun e w' => ∃ c, e = .returned (dptr c) ∧ DiskV w' (fun k => w.heap.size ≤ k) rq c d.boot ∧ Below w.heap.size w w' := by
  have CB := Lib.hid (Boot_any rq w h hd)
  clear h hd
  go_enter Try.func17, Try.ntmps17
  go_wp2_with fail
  refine CB.out.mono ?_; rintro e w1 ⟨c, rfl, hd, hw⟩
  have HD := Lib.hid hd
  have HW := Lib.hid hw
  clear hd hw
  go_wp2_with fail
  go_ret
  exact ⟨c, rfl, HD.out, HW.out⟩
end Go.Proofs.Ytldkokngbnaimaa
