/- A disk whose blocks lie beyond a base: its methods as steps. Conditions: none. -/
import Derived.Test.YtldkokngbnaimaaDskLaw
namespace Go.Proofs.Ytldkokngbnaimaa
set_option linter.unusedVariables false
set_option linter.unusedSimpArgs false
open Go.ChangeShapes Go.WideShapes Go.ChangeAt Go.RowKit

/-- The disk d in block g, all of it at B or beyond. -/
abbrev DV (B : Nat) (w : World) (g : Nat) (d : Dk) : Prop := DiskV w (fun k => B ≤ k) (fun k => B ≤ k) g d
section
variable {B g : Nat} {d : Dk} {w : World}
theorem DV.keep {w' : World} (h : DV B w g d) (hb : Below w.heap.size w w') : DV B w' g d := h.below hb
theorem dv_in {w' : World} {d' : Dk} {g' : Nat} (hB : B ≤ w.heap.size) (h : DiskV w' (fun i => B ≤ i ∨ w.heap.size ≤ i) (fun i => B ≤ i) g' d') : DV B w' g' d' := h.mono (fun k _ hk => hk.elim id (fun hk => Nat.le_trans hB hk)) (fun _ _ h => h)
theorem dv_in2 {w' : World} {d' : Dk} {g' : Nat} (hB : B ≤ w.heap.size) (h : DiskV w' (fun i => B ≤ i) (fun i => B ≤ i ∨ w.heap.size ≤ i) g' d') : DV B w' g' d' := h.mono (fun _ _ h => h) (fun k _ hk => hk.elim id (fun hk => Nat.le_trans hB hk))
theorem new_dv (n : Int) (w : World) (hB : B ≤ w.heap.size) (h1 : 64 ≤ n) (h2 : n ≤ 8192) {d' : Dk} (hd : Dk.new n.toNat = d') :
    Calls Try.prog 10 #[.int .i64 n] w fun e w' => ∃ g, e = .returned (.tuple #[dptr g, .int .i64 0]) ∧ DV B w' g d' ∧ Below B w w' := by
  subst hd
  exact (New_any (fun k => B ≤ k) n w h1 h2).mono fun e w' ⟨he, hd, hb⟩ => ⟨_, he, hd.mono (fun k _ hk => Nat.le_trans hB hk) (fun _ _ h => h), hb.mono hB⟩
theorem write_dv (n : Int) (l : List UInt8) (w : World) (h : DV B w g d) (hB : B ≤ w.heap.size) (hl : l.length = 512) (hs : d.sum + 1 ≤ 1073741824) {E : Int} {d' : Dk} (hE : d.writeE n = E) (hd : d.write n l = d') :
    Calls Try.prog 13 #[dptr g, .int .i64 n, blk l] w fun e w' => e = .returned (.int .i64 E) ∧ DV B w' g d' ∧ Below B w w' := by
  subst hE hd
  exact (Write_any n l w h hl hs).mono fun e w' ⟨he, hd, hg⟩ => ⟨he, dv_in hB hd, hg.below hB (fun _ _ hk => hk)⟩
theorem flush_dv (w : World) (h : DV B w g d) (hB : B ≤ w.heap.size) {E : Int} {d' : Dk} (hE : d.flushE = E) (hd : d.flush = d') :
    Calls Try.prog 12 #[dptr g] w fun e w' => e = .returned (.int .i64 E) ∧ DV B w' g d' ∧ Below B w w' := by
  subst hE hd
  exact (Flush_any w h).mono fun e w' ⟨he, hd, hg⟩ => ⟨he, hd, hg.below hB (fun _ _ hk => hk)⟩
theorem fail_dv (x : Value) (k : List Bool) (w : World) (h : DV B w g d) (hB : B ≤ w.heap.size) (hx : BoolsV w x k) {E : Int} {d' : Dk} (hE : d.failE = E) (hd : d.failD k = d') :
    Calls Try.prog 15 #[dptr g, x] w fun e w' => e = .returned (.int .i64 E) ∧ DV B w' g d' ∧ Below B w w' := by
  subst hE hd
  exact (Fail_any x k w h hx).mono fun e w' ⟨he, hd, hg⟩ => ⟨he, hd, hg.below hB (fun _ _ hk => hk)⟩
theorem cut_dv (n : Int) (x : Value) (k : List Bool) (w : World) (h : DV B w g d) (hB : B ≤ w.heap.size) (hx : BoolsV w x k) (hk : k.length ≤ 140737488355328) (hn : n < 9223372036854775808) {E : Int} {d' : Dk} (hE : d.sayCutE n = E) (hd : d.sayCut n k = d') :
    Calls Try.prog 11 #[dptr g, .int .i64 n, x] w fun e w' => e = .returned (.int .i64 E) ∧ DV B w' g d' ∧ Below B w w' := by
  subst hE hd
  exact (Cut_any n x k w h hx hk hn).mono fun e w' ⟨he, hd, hg⟩ => ⟨he, dv_in2 hB hd, hg.below hB (fun _ _ hk => hk)⟩
theorem read_dv (n : Int) (w : World) (h : DV B w g d) (hB : B ≤ w.heap.size) (hn : (Lit.int .i64 n).wf = true) {E : Int} {R : List UInt8} (hE : d.bad n = E) (hR : d.read n = R) :
    Calls Try.prog 18 #[dptr g, .int .i64 n] w fun e w' => e = .returned (.tuple #[blk R, .int .i64 E]) ∧ DV B w' g d ∧ Below B w w' := by
  subst hE hR
  exact (Read_any n w h hn).mono fun e w' ⟨he, hb⟩ => ⟨he, h.keep hb, hb.mono hB⟩
theorem is_dv (n : Int) (c : UInt8) (C : Int) (hC : (c.toNat : Int) = C) (w : World) (h : DV B w g d) (hB : B ≤ w.heap.size) (hn : (Lit.int .i64 n).wf = true) {r : Bool} (hr : (decide (d.bad n = 0) && (d.read n == wantB c)) = r) :
    Calls Try.prog 21 #[dptr g, .int .i64 n, .int .u8 C] w fun e w' => e = .returned (.bool r) ∧ DV B w' g d ∧ Below B w w' := by
  subst hr hC
  exact (is_any n c w h hn).mono fun e w' ⟨he, hb⟩ => ⟨he, h.keep hb, hb.mono hB⟩
theorem block_dv (c : UInt8) (C : Int) (hC : (c.toNat : Int) = C) (w : World) (h : DV B w g d) (hB : B ≤ w.heap.size) : Calls Try.prog 14 #[.int .u8 C] w fun e w' => e = .returned (blk (mkB c)) ∧ DV B w' g d ∧ Below B w w' := by
  subst hC
  exact (block_any c w).mono fun e w' ⟨he, hb⟩ => ⟨he, h.keep hb, hb.mono hB⟩
theorem waiting_dv (w : World) (h : DV B w g d) {n : Int} (hn : (d.wait.length : Int) = n) : Calls Try.prog 19 #[dptr g] w fun e w' => e = .returned (.int .i64 n) ∧ DV B w' g d ∧ Below B w w' := by
  subst hn
  exact (Waiting_any w h).mono fun e w' ⟨he, hb⟩ => by subst hb; exact ⟨he, h, Below.refl _ _⟩
theorem dead_dv (w : World) (h : DV B w g d) {r : Bool} (hr : d.dead = r) : Calls Try.prog 16 #[dptr g] w fun e w' => e = .returned (.bool r) ∧ DV B w' g d ∧ Below B w w' := by
  subst hr
  exact (Dead_any w h).mono fun e w' ⟨he, hb⟩ => by subst hb; exact ⟨he, h, Below.refl _ _⟩
theorem blocks_dv (w : World) (h : DV B w g d) {n : Int} (hn : (d.blocks : Int) = n) : Calls Try.prog 23 #[dptr g] w fun e w' => e = .returned (.int .i64 n) ∧ DV B w' g d ∧ Below B w w' := by
  subst hn
  exact (Blocks_any w h).mono fun e w' ⟨he, hb⟩ => by subst hb; exact ⟨he, h, Below.refl _ _⟩
theorem booted_dv (w : World) (h : DV B w g d) (hB : B ≤ w.heap.size) (hd : d.dead = true) {d' : Dk} (hd' : d.boot = d') : Calls Try.prog 17 #[dptr g] w fun e w' => ∃ c, e = .returned (dptr c) ∧ DV B w' c d' ∧ Below B w w' := by
  subst hd'
  exact (booted_any (fun k => B ≤ k) w h hd).mono fun e w' ⟨c, he, hc, hb⟩ => ⟨c, he, hc.mono (fun k _ hk => Nat.le_trans hB hk) (fun _ _ h => h), hb.mono hB⟩
theorem DV.alloc (h : DV B w g d) (o : Obj) : DV B (w.alloc o) g d := DiskV.alloc h o
end
theorem BoolsV.lit (w : World) (k : List Bool) (cs : Array Value) (hc : cs = (k.map Value.bool).toArray) (hk : k.length ≤ maxLen) (n : Nat) (hn : n = k.length) : BoolsV (w.alloc (.cells cs 4)) (.slice (some ⟨w.heap.size, 0, none⟩) n n) k := by
  subst hc hn
  refine ⟨_, k.length, rfl, Nat.le_refl _, hk, fun e => (by cases e), fun h0 => ⟨w.heap.size, 0, rfl, by simp, fun j hj => ?_⟩⟩
  rw [cell_of_row _ _ (0 + j) _ _ _ (heap_alloc_new w _)]
  simp [hj]
end Go.Proofs.Ytldkokngbnaimaa
