/- A disk whose blocks lie beyond a base: its methods as steps. Conditions: none. -/
import Derived.Test.YteoomhkdffnkkaaDskLaw
namespace Go.Proofs.Yteoomhkdffnkkaa
set_option linter.unusedVariables false
set_option linter.unusedSimpArgs false
open Go.ChangeShapes Go.WideShapes Go.ChangeAt Go.RowKit
set_option maxRecDepth 100000

/-- The disk d in block g, all of it at B or beyond. -/
abbrev DV (B : Nat) (w : World) (g : Nat) (d : Dk) : Prop := DiskV w (fun k => B ≤ k) (fun k => B ≤ k) g d
section
variable {B g : Nat} {d : Dk} {w : World}
theorem DV.keep {w' : World} (h : DV B w g d) (hb : Below w.heap.size w w') : DV B w' g d := h.below hb
theorem dv_in {w' : World} {d' : Dk} {g' : Nat} (hB : B ≤ w.heap.size) (h : DiskV w' (fun i => B ≤ i ∨ w.heap.size ≤ i) (fun i => B ≤ i) g' d') : DV B w' g' d' := h.mono (fun k _ hk => hk.elim id (fun hk => Nat.le_trans hB hk)) (fun _ _ h => h)
theorem dv_in2 {w' : World} {d' : Dk} {g' : Nat} (hB : B ≤ w.heap.size) (h : DiskV w' (fun i => B ≤ i) (fun i => B ≤ i ∨ w.heap.size ≤ i) g' d') : DV B w' g' d' := h.mono (fun _ _ h => h) (fun k _ hk => hk.elim id (fun hk => Nat.le_trans hB hk))
theorem new_dv (n : Int) (w : World) (hB : B ≤ w.heap.size) (h1 : 64 ≤ n) (h2 : n ≤ 8192) {d' : Dk} (hd : Dk.new n.toNat = d') :
    Calls Try.prog 20 #[.int .i64 n] w fun e w' => ∃ g, e = .returned (.tuple #[dptr g, .int .i64 0]) ∧ DV B w' g d' ∧ Below B w w' := by
  subst hd
  exact (New_any (fun k => B ≤ k) n w h1 h2).mono fun e w' ⟨he, hd, hb⟩ => ⟨_, he, hd.mono (fun k _ hk => Nat.le_trans hB hk) (fun _ _ h => h), hb.mono hB⟩
theorem write_dv (n : Int) (l : List UInt8) (w : World) (h : DV B w g d) (hB : B ≤ w.heap.size) (hl : l.length = 512) (hs : d.sum + 1 ≤ 1073741824) {E : Int} {d' : Dk} (hE : d.writeE n = E) (hd : d.write n l = d') :
    Calls Try.prog 23 #[dptr g, .int .i64 n, blk l] w fun e w' => e = .returned (.int .i64 E) ∧ DV B w' g d' ∧ Below B w w' := by
  subst hE hd
  exact (Write_any n l w h hl hs).mono fun e w' ⟨he, hd, hg⟩ => ⟨he, dv_in hB hd, hg.below hB (fun _ _ hk => hk)⟩
theorem flush_dv (w : World) (h : DV B w g d) (hB : B ≤ w.heap.size) {E : Int} {d' : Dk} (hE : d.flushE = E) (hd : d.flush = d') :
    Calls Try.prog 26 #[dptr g] w fun e w' => e = .returned (.int .i64 E) ∧ DV B w' g d' ∧ Below B w w' := by
  subst hE hd
  exact (Flush_any w h).mono fun e w' ⟨he, hd, hg⟩ => ⟨he, hd, hg.below hB (fun _ _ hk => hk)⟩
theorem fail_dv (x : Value) (k : List Bool) (w : World) (h : DV B w g d) (hB : B ≤ w.heap.size) (hx : BoolsV w x k) {E : Int} {d' : Dk} (hE : d.failE = E) (hd : d.failD k = d') :
    Calls Try.prog 25 #[dptr g, x] w fun e w' => e = .returned (.int .i64 E) ∧ DV B w' g d' ∧ Below B w w' := by
  subst hE hd
  exact (Fail_any x k w h hx).mono fun e w' ⟨he, hd, hg⟩ => ⟨he, hd, hg.below hB (fun _ _ hk => hk)⟩
theorem cut_dv (n : Int) (x : Value) (k : List Bool) (w : World) (h : DV B w g d) (hB : B ≤ w.heap.size) (hx : BoolsV w x k) (hk : k.length ≤ 140737488355328) (hn : n < 9223372036854775808) {E : Int} {d' : Dk} (hE : d.sayCutE n = E) (hd : d.sayCut n k = d') :
    Calls Try.prog 31 #[dptr g, .int .i64 n, x] w fun e w' => e = .returned (.int .i64 E) ∧ DV B w' g d' ∧ Below B w w' := by
  subst hE hd
  exact (Cut_any n x k w h hx hk hn).mono fun e w' ⟨he, hd, hg⟩ => ⟨he, dv_in2 hB hd, hg.below hB (fun _ _ hk => hk)⟩
theorem read_dv (n : Int) (w : World) (h : DV B w g d) (hB : B ≤ w.heap.size) (hn : (Lit.int .i64 n).wf = true) {E : Int} {R : List UInt8} (hE : d.bad n = E) (hR : d.read n = R) :
    Calls Try.prog 51 #[dptr g, .int .i64 n] w fun e w' => e = .returned (.tuple #[blk R, .int .i64 E]) ∧ DV B w' g d ∧ Below B w w' := by
  subst hE hR
  exact (Read_any n w h hn).mono fun e w' ⟨he, hb⟩ => ⟨he, h.keep hb, hb.mono hB⟩
theorem DV.alloc (h : DV B w g d) (o : Obj) : DV B (w.alloc o) g d := DiskV.alloc h o
end
theorem BoolsV.lit (w : World) (k : List Bool) (cs : Array Value) (hc : cs = (k.map Value.bool).toArray) (hk : k.length ≤ maxLen) (n : Nat) (hn : n = k.length) : BoolsV (w.alloc (.cells cs 4)) (.slice (some ⟨w.heap.size, 0, none⟩) n n) k := by
  subst hc hn
  refine ⟨_, k.length, rfl, Nat.le_refl _, hk, fun e => (by cases e), fun h0 => ⟨w.heap.size, 0, rfl, by simp, fun j hj => ?_⟩⟩
  rw [cell_of_row _ _ (0 + j) _ _ _ (heap_alloc_new w _)]
  simp [hj]
end Go.Proofs.Yteoomhkdffnkkaa
