/- Many disks, each apart from the others, and blocks of the law's own beside them. Conditions: none. -/
import Derived.Test.YteoomhkdffnkkaaDskDV
namespace Go.Proofs.Yteoomhkdffnkkaa
set_option linter.unusedVariables false
set_option linter.unusedSimpArgs false
open Go.ChangeShapes Go.WideShapes Go.ChangeAt Go.RowKit
set_option maxRecDepth 100000

/-- The blocks of colour i. -/
def Col (B : Nat) (w : World) (col : Nat → Nat) (i : Nat) : Nat → Prop := fun k => B ≤ k ∧ k < w.heap.size ∧ col k = i
/-- The disks of a list (number, block, disk) stand, each in blocks of its own; the blocks 'own' are the law's. (0: what cuts keep, 1: the law's.) -/
def Many (B : Nat) (own : List Nat) (w : World) (l : List (Nat × Nat × Dk)) : Prop :=
  ∃ col : Nat → Nat, (∀ k ∈ own, col k = 1 ∧ k < w.heap.size) ∧ ∀ x ∈ l, 2 ≤ x.1 ∧ DiskV w (Col B w col x.1) (Col B w col 0) x.2.1 x.2.2
/-- The law's own blocks are as they were. -/
def Same (own : List Nat) (w w' : World) : Prop := ∀ k ∈ own, w'.heap[k]? = w.heap[k]?
section
variable {B : Nat} {own own' : List Nat} {w w' : World} {l l' : List (Nat × Nat × Dk)} {i g : Nat} {d d' : Dk}
theorem Same.trans {w2 : World} (h : Same own w w') (k : Same own w' w2) : Same own w w2 := fun i hi => (k i hi).trans (h i hi)
theorem Same.refl (own : List Nat) (w : World) : Same own w w := fun _ _ => rfl
theorem Many.none (B : Nat) (w : World) : Many B [] w [] := ⟨fun _ => 1, by simp, by simp⟩
theorem Many.sub (h : Many B own w l) (ho : ∀ k ∈ own', k ∈ own) (hl : ∀ x ∈ l', x ∈ l) : Many B own' w l' := by
  obtain ⟨col, h1, h2⟩ := h
  exact ⟨col, fun k hk => h1 k (ho k hk), fun x hx => h2 x (hl x hx)⟩
theorem Many.swap {x y : Nat × Nat × Dk} (h : Many B own w (x :: y :: l)) : Many B own w (y :: x :: l) := h.sub (fun _ h => h) (fun z hz => by
  rcases List.mem_cons.1 hz with rfl | hz
  · simp
  · rcases List.mem_cons.1 hz with rfl | hz
    · simp
    · simp [hz])
theorem Many.rest {x : Nat × Nat × Dk} (h : Many B own w (x :: l)) : Many B own w l := h.sub (fun _ h => h) (fun z hz => by simp [hz])
def recol (w : World) (col : Nat → Nat) (j : Nat) : Nat → Nat := fun k => if k < w.heap.size then col k else j
theorem recol_old {w : World} {col : Nat → Nat} {j k : Nat} (h : k < w.heap.size) : recol w col j k = col k := if_pos h
theorem recol_new {w : World} {col : Nat → Nat} {j k : Nat} (h : w.heap.size ≤ k) : recol w col j k = j := if_neg (by omega)
theorem col_in {col : Nat → Nat} {i j : Nat} (hs : w.heap.size ≤ w'.heap.size) : ∀ k, k < w.heap.size → Col B w col i k → Col B w' (recol w col j) i k := fun k hk ⟨h1, h2, h3⟩ => ⟨h1, by omega, (recol_old hk).trans h3⟩
/-- Blocks are made, none of the disks' turns. -/
theorem Many.grow (h : Many B own w l) (hb : Below w.heap.size w w') (ho : ∀ k ∈ own', k ∈ own ∨ (w.heap.size ≤ k ∧ k < w'.heap.size)) : Many B own' w' l := by
  obtain ⟨col, h1, h2⟩ := h
  refine ⟨recol w col 1, fun k hk => ?_, fun x hx => ⟨(h2 x hx).1, ?_⟩⟩
  · rcases ho k hk with hk | ⟨hk, hk'⟩
    · exact ⟨(recol_old (h1 k hk).2).trans (h1 k hk).1, Nat.lt_of_lt_of_le (h1 k hk).2 hb.size⟩
    · exact ⟨recol_new hk, hk'⟩
  · exact ((h2 x hx).2.mono (col_in hb.size) (col_in hb.size)).stay (fun k hk _ => hb.block k hk)
theorem Many.below (h : Many B own w l) (hb : Below w.heap.size w w') : Many B own w' l := h.grow hb (fun k hk => .inl hk)
theorem Many.alloc (h : Many B own w l) (o : Obj) : Many B own (w.alloc o) l := h.below ((Below.refl _ _).alloc (Nat.le_refl _) _)
theorem Many.drew (h : Many B own w l) : Many B own w.drew l := h.below (Below.refl _ _).drew
theorem Many.mine (h : Many B own w l) (o : Obj) : Many B (w.heap.size :: own) (w.alloc o) l := h.grow ((Below.refl _ _).alloc (Nat.le_refl _) _) (fun k hk => by
  rcases List.mem_cons.1 hk with rfl | hk
  · exact .inr ⟨Nat.le_refl _, by simp⟩
  · exact .inl hk)
/-- A block of the law's own is written. -/
theorem Many.own_set (h : Many B own w l) {b : Nat} (hb : b ∈ own) (hg : w.grownBy w' (some b)) : Many B own w' l := by
  obtain ⟨col, h1, h2⟩ := h
  refine ⟨recol w col 1, fun k hk => ⟨(recol_old (h1 k hk).2).trans (h1 k hk).1, Nat.lt_of_lt_of_le (h1 k hk).2 hg.size⟩, fun x hx => ⟨(h2 x hx).1, ?_⟩⟩
  refine ((h2 x hx).2.mono (col_in hg.size) (col_in hg.size)).stay (fun k hk hc => hg.block k hk (fun e => ?_))
  injection e with e
  subst e
  have := (h1 k hb).1
  have h2' := (h2 x hx).1
  rcases hc with ⟨_, _, hc⟩ | ⟨_, _, hc⟩ <;> (rw [recol_old hk] at hc; omega)
/-- The others, and the law's own blocks, while disk i is at work; its new blocks bear colour j (its own, or 0). -/
theorem Many.step {col : Nat → Nat} (h1 : ∀ k ∈ own, col k = 1 ∧ k < w.heap.size) (h2 : ∀ x ∈ (i, g, d) :: l, 2 ≤ x.1 ∧ DiskV w (Col B w col x.1) (Col B w col 0) x.2.1 x.2.2) (hr : ∀ x ∈ l, x.1 ≠ i) (hB : B ≤ w.heap.size)
    (hg : GrownIn w w' (Col B w col i)) (hd' : DiskV w' (fun k => Col B w col i k ∨ w.heap.size ≤ k) (Col B w col 0) g d' ∨ DiskV w' (Col B w col i) (fun k => Col B w col 0 k ∨ w.heap.size ≤ k) g d') :
    Many B own w' ((i, g, d') :: l) ∧ Below B w w' ∧ Same own w w' := by
  obtain ⟨hi, hd⟩ := h2 (i, g, d) (by simp)
  have hi' : 2 ≤ i := hi
  have others : ∀ j : Nat, ∀ x ∈ l, 2 ≤ x.1 ∧ DiskV w' (Col B w' (recol w col j) x.1) (Col B w' (recol w col j) 0) x.2.1 x.2.2 := fun j x hx => by
    obtain ⟨hx1, hx2⟩ := h2 x (by simp [hx])
    refine ⟨hx1, (hx2.mono (col_in hg.size) (col_in hg.size)).stay (fun k hk hc => hg.block k hk (fun ⟨_, _, e⟩ => ?_))⟩
    have hne := hr x hx
    rcases hc with ⟨_, _, hc⟩ | ⟨_, _, hc⟩ <;> (rw [recol_old hk] at hc; omega)
  refine ⟨?_, hg.below hB (fun k _ hk => hk.1), fun k hk => hg.block k (h1 k hk).2 (fun ⟨_, _, e⟩ => by have := (h1 k hk).1; omega)⟩
  rcases hd' with hd' | hd'
  · refine ⟨recol w col i, fun k hk => ⟨(recol_old (h1 k hk).2).trans (h1 k hk).1, Nat.lt_of_lt_of_le (h1 k hk).2 hg.size⟩, fun x hx => ?_⟩
    rcases List.mem_cons.1 hx with rfl | hx
    · refine ⟨hi, hd'.mono (fun k hk hc => ?_) (fun k hk ⟨c1, c2, c3⟩ => ⟨c1, hk, (recol_old c2).trans c3⟩)⟩
      rcases hc with ⟨c1, c2, c3⟩ | hc
      · exact ⟨c1, hk, (recol_old c2).trans c3⟩
      · exact ⟨by omega, hk, recol_new hc⟩
    · exact others i x hx
  · refine ⟨recol w col 0, fun k hk => ⟨(recol_old (h1 k hk).2).trans (h1 k hk).1, Nat.lt_of_lt_of_le (h1 k hk).2 hg.size⟩, fun x hx => ?_⟩
    rcases List.mem_cons.1 hx with rfl | hx
    · refine ⟨hi, hd'.mono (fun k hk ⟨c1, c2, c3⟩ => ⟨c1, hk, (recol_old c2).trans c3⟩) (fun k hk hc => ?_)⟩
      rcases hc with ⟨c1, c2, c3⟩ | hc
      · exact ⟨c1, hk, (recol_old c2).trans c3⟩
      · exact ⟨by omega, hk, recol_new hc⟩
    · exact others 0 x hx
/-- A disk comes anew, all of it in new blocks. -/
theorem Many.more (h : Many B own w l) (j : Nat) (hj : 2 ≤ j) (hl : ∀ x ∈ l, x.1 ≠ j) (hB : B ≤ w.heap.size) (hb : Below w.heap.size w w') {c : Nat} (hnew : ∀ col : Nat → Nat, (∀ x ∈ l, DiskV w (Col B w col x.1) (Col B w col 0) x.2.1 x.2.2) → DiskV w' (fun k => w.heap.size ≤ k) (Col B w col 0) c d') :
    Many B own w' ((j, c, d') :: l) := by
  obtain ⟨col, h1, h2⟩ := h
  refine ⟨recol w col j, fun k hk => ⟨(recol_old (h1 k hk).2).trans (h1 k hk).1, Nat.lt_of_lt_of_le (h1 k hk).2 hb.size⟩, fun x hx => ?_⟩
  rcases List.mem_cons.1 hx with rfl | hx
  · exact ⟨hj, (hnew col (fun x hx => (h2 x hx).2)).mono (fun k hk hc => ⟨by omega, hk, recol_new hc⟩) (fun k hk ⟨c1, c2, c3⟩ => ⟨c1, hk, (recol_old c2).trans c3⟩)⟩
  · exact ⟨(h2 x hx).1, ((h2 x hx).2.mono (col_in hb.size) (col_in hb.size)).stay (fun k hk _ => hb.block k hk)⟩
theorem Many.get (h : Many B own w l) {x : Nat × Nat × Dk} (hx : x ∈ l) : ∃ fp rp, DiskV w fp rp x.2.1 x.2.2 := by obtain ⟨col, _, h2⟩ := h; exact ⟨_, _, (h2 x hx).2⟩
theorem Many.ok (h : Many B own w l) {x : Nat × Nat × Dk} (hx : x ∈ l) : x.2.2.Ok := by obtain ⟨_, _, h⟩ := h.get hx; exact h.ok
theorem Same.below (hb : Below w.heap.size w w') (h : Many B own w l) : Same own w w' := by
  obtain ⟨col, h1, _⟩ := h
  exact fun k hk => hb.block k (h1 k hk).2
end

section
variable {B : Nat} {own : List Nat} {w : World} {l : List (Nat × Nat × Dk)} {i g : Nat} {d : Dk}
theorem write_m (n : Int) (b : List UInt8) (w : World) (h : Many B own w ((i, g, d) :: l)) (hr : ∀ x ∈ l, x.1 ≠ i) (hB : B ≤ w.heap.size) (hb : b.length = 512) (hs : d.sum + 1 ≤ 1073741824) {E : Int} {d' : Dk} (hE : d.writeE n = E) (hd : d.write n b = d') :
    Calls Try.prog 23 #[dptr g, .int .i64 n, blk b] w fun e w' => e = .returned (.int .i64 E) ∧ Many B own w' ((i, g, d') :: l) ∧ Below B w w' ∧ Same own w w' := by
  subst hE hd
  obtain ⟨col, h1, h2⟩ := h
  exact (Write_any n b w (h2 (i, g, d) (by simp)).2 hb hs).mono fun e w' ⟨he, hd, hg⟩ => ⟨he, Many.step h1 h2 hr hB hg (.inl hd)⟩
theorem flush_m (w : World) (h : Many B own w ((i, g, d) :: l)) (hr : ∀ x ∈ l, x.1 ≠ i) (hB : B ≤ w.heap.size) {E : Int} {d' : Dk} (hE : d.flushE = E) (hd : d.flush = d') :
    Calls Try.prog 26 #[dptr g] w fun e w' => e = .returned (.int .i64 E) ∧ Many B own w' ((i, g, d') :: l) ∧ Below B w w' ∧ Same own w w' := by
  subst hE hd
  obtain ⟨col, h1, h2⟩ := h
  exact (Flush_any w (h2 (i, g, d) (by simp)).2).mono fun e w' ⟨he, hd, hg⟩ => ⟨he, Many.step h1 h2 hr hB hg (.inl (hd.mono (fun _ _ h => .inl h) (fun _ _ h => h)))⟩
theorem fail_m (x : Value) (k : List Bool) (w : World) (h : Many B own w ((i, g, d) :: l)) (hr : ∀ x ∈ l, x.1 ≠ i) (hB : B ≤ w.heap.size) (hx : BoolsV w x k) {E : Int} {d' : Dk} (hE : d.failE = E) (hd : d.failD k = d') :
    Calls Try.prog 25 #[dptr g, x] w fun e w' => e = .returned (.int .i64 E) ∧ Many B own w' ((i, g, d') :: l) ∧ Below B w w' ∧ Same own w w' := by
  subst hE hd
  obtain ⟨col, h1, h2⟩ := h
  exact (Fail_any x k w (h2 (i, g, d) (by simp)).2 hx).mono fun e w' ⟨he, hd, hg⟩ => ⟨he, Many.step h1 h2 hr hB hg (.inl (hd.mono (fun _ _ h => .inl h) (fun _ _ h => h)))⟩
theorem cut_m (n : Int) (x : Value) (k : List Bool) (w : World) (h : Many B own w ((i, g, d) :: l)) (hr : ∀ x ∈ l, x.1 ≠ i) (hB : B ≤ w.heap.size) (hx : BoolsV w x k) (hk : k.length ≤ 140737488355328) (hn : n < 9223372036854775808) {E : Int} {d' : Dk} (hE : d.sayCutE n = E) (hd : d.sayCut n k = d') :
    Calls Try.prog 31 #[dptr g, .int .i64 n, x] w fun e w' => e = .returned (.int .i64 E) ∧ Many B own w' ((i, g, d') :: l) ∧ Below B w w' ∧ Same own w w' := by
  subst hE hd
  obtain ⟨col, h1, h2⟩ := h
  exact (Cut_any n x k w (h2 (i, g, d) (by simp)).2 hx hk hn).mono fun e w' ⟨he, hd, hg⟩ => ⟨he, Many.step h1 h2 hr hB hg (.inr hd)⟩
theorem quiet_m {w' : World} (h : Many B own w l) (hB : B ≤ w.heap.size) (hb : Below w.heap.size w w') : Many B own w' l ∧ Below B w w' ∧ Same own w w' := ⟨h.below hb, hb.mono hB, Same.below hb h⟩
theorem read_m (n : Int) (w : World) (h : Many B own w l) (hm : (i, g, d) ∈ l) (hB : B ≤ w.heap.size) (hn : (Lit.int .i64 n).wf = true) {E : Int} {R : List UInt8} (hE : d.bad n = E) (hR : d.read n = R) :
    Calls Try.prog 51 #[dptr g, .int .i64 n] w fun e w' => e = .returned (.tuple #[blk R, .int .i64 E]) ∧ Many B own w' l ∧ Below B w w' ∧ Same own w w' := by
  subst hE hR
  obtain ⟨fp, rp, h0⟩ := h.get hm
  exact (Read_any n w h0 hn).mono fun e w' ⟨he, hb⟩ => ⟨he, quiet_m h hB hb⟩
theorem read_q (n : Int) (w : World) (h : Many B own w l) (hm : (i, g, d) ∈ l) (hn : (Lit.int .i64 n).wf = true) {E : Int} {R : List UInt8} (hE : d.bad n = E) (hR : d.read n = R) :
    Calls Try.prog 51 #[dptr g, .int .i64 n] w fun e w' => e = .returned (.tuple #[blk R, .int .i64 E]) ∧ Many B own w' l ∧ Below w.heap.size w w' := by
  subst hE hR
  obtain ⟨fp, rp, h0⟩ := h.get hm
  exact (Read_any n w h0 hn).mono fun e w' ⟨he, hb⟩ => ⟨he, h.below hb, hb⟩
theorem new_m (j : Nat) (n : Int) (w : World) (h : Many B own w l) (hj : 2 ≤ j) (hl : ∀ x ∈ l, x.1 ≠ j) (hB : B ≤ w.heap.size) (h1 : 64 ≤ n) (h2 : n ≤ 8192) {d' : Dk} (hd : Dk.new n.toNat = d') :
    Calls Try.prog 20 #[.int .i64 n] w fun e w' => ∃ g, e = .returned (.tuple #[dptr g, .int .i64 0]) ∧ Many B own w' ((j, g, d') :: l) ∧ Below B w w' ∧ Same own w w' := by
  subst hd
  obtain ⟨col, k1, k2⟩ := id h
  exact (New_any (fun _ => False) n w h1 h2).mono fun e w' ⟨he, hd, hb⟩ => ⟨_, he, h.more j hj hl hB hb (fun col _ => hd.mono (fun _ _ h => h) (fun _ _ h => h.elim)), hb.mono hB, Same.below hb h⟩
theorem boot_m (j : Nat) (w : World) (h : Many B own w l) (hm : (i, g, d) ∈ l) (hj : 2 ≤ j) (hl : ∀ x ∈ l, x.1 ≠ j) (hB : B ≤ w.heap.size) (hd : d.dead = true) {d' : Dk} (hd' : d.boot = d') :
    Calls Try.prog 34 #[dptr g] w fun e w' => ∃ c, e = .returned (.tuple #[dptr c, .int .i64 0]) ∧ Many B own w' ((j, c, d') :: l) ∧ Below B w w' ∧ Same own w w' := by
  subst hd'
  obtain ⟨fp, rp, h0⟩ := h.get hm
  exact (Boot_any (fun _ => False) w h0 hd).mono fun e w' ⟨c, he, hc, hb⟩ => ⟨c, he, h.more j hj hl hB hb (fun col _ => hc.mono (fun _ _ h => h) (fun _ _ h => h.elim)), hb.mono hB, Same.below hb h⟩
theorem copy_m (j : Nat) (w : World) (h : Many B own w l) (hm : (i, g, d) ∈ l) (hj : 2 ≤ j) (hl : ∀ x ∈ l, x.1 ≠ j) (hB : B ≤ w.heap.size) :
    Calls Try.prog 38 #[dptr g] w fun e w' => ∃ c, e = .returned (dptr c) ∧ Many B own w' ((j, c, d) :: l) ∧ Below B w w' ∧ Same own w w' := by
  obtain ⟨col, h1, h2⟩ := id h
  refine (Copy_any w (h2 (i, g, d) hm).2).mono fun e w' ⟨c, he, _, hc, hb⟩ => ⟨c, he, ?_, hb.mono hB, Same.below hb h⟩
  refine ⟨recol w col j, fun k hk => ⟨(recol_old (h1 k hk).2).trans (h1 k hk).1, Nat.lt_of_lt_of_le (h1 k hk).2 hb.size⟩, fun x hx => ?_⟩
  rcases List.mem_cons.1 hx with rfl | hx
  · exact ⟨hj, hc.mono (fun k hk hc => ⟨by omega, hk, recol_new hc⟩) (fun k hk ⟨c1, c2, c3⟩ => ⟨c1, hk, (recol_old c2).trans c3⟩)⟩
  · exact ⟨(h2 x hx).1, ((h2 x hx).2.mono (col_in hb.size) (col_in hb.size)).stay (fun k hk _ => hb.block k hk)⟩
end
end Go.Proofs.Yteoomhkdffnkkaa
