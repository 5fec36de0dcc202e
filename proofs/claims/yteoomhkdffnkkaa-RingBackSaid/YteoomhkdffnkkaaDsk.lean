/- A disk in memory: its own cells, the map of its blocks, the writes that wait, what a cut keeps; and what a disk is in plain Lean. Conditions: none. -/
import Derived.Test.YteoomhkdffnkkaaArr
import Derived.Maps.Own
import Derived.Great.BuildSlice
import Derived.Deep.MidRow
import Derived.RangeFuncBox
namespace Go.Proofs.Yteoomhkdffnkkaa
set_option linter.unusedVariables false
set_option linter.unusedSimpArgs false
open Go.ChangeShapes Go.WideShapes Go.ChangeAt Go.RowKit

abbrev Wr := Int × List UInt8
/-- A disk. (many: a bound on what its map holds.) -/
structure Dk where
  blocks : Nat
  on : Int → List UInt8
  many : Nat
  wait : List Wr
  cut : Nat
  keep : List Bool
  dead : Bool

namespace Dk
def put (f : Int → List UInt8) (p : Wr) : Int → List UInt8 := fun i => if i = p.1 then p.2 else f i
def lay (f : Int → List UInt8) : List Wr → Int → List UInt8
  | [] => f
  | p :: l => lay (put f p) l
def kept : List Wr → List Bool → List Wr
  | p :: l, b :: k => if b then p :: kept l k else kept l k
  | _, _ => []
def new (n : Nat) : Dk := ⟨n, fun _ => zs 512, 0, [], 0, [], false⟩
def bad (d : Dk) (n : Int) : Int := if d.dead then 51 else if n < 0 ∨ (d.blocks : Int) ≤ n then 1 else 0
def look (d : Dk) (n : Int) : List UInt8 := lay d.on d.wait n
def fail (d : Dk) (k : List Bool) : Dk := { d with on := lay d.on (kept d.wait k), many := d.many + d.wait.length, wait := [], cut := 0, keep := [], dead := true }
def tick (d : Dk) : Dk := { d with cut := d.cut - 1 }
def add (d : Dk) (p : Wr) : Dk := { d with wait := d.wait ++ [p] }
def settle (d : Dk) : Dk := { d with on := lay d.on d.wait, many := d.many + d.wait.length, wait := [] }
def write (d : Dk) (n : Int) (b : List UInt8) : Dk := if d.bad n = 0 then (if d.cut = 1 then ((d.add (n, b)).tick).fail d.keep else (d.add (n, b)).tick) else d
def writeE (d : Dk) (n : Int) : Int := if d.bad n = 0 then (if d.cut = 1 then 51 else 0) else d.bad n
def flush (d : Dk) : Dk := if d.dead then d else if d.cut = 1 then d.tick.fail d.keep else d.tick.settle
def flushE (d : Dk) : Int := if d.dead then 51 else if d.cut = 1 then 51 else 0
def sayCut (d : Dk) (n : Int) (k : List Bool) : Dk := if d.dead then d else if n < 0 then d else { d with cut := n.toNat, keep := k }
def sayCutE (d : Dk) (n : Int) : Int := if d.dead then 51 else if n < 0 then 1 else 0
def failD (d : Dk) (k : List Bool) : Dk := if d.dead then d else d.fail k
def failE (d : Dk) : Int := if d.dead then 51 else 0
def boot (d : Dk) : Dk := { d with wait := [], cut := 0, keep := [], dead := false }
def read (d : Dk) (n : Int) : List UInt8 := if d.bad n = 0 then d.look n else zs 512
/-- How much was ever written, at most. -/
def sum (d : Dk) : Nat := d.many + d.wait.length
structure Ok (d : Dk) : Prop where
  on : ∀ n, (d.on n).length = 512
  wait : ∀ p ∈ d.wait, p.2.length = 512 ∧ 0 ≤ p.1 ∧ p.1 < 9223372036854775808
  blocks : d.blocks ≤ 8192
  cut : d.cut ≤ 9223372036854775807
  sum : d.sum ≤ 1073741824
  keep : d.keep.length ≤ 9223372036854775807

theorem lay_snoc (f : Int → List UInt8) (p : Wr) : ∀ l : List Wr, lay f (l ++ [p]) = put (lay f l) p
  | [] => rfl
  | q :: l => lay_snoc (put f q) p l
theorem lay_len {l : List Wr} : ∀ {f : Int → List UInt8}, (∀ n, (f n).length = 512) → (∀ p ∈ l, p.2.length = 512) → ∀ n, (lay f l n).length = 512 := by
  induction l with
  | nil => intro f h _; exact h
  | cons p l ih =>
    intro f h hl
    refine ih (fun n => ?_) (fun q hq => hl q (by simp [hq]))
    unfold put
    split
    · exact hl p (by simp)
    · exact h n
theorem kept_sub : ∀ {l : List Wr} {k : List Bool} {p : Wr}, p ∈ kept l k → p ∈ l
  | [], _, _, h => by simp [kept] at h
  | q :: l, [], _, h => by simp [kept] at h
  | q :: l, b :: k, p, h => by
    unfold kept at h
    split at h
    · rcases List.mem_cons.1 h with rfl | h
      · simp
      · simp [kept_sub h]
    · simp [kept_sub h]
theorem kept_snoc (p : Wr) : ∀ (l : List Wr) (k : List Bool), kept (l ++ [p]) k = kept l k ++ (if (k[l.length]?).getD false then [p] else [])
  | [], [] => by simp [kept]
  | [], b :: k => by cases b <;> simp [kept]
  | q :: l, [] => by simp [kept]
  | q :: l, b :: k => by
    have ih := kept_snoc p l k
    cases b <;> simp [kept, ih]
theorem Ok.new {n : Nat} (h : n ≤ 8192) : (Dk.new n).Ok := ⟨by simp [Dk.new], by simp [Dk.new], h, by simp [Dk.new], by simp [Dk.new, Dk.sum], by simp [Dk.new]⟩
theorem Ok.fail {d : Dk} (h : d.Ok) (k : List Bool) : (d.fail k).Ok :=
  ⟨lay_len h.on (fun p hp => (h.wait p (kept_sub hp)).1), by simp [Dk.fail], h.blocks, by simp [Dk.fail], by have := h.sum; simpa [Dk.fail, Dk.sum] using this, by simp [Dk.fail]⟩
theorem Ok.failD {d : Dk} (h : d.Ok) (k : List Bool) : (d.failD k).Ok := by
  unfold Dk.failD
  split
  · exact h
  · exact h.fail k
theorem Ok.tick {d : Dk} (h : d.Ok) : d.tick.Ok := ⟨h.on, h.wait, h.blocks, by have := h.cut; simp only [Dk.tick]; omega, h.sum, h.keep⟩
theorem Ok.settle {d : Dk} (h : d.Ok) : d.settle.Ok :=
  ⟨lay_len h.on (fun p hp => (h.wait p hp).1), by simp [Dk.settle], h.blocks, h.cut, by have := h.sum; simpa [Dk.settle, Dk.sum] using this, h.keep⟩
theorem Ok.add {d : Dk} (h : d.Ok) {n : Int} {b : List UInt8} (hn : d.bad n = 0) (hb : b.length = 512) (hs : d.sum + 1 ≤ 1073741824) : (d.add (n, b)).Ok := by
  refine ⟨h.on, fun p hp => ?_, h.blocks, h.cut, by simp only [Dk.sum, Dk.add, List.length_append, List.length_singleton] at hs ⊢; omega, h.keep⟩
  simp only [Dk.add, List.mem_append, List.mem_singleton] at hp
  rcases hp with hp | rfl
  · exact h.wait p hp
  · have := h.blocks
    unfold Dk.bad at hn
    split at hn
    · omega
    · split at hn
      · omega
      · rename_i h2
        have : ¬ n < 0 := fun h => h2 (.inl h)
        have : ¬ (d.blocks : Int) ≤ n := fun h => h2 (.inr h)
        exact ⟨hb, by show (0 : Int) ≤ n; omega, by show n < 9223372036854775808; omega⟩
theorem Ok.look {d : Dk} (h : d.Ok) (n : Int) : (d.look n).length = 512 := lay_len h.on (fun p hp => (h.wait p hp).1) n
theorem Ok.read {d : Dk} (h : d.Ok) (n : Int) : (d.read n).length = 512 := by
  unfold Dk.read
  split
  · exact h.look n
  · simp
theorem Ok.boot {d : Dk} (h : d.Ok) : d.boot.Ok := ⟨h.on, by simp [Dk.boot], h.blocks, by simp [Dk.boot], by have := h.sum; simp only [Dk.boot, Dk.sum, List.length_nil] at this ⊢; omega, by simp [Dk.boot]⟩
theorem Ok.sayCut {d : Dk} (h : d.Ok) {n : Int} (hn : n < 9223372036854775808) {k : List Bool} (hk : k.length ≤ 9223372036854775807) : (d.sayCut n k).Ok := by
  unfold Dk.sayCut
  split
  · exact h
  · split
    · exact h
    · exact ⟨h.on, h.wait, h.blocks, by show n.toNat ≤ _; omega, h.sum, hk⟩
end Dk

/-! ### in memory -/
def wcell (p : Wr) : List Value := .int .i64 p.1 :: bc p.2
def wa (p : Wr) : Array Value := (wcell p).toArray
abbrev wv (p : Wr) : Value := .agg (wa p)
def wcells (l : List Wr) : List Value := l.flatMap wcell
theorem wcell_len {p : Wr} (h : p.2.length = 512) : (wcell p).length = 513 := by simp [wcell, h]
theorem wa_size {p : Wr} (h : p.2.length = 512) : (wa p).size = 513 := by unfold wa; rw [List.size_toArray, wcell_len h]
theorem wcell_one (p : Wr) : ∀ u ∈ wcell p, u.oneCell' = true := by
  intro u hu
  rcases List.mem_cons.1 hu with rfl | hu
  · rfl
  · exact bc_one _ u hu
theorem wcells_len : ∀ {l : List Wr}, (∀ p ∈ l, p.2.length = 512) → (wcells l).length = l.length * 513
  | [], _ => rfl
  | p :: l, h => by
    have h1 := wcells_len (l := l) (fun q hq => h q (by simp [hq]))
    have h2 := wcell_len (h p (by simp))
    unfold wcells at h1 ⊢
    rw [List.flatMap_cons, List.length_append, h1, h2, List.length_cons]
    omega
theorem wcells_snoc (l : List Wr) (p : Wr) : wcells (l ++ [p]) = wcells l ++ wcell p := by simp [wcells]
theorem wcells_get : ∀ {l : List Wr}, (∀ p ∈ l, p.2.length = 512) → ∀ {k : Nat} {p : Wr}, l[k]? = some p → ∀ {j : Nat}, j < 513 → (wcells l)[k * 513 + j]? = (wcell p)[j]?
  | [], _, k, p, hp, j, hj => by simp at hp
  | q :: l, h, 0, p, hp, j, hj => by
    simp only [List.getElem?_cons_zero, Option.some.injEq] at hp
    subst hp
    have h2 := wcell_len (h q (by simp))
    unfold wcells
    rw [List.flatMap_cons, List.getElem?_append_left (by omega), Nat.zero_mul, Nat.zero_add]
  | q :: l, h, k + 1, p, hp, j, hj => by
    simp only [List.getElem?_cons_succ] at hp
    have h1 := wcells_get (l := l) (fun q hq => h q (by simp [hq])) hp hj
    have h2 := wcell_len (h q (by simp))
    unfold wcells at h1 ⊢
    rw [List.flatMap_cons, List.getElem?_append_right (by omega), h2, ← h1, show (k + 1) * 513 + j - 513 = k * 513 + j from by omega]

/-- What a block of bytes reads as. -/
noncomputable def RB (v : Value) : Option (DataW Unit × List MemPlace) :=
  open Classical in if h : ∃ l : List UInt8, l.length = 512 ∧ v = blk l then some (.lit (.string h.choose), []) else none
theorem RB_blk {l : List UInt8} (h : l.length = 512) : RB (blk l) = some (.lit (.string l), []) := by
  have h0 : ∃ m : List UInt8, m.length = 512 ∧ blk l = blk m := ⟨l, h, rfl⟩
  unfold RB
  rw [dif_pos h0]
  have h1 := h0.choose_spec.2
  injection h1 with h1
  rw [← ac_inj h1]
theorem RB_inv {v : Value} {z : DataW Unit × List MemPlace} (h : RB v = some z) : ∃ l : List UInt8, l.length = 512 ∧ v = blk l ∧ z = (.lit (.string l), []) := by
  unfold RB at h
  split at h
  · rename_i h0
    injection h with h
    exact ⟨h0.choose, h0.choose_spec.1, h0.choose_spec.2, h.symm⟩
  · cases h

theorem zeroRunB (w : World) : (zeroValue 25).run Try.prog w = .ok (blk (zs 512)) w := by
  have h := zero_blk
  cases hq : Try.prog.info? 25 with
  | none => rw [hq] at h; cases h
  | some i =>
    rw [hq] at h
    have hz : i.zero = some (.agg (ac (zs 512))) := by simpa using h
    simp [zeroValue, typeInfo, hq, hz]
abbrev kint : Go.Maps.Keyed Try.prog 3 := Go.Maps.int_keyed Try.underlying3
/-- Block m is a map of blocks: of n it holds f n. -/
def MapOn (w : World) (m : Nat) (f : Int → List UInt8) (N : Nat) : Prop :=
  ∃ D : DataW Unit, w.ownsMap Try.prog 3 RB m N D ∧ ∀ n : Int, (Lit.int .i64 n).wf = true → D.atKey (.int .i64 n) (.lit (.string (zs 512))) = .lit (.string (f n))
section
variable {w w' : World} {m N : Nat} {f : Int → List UInt8}
theorem MapOn.lt (h : MapOn w m f N) : m < w.heap.size := by obtain ⟨D, h, _⟩ := h; exact h.lt
theorem MapOn.new (w : World) : MapOn (w.alloc (.map #[] 0)) w.heap.size (fun _ => zs 512) 0 := ⟨_, World.ownsMap_made w _ _ _, fun n _ => rfl⟩
theorem MapOn.block (h : MapOn w m f N) (hb : w'.heap[m]? = w.heap[m]?) : MapOn w' m f N := by
  obtain ⟨D, ⟨es, clock, h1, r⟩, h2⟩ := h
  exact ⟨D, ⟨es, clock, hb.trans h1, r⟩, h2⟩
theorem MapOn.is (h : MapOn w m f N) : ∃ es c, w.heap[m]? = some (.map es c) := by
  obtain ⟨D, ⟨es, clock, h1, r⟩, h2⟩ := h
  exact ⟨es, clock, h1⟩
theorem MapOn.mono (h : MapOn w m f N) {N' : Nat} (hn : N ≤ N') : MapOn w m f N' := by
  obtain ⟨D, h1, h2⟩ := h
  exact ⟨D, h1.mono hn, h2⟩
theorem MapOn.run_lookup (h : MapOn w m f N) {n : Int} (hn : (Lit.int .i64 n).wf = true) :
    (Instr.lookup 84 (.map (some m)) (.int .i64 n) false).run Try.prog w = .ok (blk (f n)) w ∧ (f n).length = 512 := by
  obtain ⟨D, h1, h2⟩ := h
  obtain ⟨v, ps, hr, hv⟩ := h1.lookup kint Try.underlying84 (zeroRunB w) (RB_blk (zs_len 512)) (Go.Maps.keyOf_int_mk Try.underlying3 hn)
  rw [h2 n hn] at hv
  obtain ⟨l, hl, rfl, hz⟩ := RB_inv hv
  injection hz with hz _
  injection hz with hz
  injection hz with hz
  rw [hz]
  exact ⟨hr, hl⟩
theorem MapOn.run_update (h : MapOn w m f N) (hN : N < maxLen) {n : Int} (hn : (Lit.int .i64 n).wf = true) {l : List UInt8} (hl : l.length = 512) :
    ∃ w', (Instr.mapUpdate 84 (.map (some m)) (.int .i64 n) (blk l)).run Try.prog w = .ok () w' ∧ MapOn w' m (Dk.put f (n, l)) (N + 1) ∧ w.grownBy w' (some m) := by
  obtain ⟨D, h1, h2⟩ := h
  obtain ⟨w', hr, h3, h4⟩ := h1.update kint Try.underlying84 hN (Go.Maps.keyOf_int_mk Try.underlying3 hn) (RB_blk hl)
  refine ⟨w', hr, ⟨_, h3, fun i hi => ?_⟩, h4⟩
  have hm : Go.Maps.IsMap D := by obtain ⟨es, c, _, _, _, hD⟩ := h1; exact ⟨_, hD⟩
  unfold Dk.put
  by_cases e : i = n
  · subst e
    rw [if_pos rfl, Go.Maps.atKey_put_same hm (k := .int .i64 i) trivial]
  · rw [if_neg e, Go.Maps.atKey_put_other (by intro h; injection h with _ h; exact e h), h2 i hi]
end

/-- A slice of bools. -/
def BoolsV (w : World) (v : Value) (l : List Bool) : Prop :=
  ∃ A c, v = .slice A l.length c ∧ l.length ≤ c ∧ c ≤ maxLen ∧ (A = none → c = 0) ∧ (0 < l.length → ∃ b off, A = some ⟨b, off, none⟩ ∧ b < w.heap.size ∧ ∀ k (hk : k < l.length), w.cell? ⟨b, off + k, none⟩ = some (.bool l[k]))
/-- .. that lies in blocks of a set. -/
def BoolsIn (fp : Nat → Prop) (v : Value) (l : List Bool) : Prop := ∀ b off n c, v = .slice (some ⟨b, off, none⟩) n c → 0 < l.length → fp b
theorem BoolsV.kept {w w' : World} {v : Value} {l : List Bool} {fp : Nat → Prop} (h : BoolsV w v l) (hi : BoolsIn fp v l) (hs : w.heap.size ≤ w'.heap.size) (hb : ∀ k, k < w.heap.size → fp k → w'.heap[k]? = w.heap[k]?) : BoolsV w' v l := by
  obtain ⟨A, c, rfl, h1, h2, h3, h4⟩ := h
  refine ⟨A, c, rfl, h1, h2, h3, fun h0 => ?_⟩
  obtain ⟨b, off, rfl, h5, h6⟩ := h4 h0
  exact ⟨b, off, rfl, Nat.lt_of_lt_of_le h5 hs, fun k hk => (World.cell?_of_block (a := ⟨b, off + k, none⟩) (hb b h5 (hi b off _ _ rfl h0))).trans (h6 k hk)⟩
theorem BoolsV.nil (w : World) : BoolsV w (.slice none 0 0) [] := ⟨none, 0, rfl, Nat.le_refl _, Nat.zero_le _, fun _ => rfl, fun h => absurd h (by simp)⟩
theorem BoolsV.below {w w' : World} {v : Value} {l : List Bool} (h : BoolsV w v l) (hb : Below w.heap.size w w') : BoolsV w' v l :=
  h.kept (fp := fun _ => True) (fun _ _ _ _ _ _ => trivial) hb.size (fun k hk _ => hb.block k hk)

/-- From w to w' only blocks of the set fp, and new ones, have turned. -/
structure GrownIn (w w' : World) (fp : Nat → Prop) : Prop where
  os : w'.os = w.os
  tape : w'.tape = w.tape
  output : w'.output = w.output
  size : w.heap.size ≤ w'.heap.size
  block : ∀ k, k < w.heap.size → ¬ fp k → w'.heap[k]? = w.heap[k]?
section
variable {w w' w2 : World} {fp : Nat → Prop}
theorem GrownIn.refl (w : World) (fp : Nat → Prop) : GrownIn w w fp := ⟨rfl, rfl, rfl, Nat.le_refl _, fun _ _ _ => rfl⟩
theorem GrownIn.trans (h : GrownIn w w' fp) (k : GrownIn w' w2 (fun i => fp i ∨ w.heap.size ≤ i)) : GrownIn w w2 fp :=
  ⟨k.os.trans h.os, k.tape.trans h.tape, k.output.trans h.output, Nat.le_trans h.size k.size, fun i hi hn => (k.block i (Nat.lt_of_lt_of_le hi h.size) (fun e => e.elim hn (fun e => by omega))).trans (h.block i hi hn)⟩
theorem GrownIn.mono {fp' : Nat → Prop} (h : GrownIn w w' fp) (hi : ∀ k, k < w.heap.size → fp k → fp' k) : GrownIn w w' fp' := ⟨h.os, h.tape, h.output, h.size, fun k hk hn => h.block k hk (fun e => hn (hi k hk e))⟩
theorem GrownIn.of (h : Below w.heap.size w w') : GrownIn w w' fp := ⟨h.os, h.tape, h.output, h.size, fun k hk _ => h.block k hk⟩
theorem GrownIn.by {r : Nat} (h : w.grownBy w' (some r)) (hr : fp r) : GrownIn w w' fp := ⟨h.os, h.tape, h.output, h.size, fun k hk hn => h.block k hk (fun e => by injection e with e; exact hn (e ▸ hr))⟩
theorem GrownIn.set {a : Addr} (v : Value) (hr : fp a.block) : GrownIn w (w.setCell a v) fp := ⟨rfl, rfl, rfl, by simp [World.setCell], fun k hk hn => heap_setCell_other w a k v (fun e => hn (e ▸ hr))⟩
theorem GrownIn.below {B : Nat} (h : GrownIn w w' fp) (hB : B ≤ w.heap.size) (hfp : ∀ k, k < w.heap.size → fp k → B ≤ k) : Below B w w' := by
  have hb : ∀ i, i < B → w'.heap[i]? = w.heap[i]? := fun i hi => h.block i (by omega) (fun e => by have := hfp i (by omega) e; omega)
  exact ⟨h.os, h.tape, h.output, h.size, hb⟩
end
end Go.Proofs.Yteoomhkdffnkkaa
