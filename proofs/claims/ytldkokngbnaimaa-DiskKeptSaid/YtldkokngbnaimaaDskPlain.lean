/- Plain disks: what the laws on writes, failures and copies ask. Conditions: none. -/
import Derived.Test.YtldkokngbnaimaaDskOpen
import Derived.Test.YtldkokngbnaimaaDskWorks
namespace Go.Proofs.Ytldkokngbnaimaa
set_option linter.unusedVariables false
set_option linter.unusedSimpArgs false
open Go.ChangeShapes Go.WideShapes Go.ChangeAt Go.RowKit

theorem if_ff {α : Type} (a b : α) : (if false = true then a else b) = b := rfl
theorem n64 (c : UInt8) : IntKind.i64.wrap ((c.toNat : Int).tmod 64) = ((c.toNat % 64 : Nat) : Int) := by
  have h : (c.toNat : Int).tmod 64 = ((c.toNat % 64 : Nat) : Int) := by rw [Int.tmod_eq_emod_of_nonneg (by omega)]; omega
  rw [h, IntKind.wrap_i64]
  omega
theorem u8_succ (c : UInt8) : ((c + 1).toNat : Int) = ((c.toNat : Int) + 1) % 256 := by
  rw [UInt8.toNat_add]
  show (((c.toNat + 1) % 256 : Nat) : Int) = _
  omega
namespace Dk
/-- A disk that has no cut before it, and lives. -/
structure Plain (t : Dk) : Prop where
  dead : t.dead = false
  cut : t.cut = 0
  blocks : t.blocks = 64
theorem Plain.new : (Dk.new 64).Plain := ⟨rfl, rfl, rfl⟩
theorem Plain.bad {t : Dk} (h : t.Plain) {n : Int} (h0 : 0 ≤ n) (h1 : n < 64) : t.bad n = 0 := by
  unfold Dk.bad
  rw [h.dead, if_ff, if_neg (by rw [h.blocks]; omega)]
theorem Plain.read {t : Dk} (h : t.Plain) {n : Int} (h0 : 0 ≤ n) (h1 : n < 64) : t.read n = t.look n := if_pos (h.bad h0 h1)
theorem Plain.write {t : Dk} (h : t.Plain) {n : Int} (h0 : 0 ≤ n) (h1 : n < 64) (b : List UInt8) : t.write n b = t.add (n, b) ∧ t.writeE n = 0 := by
  have hb := h.bad h0 h1
  unfold Dk.write Dk.writeE
  rw [if_pos hb, if_pos hb, h.cut, if_neg (by decide), if_neg (by decide)]
  refine ⟨?_, rfl⟩
  have := h.cut
  unfold Dk.tick Dk.add
  cases t
  simp_all
theorem Plain.flush {t : Dk} (h : t.Plain) : t.flush = t.settle ∧ t.flushE = 0 := by
  unfold Dk.flush Dk.flushE
  rw [h.dead, if_ff, if_ff, h.cut, if_neg (by decide), if_neg (by decide)]
  refine ⟨?_, rfl⟩
  have := h.cut
  unfold Dk.tick Dk.settle
  cases t
  simp_all
theorem Plain.add {t : Dk} (h : t.Plain) (p : Wr) : (t.add p).Plain := ⟨h.dead, h.cut, h.blocks⟩
theorem Plain.settle {t : Dk} (h : t.Plain) : t.settle.Plain := ⟨h.dead, h.cut, h.blocks⟩
theorem Plain.boot {t : Dk} (h : t.Plain) (k : List Bool) : ((t.fail k).boot).Plain := ⟨rfl, rfl, h.blocks⟩
theorem sum_add (t : Dk) (p : Wr) : (t.add p).sum = t.sum + 1 := by simp [Dk.sum, Dk.add]; omega
theorem sum_settle (t : Dk) : t.settle.sum = t.sum := by simp [Dk.sum, Dk.settle]
theorem Plain.fail {t : Dk} (h : t.Plain) (k : List Bool) : t.failD k = t.fail k ∧ t.failE = 0 := by
  unfold Dk.failD Dk.failE
  rw [h.dead]
  exact ⟨rfl, rfl⟩
theorem kept_all : ∀ (l : List Wr), kept l (List.replicate l.length true) = l
  | [] => rfl
  | p :: l => by simp [kept, List.replicate_succ, kept_all l]
theorem kept_nil (l : List Wr) : kept l [] = [] := by cases l <;> rfl
theorem look_boot (t : Dk) (k : List Bool) (n : Int) : ((t.fail k).boot).look n = lay t.on (kept t.wait k) n := rfl
end Dk

/-- The law's own row of yes and no, in block b. -/
def KB (w : World) (b : Nat) (l : List Bool) : Prop := w.heap[b]? = some (.cells (l.map Value.bool).toArray 4 (0, 0))
theorem KB.bools {w : World} {b : Nat} {l : List Bool} (h : KB w b l) (hl : l.length ≤ maxLen) (n : Nat) (hn : n = l.length) : BoolsV w (.slice (some ⟨b, 0, none⟩) n n) l := by
  subst hn
  refine ⟨_, l.length, rfl, Nat.le_refl _, hl, fun e => (by cases e), fun h0 => ⟨b, 0, rfl, (Array.getElem?_eq_some_iff.1 h).1, fun j hj => ?_⟩⟩
  rw [cell_of_row _ _ (0 + j) _ _ _ h]
  simp [hj]
theorem KB.cell {w : World} {b : Nat} {l : List Bool} (h : KB w b l) {j : Nat} (hj : j < l.length) : w.cell? ⟨b, j, none⟩ = some (.bool l[j]) := by
  rw [cell_of_row _ _ j _ _ _ h]
  simp [hj]
theorem KB.free {w : World} {b : Nat} {l : List Bool} (h : KB w b l) (j : Nat) : w.frozen? ⟨b, j, none⟩ = false := frozen_of_row w b j _ _ h
theorem KB.set {w : World} {b : Nat} {l : List Bool} (h : KB w b l) (j : Nat) (x : Bool) : KB (w.setCell ⟨b, j, none⟩ (.bool x)) b (l.set j x) := by
  have := heap_setCell_same w b j _ _ (.bool x) h
  refine this.trans ?_
  congr 2
  simp [List.map_set]
theorem KB.stay {w w' : World} {b : Nat} {l : List Bool} (h : KB w b l) (hb : w'.heap[b]? = w.heap[b]?) : KB w' b l := hb.trans h
theorem KB.lt {w : World} {b : Nat} {l : List Bool} (h : KB w b l) : b < w.heap.size := (Array.getElem?_eq_some_iff.1 h).1
theorem set_rep (q n : Nat) (h : q < n) : (List.replicate q true ++ List.replicate (n - q) false).set q true = List.replicate (q + 1) true ++ List.replicate (n - (q + 1)) false := by
  rw [List.set_append_right _ _ (by simp)]
  rw [List.length_replicate, Nat.sub_self, show n - q = (n - (q + 1)) + 1 from by omega, List.replicate_succ, List.set_cons_zero, List.replicate_succ']
  simp
/-- 'make([]bool, n)'. -/
theorem made_kb {w w' : World} {B n : Nat} (h : w'.ownsRow B 4 1 (.slice (some ⟨w.heap.size, 0, none⟩) n n) n (madeCells #[Value.bool false] n).toList) : KB w' w.heap.size (List.replicate n false) := by
  rcases h.2 with ⟨h0, _⟩ | ⟨g, cap, cur, h0, _, hg, _, _, hs, ht⟩
  · cases h0
  · injection h0 with h1 _ h3
    injection h1 with h1
    injection h1 with h1
    subst h1 h3
    unfold KB
    rw [hg]
    congr 2
    apply Array.ext'
    rw [Nat.mul_one] at hs ht
    have e : (madeCells #[Value.bool false] n).toList = List.replicate n (.bool false) := toList_madeCells_one _ _
    rw [e, List.take_of_length_le (by simp [hs])] at ht
    rw [ht]
    simp
end Go.Proofs.Ytldkokngbnaimaa
