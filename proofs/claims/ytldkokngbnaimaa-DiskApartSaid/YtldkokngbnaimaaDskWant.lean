/- An array of 64 blocks of the law's own. Conditions: none. -/
import Derived.Test.YtldkokngbnaimaaDskPlain
namespace Go.Proofs.Ytldkokngbnaimaa
set_option linter.unusedVariables false
set_option linter.unusedSimpArgs false
open Go.ChangeShapes Go.WideShapes Go.ChangeAt Go.RowKit

set_option maxRecDepth 1000000 in
theorem zero_want : (Try.prog.info? 58).map (·.zero) = some (some (.agg (ac (zs 32768)))) := by kernel_rfl
theorem zeroValueA (w : World) : (zeroValue 58).run Try.prog w = .ok (.agg (ac (zs 32768))) w := by
  have h := zero_want
  cases hq : Try.prog.info? 58 with
  | none => rw [hq] at h; cases h
  | some i =>
    rw [hq] at h
    have hz : i.zero = some (.agg (ac (zs 32768))) := by simpa using h
    simp [zeroValue, typeInfo, hq, hz]
theorem want_ne : ¬ ac (zs 32768) = #[] := by
  intro h
  have := congrArg Array.size h
  rw [ac_size, zs_len] at this
  simp at this

theorem grown_cells (g : Nat) : ∀ (vs : List Value) (o : Nat) (w : World), w.grownBy (w.setCells g o vs) (some g)
  | [], o, w => World.grownBy.refl _ _
  | v :: r, o, w => by
    have h1 := wb_set' w g o v
    have h2 := grown_cells g r (o + 1) (w.setCell ⟨g, o, none⟩ v)
    exact ⟨h2.os.trans h1.os, h2.tape.trans h1.tape, h2.output.trans h1.output, Nat.le_trans h1.size h2.size, fun i hi hne => (h2.block i (Nat.lt_of_lt_of_le hi h1.size) hne).trans (h1.block i hi hne)⟩

/-- In block g lie 64 blocks. -/
structure WA (w : World) (g : Nat) (f : Nat → List UInt8) : Prop where
  range : ∀ n, n < 64 → w.rangeAt g (n * 512) (bc (f n))
  there : w.there g 0 32768
  len : ∀ n, (f n).length = 512
  lt : g < w.heap.size
theorem WA.new (w : World) : WA (w.alloc (.cells (ac (zs 32768)) 58)) w.heap.size (fun _ => zs 512) := by
  have hb : (w.alloc (.cells (ac (zs 32768)) 58)).heap[w.heap.size]? = some (.cells (ac (zs 32768)) 58 (0, 0)) := heap_alloc_new w _
  have hc : ∀ j, j < 32768 → (w.alloc (.cells (ac (zs 32768)) 58)).cell? ⟨w.heap.size, j, none⟩ = some (.int .u8 0) := fun j hj => by
    rw [cell_of_row _ _ j _ _ _ hb, ac_get _ j (by rw [zs_len]; exact hj)]
    unfold zs
    rw [List.getElem_replicate]
    rfl
  refine ⟨fun n hn j v hv => ?_, fun j hj => ?_, fun n => zs_len 512, by simp⟩
  · have hj : j < 512 := by
      have := (List.getElem?_eq_some_iff.1 hv).1
      rwa [bc_length, zs_len] at this
    rw [hc _ (by omega)]
    rw [bc_get _ j (by rw [zs_len]; exact hj)] at hv
    unfold zs at hv
    rw [List.getElem_replicate] at hv
    exact hv
  · rw [Nat.zero_add, hc j hj]
    exact ⟨rfl, frozen_of_row _ _ j _ _ hb⟩
section
variable {w w' : World} {g : Nat} {f : Nat → List UInt8}
theorem WA.stay (h : WA w g f) (hb : w'.heap[g]? = w.heap[g]?) : WA w' g f := by
  refine ⟨fun n hn j v hv => ?_, fun j hj => ?_, h.len, ?_⟩
  · rw [World.cell?_of_block (a := ⟨g, _, none⟩) hb]
    exact h.range n hn j v hv
  · rw [World.cell?_of_block (a := ⟨g, _, none⟩) hb, World.frozen?_of_block (a := ⟨g, _, none⟩) hb]
    exact h.there j hj
  · obtain ⟨o, ho⟩ : ∃ o, w.heap[g]? = some o := ⟨_, Array.getElem?_eq_getElem h.lt⟩
    exact (Array.getElem?_eq_some_iff.1 (hb.trans ho)).1
theorem WA.at (h : WA w g f) {n : Nat} (hn : n < 64) : w.there g (n * 512) 512 := fun j hj => by
  have := h.there (n * 512 + j) (by omega)
  rwa [Nat.zero_add] at this
theorem WA.set (h : WA w g f) {n : Nat} (hn : n < 64) {b : List UInt8} (hb : b.length = 512) : WA (w.setCells g (n * 512) (bc b)) g (fun i => if i = n then b else f i) := by
  refine ⟨fun i hi => ?_, fun j hj => ?_, fun i => ?_, Nat.lt_of_lt_of_le h.lt (grown_cells g _ _ _).size⟩
  · by_cases e : i = n
    · subst e
      rw [if_pos rfl]
      exact World.rangeAt_setCells_same w g _ _ (by rw [bc_length, hb]; exact h.at hn)
    · rw [if_neg e]
      exact World.rangeAt_setCells_apart (h.range i hi) _ _ _ (by rw [bc_length, bc_length, hb, h.len]; omega)
  · have ht := h.there j hj
    refine ⟨World.isSome_setCells _ _ _ _ _ ht.1, ?_⟩
    rw [World.frozen?_setCells]
    exact ht.2
  · show (if i = n then b else f i).length = 512
    split
    · exact hb
    · exact h.len i
end
end Go.Proofs.Ytldkokngbnaimaa
