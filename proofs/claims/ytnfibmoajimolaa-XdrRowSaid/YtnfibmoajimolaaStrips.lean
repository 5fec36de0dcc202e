/- Rows of uint32 and of strings that came in. -/
import Derived.Test.YtnfibmoajimolaaOpenBytes
import Derived.Test.YtnfibmoajimolaaXdrWrite3
import Derived.SliceStrings
namespace Go.Proofs.Ytnfibmoajimolaa
set_option linter.unusedVariables false
set_option linter.unusedSimpArgs false
open Go.ChangeShapes Go.WideShapes Go.ChangeAt Go.RowKit
open Go.ChangeMaps (open_string)

/-- A row of one-cell values. -/
def CellsV (w : World) (v : Value) (l : List Value) : Prop :=
  ∃ A c, v = .slice A l.length c ∧ l.length ≤ c ∧ c ≤ maxLen ∧
    (0 < l.length → ∃ b off, A = some ⟨b, off, none⟩ ∧ b < w.heap.size ∧ ∀ k, (h : k < l.length) → w.cell? ⟨b, off + k, none⟩ = some l[k])
theorem CellsV.below {w w' : World} {v : Value} {l : List Value} (h : CellsV w v l) (hb : Below w.heap.size w w') : CellsV w' v l := by
  obtain ⟨A, c, hv, hl, hc, hr⟩ := h
  refine ⟨A, c, hv, hl, hc, fun h0 => ?_⟩
  obtain ⟨b, off, hA, hbl, hcell⟩ := hr h0
  exact ⟨b, off, hA, Nat.lt_of_lt_of_le hbl hb.size, fun k hk => (hb.cell (p := ⟨b, off + k, none⟩) hbl).trans (hcell k hk)⟩
def u32s (l : List Nat) : List Value := l.map fun n : Nat => .int .u32 (n : Int)
def strs (l : List (List UInt8)) : List Value := l.map fun s : List UInt8 => .string ⟨s.toArray⟩

section
variable {H : Type} {enc : TypeId × Value → H} {w : World} {base : Nat}
theorem open_u32s {r : Reach} {b0 : Nat} {v : Value} {d : DataW H} {p : List MemPlace} (hv0 : Value.okWide Try.prog w r b0 31 v) (h : DataW.Trod enc Try.prog w base (fun _ => true) true 31 v d p) :
    ∃ l : List Nat, CellsV w v (u32s l) ∧ ∀ n ∈ l, n < 4294967296 := by
  obtain ⟨a0, len, cap, rfl⟩ := okWide_slice Try.underlying31 hv0
  obtain ⟨fuel, hf⟩ := h
  rcases open_ints Try.underlying31 Try.underlying25 (by kernel_rfl) hf with ⟨hcs, hx⟩ | ⟨a, len', cap', zs, hcs, _, hl, hm, hz, hx, hcell, hwz⟩
  · simp [Value.cells] at hcs
    obtain ⟨rfl, rfl, rfl⟩ := hcs
    exact ⟨[], ⟨none, 0, rfl, Nat.le_refl _, Nat.zero_le _, fun h => absurd h (by simp [u32s])⟩, fun n h => by cases h⟩
  · simp [Value.cells] at hcs
    obtain ⟨rfl, rfl, rfl⟩ := hcs
    rw [if_pos rfl] at hz
    have hlen : (u32s ((zs.take len).map fun n => n.toNat)).length = len := by simp [u32s]; omega
    refine ⟨(zs.take len).map fun n => n.toNat, ⟨some a, _, by rw [hlen], by rw [hlen]; exact hl, hm, fun h0 => ?_⟩, ?_⟩
    · rw [hlen] at h0
      have hc0 := hcell 0 (by omega)
      have ha : a = ⟨a.block, a.off, none⟩ := by
        have := cell_lit hc0
        simpa [Addr.add] using this
      refine ⟨a.block, a.off, by rw [← ha], World.block_lt_of_cell? w a (by simpa [Addr.add] using hc0), fun k hk => ?_⟩
      rw [hlen] at hk
      have hck := hcell k (by omega)
      rw [ha, Addr.add_lit] at hck
      rw [hck]
      have hlk : k < zs.length := by omega
      have hget : zs[k]? = some (zs.getD k 0) := by simp [List.getD, hlk]
      have hwf := bounds_u32 (hwz (zs.getD k 0) (List.mem_of_getElem? hget))
      congr 1
      simp [u32s, List.getD, hlk] at hwf ⊢
      omega
    · intro n hn
      obtain ⟨z, hz', rfl⟩ := List.mem_map.1 hn
      have := bounds_u32 (hwz z (List.mem_of_mem_take hz'))
      omega

theorem open_texts {r : Reach} {b0 : Nat} {v : Value} {d : DataW H} {p : List MemPlace} (hv0 : Value.okWide Try.prog w r b0 32 v) (h : DataW.Trod enc Try.prog w base (fun _ => true) true 32 v d p) :
    ∃ l : List (List UInt8), CellsV w v (strs l) ∧ ∀ s ∈ l, s.length ≤ maxLen := by
  obtain ⟨a0, len, cap, rfl⟩ := okWide_slice Try.underlying32 hv0
  obtain ⟨fuel, hf⟩ := h
  rcases open_strings Try.underlying32 Try.underlying9 (by kernel_rfl) hf with ⟨hcs, hx⟩ | ⟨a, len', cap', zs, hcs, _, hl, hm, hz, hx, hcell, hwz⟩
  · simp [Value.cells] at hcs
    obtain ⟨rfl, rfl, rfl⟩ := hcs
    exact ⟨[], ⟨none, 0, rfl, Nat.le_refl _, Nat.zero_le _, fun h => absurd h (by simp [strs])⟩, fun n h => by cases h⟩
  · simp [Value.cells] at hcs
    obtain ⟨rfl, rfl, rfl⟩ := hcs
    rw [if_pos rfl] at hz
    have hlen : (strs ((zs.take len).map fun n => n.data.toList)).length = len := by simp [strs]; omega
    refine ⟨(zs.take len).map fun n => n.data.toList, ⟨some a, _, by rw [hlen], by rw [hlen]; exact hl, hm, fun h0 => ?_⟩, ?_⟩
    · rw [hlen] at h0
      have hc0 := hcell 0 (by omega)
      have ha : a = ⟨a.block, a.off, none⟩ := by
        have := cell_lit hc0
        simpa [Addr.add] using this
      refine ⟨a.block, a.off, by rw [← ha], World.block_lt_of_cell? w a (by simpa [Addr.add] using hc0), fun k hk => ?_⟩
      rw [hlen] at hk
      have hck := hcell k (by omega)
      rw [ha, Addr.add_lit] at hck
      rw [hck]
      have hlk : k < zs.length := by omega
      congr 1
      simp [strs, List.getD, hlk]
    · intro n hn
      obtain ⟨z, hz', rfl⟩ := List.mem_map.1 hn
      have := hwz z (List.mem_of_mem_take hz')
      simpa using this
end
end Go.Proofs.Ytnfibmoajimolaa
