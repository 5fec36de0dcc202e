/- Bytes and texts among a law's arguments, opened. Conditions: none. -/
import Derived.Test.YtaobfidjnnhniaaSlices
import Derived.OpenShut
namespace Go.Proofs.Ytaobfidjnnhniaa
set_option linter.unusedVariables false
set_option linter.unusedSimpArgs false
open Go.ChangeShapes Go.WideShapes Go.ChangeAt Go.RowKit
open Go.ChangeMaps (open_string)

theorem cells_u8 : Try.prog.cellsOf 5 = 1 := by kernel_rfl

theorem cell_lit {w : World} {a : Addr} {v : Value} (h : w.cell? a = some v) : a = ⟨a.block, a.off, none⟩ := by
  obtain ⟨b, o, s⟩ := a
  unfold World.cell? at h
  cases s with
  | none => rfl
  | some x =>
    split at h
    · simp at h
    · cases h

section
variable {H : Type} {enc : TypeId × Value → H} {w : World} {base : Nat}
set_option maxRecDepth 100000 in
theorem open_bytes {r : Reach} {b0 : Nat} {v : Value} {d : DataW H} {p : List MemPlace} (hv0 : Value.okWide Try.prog w r b0 58 v) (h : DataW.Trod enc Try.prog w base (fun _ => true) true 58 v d p) :
    ∃ l : List UInt8, BytesV w v l := by
  obtain ⟨a0, len, cap, rfl⟩ := okWide_slice Try.underlying58 hv0
  obtain ⟨fuel, hf⟩ := h
  rcases open_ints Try.underlying58 Try.underlying5 cells_u8 hf with ⟨hcs, hx⟩ | ⟨a, len', cap', zs, hcs, _, hl, hm, hz, hx, hcell, hwz⟩
  · simp [Value.cells] at hcs
    obtain ⟨rfl, rfl, rfl⟩ := hcs
    exact ⟨[], BytesV.nil w⟩
  · simp [Value.cells] at hcs
    obtain ⟨rfl, rfl, rfl⟩ := hcs
    rw [if_pos rfl] at hz
    have hlen : ((zs.take len).map fun n => UInt8.ofNat n.toNat).length = len := by simp; omega
    refine ⟨(zs.take len).map fun n => UInt8.ofNat n.toNat, some a, cap, by rw [hlen], by rw [hlen]; exact hl, hm, (fun h => by cases h), fun h0 => ?_⟩
    rw [hlen] at h0
    have hc0 := hcell 0 (by omega)
    have ha : a = ⟨a.block, a.off, none⟩ := by
      have := cell_lit hc0
      simpa [Addr.add] using this
    refine ⟨a.block, a.off, by rw [← ha], World.block_lt_of_cell? w a (by simpa [Addr.add] using hc0), fun k hk => ?_⟩
    rw [hlen] at hk
    have hck := hcell k (by omega)
    rw [ha, Addr.add_lit] at hck
    rw [hck]
    have hget : zs[k]? = some (zs.getD k 0) := by simp [List.getD, show k < zs.length by omega]
    have hwf := bounds_u8 (hwz (zs.getD k 0) (List.mem_of_getElem? hget))
    have hlk : k < zs.length := by omega
    have e : ((zs.take len).map fun n => UInt8.ofNat n.toNat)[k]'(by rw [hlen]; exact hk) = UInt8.ofNat (zs.getD k 0).toNat := by
      simp [List.getD, hlk]
    rw [e]
    congr 2
    rw [UInt8.toNat_ofNat']
    omega
set_option maxRecDepth 100000 in
theorem open_text {r : Reach} {b0 : Nat} {v : Value} {d : DataW H} {p : List MemPlace} (hv0 : Value.okWide Try.prog w r b0 9 v) (h : DataW.Trod enc Try.prog w base (fun _ => true) true 9 v d p) :
    ∃ l : List UInt8, v = .string ⟨l.toArray⟩ ∧ l.length ≤ maxLen := by
  obtain ⟨s, rfl, _, _, hs⟩ := open_string Try.underlying9 hv0 h
  exact ⟨s.data.toList, by rw [Array.toArray_toList], by rw [Array.length_toList]; exact hs⟩
end
end Go.Proofs.Ytaobfidjnnhniaa
