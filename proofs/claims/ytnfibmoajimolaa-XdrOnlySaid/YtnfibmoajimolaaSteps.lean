/- A row of steps (struct{Kind uint8; N int}) that came in. -/
import Derived.Test.YtnfibmoajimolaaOpenBytes
import Derived.Test.YtnfibmoajimolaaXdrWrite3
import Derived.Deep.SlicePairs
namespace Go.Proofs.Ytnfibmoajimolaa
set_option linter.unusedVariables false
set_option linter.unusedSimpArgs false
open Go.ChangeShapes Go.WideShapes Go.ChangeAt Go.RowKit

def StepsV (w : World) (v : Value) (l : List (UInt8 × Int)) : Prop :=
  ∃ A c, v = .slice A l.length c ∧ l.length ≤ c ∧ c ≤ maxLen ∧
    (0 < l.length → ∃ b off, A = some ⟨b, off, none⟩ ∧ b < w.heap.size ∧ ∀ k, (h : k < l.length) → w.cell? ⟨b, off + k * 2, none⟩ = some (.int .u8 (l[k].1.toNat : Int)) ∧ w.cell? ⟨b, off + (k * 2 + 1), none⟩ = some (.int .i64 l[k].2) ∧
      -9223372036854775808 ≤ l[k].2 ∧ l[k].2 ≤ 9223372036854775807)
theorem StepsV.below {w w' : World} {v : Value} {l : List (UInt8 × Int)} (h : StepsV w v l) (hb : Below w.heap.size w w') : StepsV w' v l := by
  obtain ⟨A, c, hv, hl, hc, hr⟩ := h
  refine ⟨A, c, hv, hl, hc, fun h0 => ?_⟩
  obtain ⟨b, off, hA, hbl, hcell⟩ := hr h0
  exact ⟨b, off, hA, Nat.lt_of_lt_of_le hbl hb.size, fun k hk => ⟨(hb.cell (p := ⟨b, off + k * 2, none⟩) hbl).trans (hcell k hk).1, (hb.cell (p := ⟨b, off + (k * 2 + 1), none⟩) hbl).trans (hcell k hk).2.1, (hcell k hk).2.2⟩⟩

section
variable {H : Type} {enc : TypeId × Value → H} {w : World} {base : Nat}
theorem open_steps {r : Reach} {b0 : Nat} {v : Value} {d : DataW H} {p : List MemPlace} (hv0 : Value.okWide Try.prog w r b0 45 v) (h : DataW.Trod enc Try.prog w base (fun _ => true) true 45 v d p) :
    ∃ l : List (UInt8 × Int), StepsV w v l := by
  obtain ⟨a0, len, cap, rfl⟩ := okWide_slice Try.underlying45 hv0
  obtain ⟨fuel, hf⟩ := h
  rcases Deep.open_slice_pairs Try.underlying45 Try.underlying47 (by kernel_rfl) rfl rfl (by kernel_rfl) (by kernel_rfl) hf with ⟨hcs, hx⟩ | ⟨a, len', cap', m, n, V0, V1, D0, D1, P0, P1, hcs, _, hl, hm, hmm, hx, hcell⟩
  · simp [Value.cells] at hcs
    obtain ⟨rfl, rfl, rfl⟩ := hcs
    exact ⟨[], none, 0, rfl, Nat.le_refl _, Nat.zero_le _, fun h => absurd h (by simp)⟩
  · simp [Value.cells] at hcs
    obtain ⟨rfl, rfl, rfl⟩ := hcs
    rw [if_pos rfl] at hmm
    subst hmm
    have each : ∀ i, i < m → ∃ q : UInt8 × Int, V0 i = .int .u8 (q.1.toNat : Int) ∧ V1 i = .int .i64 q.2 ∧ -9223372036854775808 ≤ q.2 ∧ q.2 ≤ 9223372036854775807 := by
      intro i hi
      obtain ⟨_, _, h2, h3⟩ := hcell i hi
      obtain ⟨x, hx, _, wx⟩ := DataW.trod_int Try.underlying5 h2
      obtain ⟨y, hy, _, wy⟩ := DataW.trod_int Try.underlying3 h3
      have bx := bounds_u8 wx
      have bw := bounds_i64 wy
      refine ⟨(UInt8.ofNat x.toNat, y), ?_, by simpa using hy, bw.1, bw.2⟩
      have : V0 i = .int .u8 x := by simpa using hx
      rw [this]
      congr 1
      rw [UInt8.toNat_ofNat']
      omega
    obtain ⟨q, hq⟩ := Deep.choose_lt each
    have hlen : ((List.range len).map q).length = len := by simp
    refine ⟨(List.range len).map q, some a, m, by rw [hlen], by rw [hlen]; exact hl, hm, fun h0 => ?_⟩
    rw [hlen] at h0
    have hc0 := (hcell 0 (by omega)).1
    have ha : a = ⟨a.block, a.off, none⟩ := by
      have := cell_lit hc0
      simpa [Addr.add] using this
    refine ⟨a.block, a.off, by rw [← ha], World.block_lt_of_cell? w a (by simpa [Addr.add] using hc0), fun k hk => ?_⟩
    rw [hlen] at hk
    obtain ⟨c0, c1, _⟩ := hcell k (by omega)
    obtain ⟨q0, q1, q2⟩ := hq k (by omega)
    rw [ha, Addr.add_lit] at c0
    rw [ha, Addr.add_lit] at c1
    have e : ((List.range len).map q)[k]'(by rw [hlen]; exact hk) = q k := by simp
    rw [e]
    exact ⟨c0.trans (congrArg some q0), c1.trans (congrArg some q1), q2⟩
end
end Go.Proofs.Ytnfibmoajimolaa
