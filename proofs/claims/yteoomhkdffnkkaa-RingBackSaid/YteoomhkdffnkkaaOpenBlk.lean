/- A block among a law's arguments, opened (a copy of BlkArgs' words, for seats without pointers). Conditions: none. -/
import Derived.Test.YteoomhkdffnkkaaArr
import Derived.OpenShut
import Derived.WideKeyArr2
namespace Go.Proofs.Yteoomhkdffnkkaa
set_option linter.unusedVariables false
set_option linter.unusedSimpArgs false
open Go.ChangeShapes Go.WideShapes Go.ChangeAt Go.RowKit
set_option maxRecDepth 100000

theorem cells_blk : Try.prog.cellsOf 25 = 512 := by kernel_rfl
theorem mapM_each {α β : Type} {f : α → Option β} : ∀ (L : List α) (ys : List β), L.mapM f = some ys → ∀ i ∈ L, ∃ y, f i = some y
  | [], _, _, i, hi => by cases hi
  | x :: L, ys, h, i, hi => by
    rw [List.mapM_cons] at h
    simp only [bind, Option.bind_eq_some_iff, pure, Option.some.injEq] at h
    obtain ⟨y, hy, ys', hys, _⟩ := h
    rcases List.mem_cons.1 hi with rfl | hi
    · exact ⟨y, hy⟩
    · exact mapM_each L ys' hys i hi

section
variable {H : Type} {enc : TypeId × Value → H} {w : World} {base : Nat} {spare : Nat → Bool} {held : Bool}
theorem open_blk {r : Reach} {b0 : Nat} {v : Value} {d : DataW H} {p : List MemPlace} (hv0 : Value.okWide Try.prog w r b0 25 v) (h : DataW.Trod enc Try.prog w base spare held 25 v d p) :
    ∃ l : List UInt8, v = blk l ∧ l.length = 512 := by
  unfold Value.okWide at hv0
  rw [Try.underlying25] at hv0
  obtain ⟨cs, rfl, hn, _⟩ := hv0
  rw [cells_blk] at hn
  obtain ⟨fuel, hf⟩ := h
  cases fuel with
  | zero => simp [DataW.trod] at hf
  | succ m =>
    rw [DataW.trod_step] at hf
    unfold DataW.trodStep at hf
    simp only [Try.underlying25, Value.cells] at hf
    rw [if_pos (by rw [cells_blk]; simpa using hn)] at hf
    simp only [Option.map_eq_some_iff] at hf
    obtain ⟨ys, hy, _⟩ := hf
    have hall : ∀ i, (hi : i < cs.toList.length) → ∃ a : Int, cs.toList[i] = .int .u8 a ∧ 0 ≤ a ∧ a < 256 := by
      intro i hi
      obtain ⟨y, hy'⟩ := mapM_each _ _ hy i (by simp at hi; simp; omega)
      rw [cells_u8] at hy'
      obtain ⟨a, ea, _, wa⟩ := DataW.trod_int Try.underlying5 hy'
      rw [Nat.mul_one] at ea
      have h2 : (cs.toList.drop i).take 1 = [cs.toList[i]] := by rw [List.drop_eq_getElem_cons hi]; rfl
      rw [h2] at ea
      injection ea with ea _
      obtain ⟨b0, b1⟩ := bounds_u8 wa
      exact ⟨a, ea, b0, by omega⟩
    refine ⟨cs.toList.map fun v => match v with | .int _ a => UInt8.ofNat a.toNat | _ => 0, ?_, by simpa using hn⟩
    have : cs = ac (cs.toList.map fun v => match v with | .int _ a => UInt8.ofNat a.toNat | _ => 0) := by
      unfold ac
      apply Array.toList_inj.1
      refine List.ext_getElem (by simp) (fun i h1 h2 => ?_)
      obtain ⟨a, ea, b0, b1⟩ := hall i h1
      have e : a = (((UInt8.ofNat a.toNat).toNat : Nat) : Int) := by rw [UInt8.toNat_ofNat']; omega
      simp only [bc, List.getElem_map, ea]
      exact congrArg (Value.int .u8) e
    exact congrArg Value.agg this
end
end Go.Proofs.Yteoomhkdffnkkaa
