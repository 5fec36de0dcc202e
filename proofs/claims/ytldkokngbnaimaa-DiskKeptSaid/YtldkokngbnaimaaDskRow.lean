/- Arrays of 64 bytes of the law's own. Conditions: none. -/
import Derived.Test.YtldkokngbnaimaaDskPlain
namespace Go.Proofs.Ytldkokngbnaimaa
set_option linter.unusedVariables false
set_option linter.unusedSimpArgs false
open Go.ChangeShapes Go.WideShapes Go.ChangeAt Go.RowKit

def l64 (f : Nat → UInt8) : List UInt8 := (List.range 64).map f
theorem l64_len (f : Nat → UInt8) : (l64 f).length = 64 := by simp [l64]
theorem l64_get (f : Nat → UInt8) (n : Nat) (hn : n < 64) : (l64 f)[n]'(by rw [l64_len]; exact hn) = f n := by simp [l64]
/-- In block g lie 64 bytes. -/
def BR (w : World) (g : Nat) (f : Nat → UInt8) : Prop := w.heap[g]? = some (.cells (ac (l64 f)) 41 (0, 0))
section
variable {w w' : World} {g : Nat} {f : Nat → UInt8}
theorem BR.lt (h : BR w g f) : g < w.heap.size := (Array.getElem?_eq_some_iff.1 h).1
theorem BR.stay (h : BR w g f) (hb : w'.heap[g]? = w.heap[g]?) : BR w' g f := hb.trans h
theorem BR.cell (h : BR w g f) {n : Nat} (hn : n < 64) : w.cell? ⟨g, n, none⟩ = some (.int .u8 ((f n).toNat : Int)) := by
  rw [cell_of_row _ _ n _ _ _ h, ac_get _ n (by rw [l64_len]; exact hn), l64_get f n hn]
theorem BR.free (h : BR w g f) (n : Nat) : w.frozen? ⟨g, n, none⟩ = false := frozen_of_row w g n _ _ h
theorem BR.set (h : BR w g f) {n : Nat} (hn : n < 64) (x : UInt8) : BR (w.setCell ⟨g, n, none⟩ (.int .u8 (x.toNat : Int))) g (fun i => if i = n then x else f i) := by
  have := heap_setCell_same w g n _ _ (.int .u8 (x.toNat : Int)) h
  refine this.trans ?_
  congr 2
  unfold ac
  have e : (l64 f).set n x = l64 (fun i => if i = n then x else f i) := by
    apply List.ext_getElem
    · simp [l64]
    · intro k h1 h2
      rw [List.getElem_set]
      simp only [l64, List.getElem_map, List.getElem_range]
      by_cases e : n = k
      · rw [if_pos e, if_pos e.symm]
      · rw [if_neg e, if_neg (fun h => e h.symm)]
  rw [← e]
  simp [bc, List.map_set]
end
theorem size_row : (Try.prog.info? 41).map (·.size) = some 64 := by kernel_rfl
section
variable {ops : Array Oper} {rest : List Oper} {o : Oper} {a : Act} {Q : Exit → Act → World → Prop} {w : World} {g : Nat} {f : Nat → UInt8}
theorem wpList_load_br (hgd : o.guard = none) (x : Operand) (ho : o.op = .load 41 x) (hl : BR w g f) (hx : a.eval x = .pointer (some ⟨g, 0, none⟩))
    (h : wpList Try.prog ops Q rest (a.put o.dst (.agg (ac (l64 f)))) w) : wpList Try.prog ops Q (o :: rest) a w :=
  wpList_load_row hgd _ x ho g hx _ _ _ _ hl Try.underlying41 rfl (by rw [size_row, ac_size, l64_len]) h
theorem wpList_store_br (hgd : o.guard = none) (x y : Operand) (ho : o.op = .store 41 x y) {old : Array Value} (hl : w.heap[g]? = some (.cells old 41 (0, 0))) (hs : old.size = 64) (hx : a.eval x = .pointer (some ⟨g, 0, none⟩)) (hy : a.eval y = .agg (ac (l64 f)))
    (h : ∀ w', BR w' g f → w.grownBy w' (some g) → wpList Try.prog ops Q rest (a.put o.dst undef) w') : wpList Try.prog ops Q (o :: rest) a w := by
  have hr : (Instr.storeAt 41 (.pointer (some ⟨g, 0, none⟩)) (.agg (ac (l64 f)))).run Try.prog w = .ok () (w.setRow g (ac (l64 f))) := by
    have := run_storeVar_row (P := Try.prog) w g _ 41 old (ac (l64 f)) hl (by rw [size_row, ac_size, l64_len]) (by rw [hs, ac_size, l64_len]) (ac_one _)
    simp only [Instr.storeAt, Instr.sureAddr, Sem.run_bind, Sem.run_pure, Result.andThen_ok, this]
  refine wpList_plain hgd fun K hK => ?_
  unfold Oper.wp execOp
  simp only [ho, hx, hy, Sem.run_bind, hr, Sem.run_pure, Result.andThen_ok]
  exact hK _ _ (h _ (setRow_heap w g _ _ _ _ hl) (wb_row g _))
end
def bA (q : Nat) : UInt8 := UInt8.ofNat (q % 100 + 1)
def bB (q : Nat) : UInt8 := UInt8.ofNat (q % 100 + 101)
theorem bA_nat (q : Nat) : (bA q).toNat = q % 100 + 1 := by unfold bA; rw [UInt8.toNat_ofNat']; omega
theorem bB_nat (q : Nat) : (bB q).toNat = q % 100 + 101 := by unfold bB; rw [UInt8.toNat_ofNat']; omega
theorem want_mk {c : UInt8} (h : 0 < c.toNat) : wantB c = mkB c := if_neg (fun e => by rw [e] at h; exact absurd h (by decide))
end Go.Proofs.Ytldkokngbnaimaa
