/- Handles among a law's arguments, opened. Conditions: none. -/
import Derived.Test.YtchldgedpncggaaHandleAwake
import Derived.Lib.SmallJoins
import Derived.OpenShut
namespace Go.Proofs.Ytchldgedpncggaa
set_option linter.unusedVariables false
set_option linter.unusedSimpArgs false
open Go.ChangeShapes Go.WideShapes Go.ChangeAt Go.RowKit Go.Joins Pl
open Go.ChangeMaps (open_string)

theorem cells_handle : Try.prog.cellsOf 23 = 3 := by kernel_rfl

def eqH (a b c x y z : Int) : Bool := decide (a = x ∧ b = y ∧ c = z)
theorem eql_hv (a b c x y z : Int) (w : World) : (binOp BinOp.eql 23 (.agg #[.int .i64 a, .int .i64 b, .int .i64 c]) (.agg #[.int .i64 x, .int .i64 y, .int .i64 z])).run Try.prog w = .ok (.bool (eqH a b c x y z)) w := by
  unfold eqH
  by_cases h1 : a = x <;> by_cases h2 : b = y <;> by_cases h3 : c = z <;> simp [go_sem, h1, h2, h3]
theorem neq_hv (a b c x y z : Int) (w : World) : (binOp BinOp.neq 23 (.agg #[.int .i64 a, .int .i64 b, .int .i64 c]) (.agg #[.int .i64 x, .int .i64 y, .int .i64 z])).run Try.prog w = .ok (.bool (!eqH a b c x y z)) w := by
  unfold eqH
  by_cases h1 : a = x <;> by_cases h2 : b = y <;> by_cases h3 : c = z <;> simp [go_sem, h1, h2, h3]

/-- A handle stands in block g. -/
structure BoxH (w : World) (g : Nat) (a b c : Int) : Prop where
  lt : g < w.heap.size
  c0 : w.cell? ⟨g, 0, none⟩ = some (.int .i64 a)
  c1 : w.cell? ⟨g, 1, none⟩ = some (.int .i64 b)
  c2 : w.cell? ⟨g, 2, none⟩ = some (.int .i64 c)
theorem BoxH.new (w : World) (a b c : Int) (t : TypeId) : BoxH (w.alloc (.cells #[.int .i64 a, .int .i64 b, .int .i64 c] t)) w.heap.size a b c := ⟨by simp, by simp, by simp, by simp⟩
theorem BoxH.keep {w w' : World} {g : Nat} {a b c : Int} {B : Nat} (h : BoxH w g a b c) (hb : Below B w w') (hg : g < B) : BoxH w' g a b c :=
  ⟨Nat.lt_of_lt_of_le h.lt hb.size, (hb.cell (p := ⟨g, 0, none⟩) hg).trans h.c0, (hb.cell (p := ⟨g, 1, none⟩) hg).trans h.c1, (hb.cell (p := ⟨g, 2, none⟩) hg).trans h.c2⟩
theorem BoxH.below {w w' : World} {g : Nat} {a b c : Int} (h : BoxH w g a b c) (hb : Below w.heap.size w w') : BoxH w' g a b c := h.keep hb h.lt
theorem BoxH.alloc {w : World} {g : Nat} {a b c : Int} (h : BoxH w g a b c) (o : Obj) : BoxH (w.alloc o) g a b c := h.below ((Below.refl _ _).alloc (Nat.le_refl _) o)
theorem BoxH.ext {w : World} {g : Nat} {a b c : Int} (h : BoxH w g a b c) : (∀ n : Ext w, n.W.cell? ⟨g, 0, none⟩ = some (.int .i64 a)) ∧ (∀ n : Ext w, n.W.cell? ⟨g, 1, none⟩ = some (.int .i64 b)) ∧ (∀ n : Ext w, n.W.cell? ⟨g, 2, none⟩ = some (.int .i64 c)) :=
  ⟨fun n => (h.below n.below).c0, fun n => (h.below n.below).c1, fun n => (h.below n.below).c2⟩

section
variable {H : Type} {enc : TypeId × Value → H} {w : World} {base : Nat} {spare : Nat → Bool} {held : Bool}
def i64 (n : Int) : Prop := -9223372036854775808 ≤ n ∧ n ≤ 9223372036854775807
theorem open_hv {r : Reach} {b0 : Nat} {v : Value} {d : DataW H} {p : List MemPlace} (hv0 : Value.okWide Try.prog w r b0 23 v) (h : DataW.Trod enc Try.prog w base spare held 23 v d p) :
    ∃ a b c : Int, v = hv a b c ∧ i64 a ∧ i64 b ∧ i64 c := by
  obtain ⟨v0, v1, v2, y0, y1, y2, n, rfl, rfl, rfl, h0, h1, h2⟩ := open_agg3 Try.underlying23 (by kernel_rfl) cells_handle hv0 h
  obtain ⟨a, e0, rfl, wa⟩ := DataW.trod_int Try.underlying3 h0
  obtain ⟨b, e1, rfl, wb⟩ := DataW.trod_int Try.underlying3 h1
  obtain ⟨c, e2, rfl, wc⟩ := DataW.trod_int Try.underlying3 h2
  simp at e0 e1 e2
  subst e0 e1 e2
  exact ⟨a, b, c, rfl, bounds_i64 wa, bounds_i64 wb, bounds_i64 wc⟩
/-- A string among the arguments, by its bytes. -/
theorem open_sv {r : Reach} {b0 : Nat} {v : Value} {d : DataW H} {p : List MemPlace} (hv0 : Value.okWide Try.prog w r b0 9 v) (h : DataW.Trod enc Try.prog w base spare held 9 v d p) :
    ∃ l : List UInt8, v = sv l ∧ l.length ≤ maxLen := by
  obtain ⟨s, rfl, _, _, hs⟩ := open_string Try.underlying9 hv0 h
  exact ⟨s.data.toList, by show Value.string s = .string ⟨s.data.toList.toArray⟩; rw [Array.toArray_toList], by rw [Array.length_toList]; exact hs⟩
end
end Go.Proofs.Ytchldgedpncggaa
