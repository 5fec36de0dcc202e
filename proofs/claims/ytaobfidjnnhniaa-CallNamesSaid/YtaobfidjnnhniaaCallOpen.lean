/- Heads and answers among a law's arguments, opened; in a box. -/
import Derived.Test.YtaobfidjnnhniaaCallRefTell
import Derived.Lib.SmallJoins
namespace Go.Proofs.Ytaobfidjnnhniaa
set_option linter.unusedVariables false
set_option linter.unusedSimpArgs false
open Go.ChangeShapes Go.WideShapes Go.ChangeAt Go.RowKit Go.Joins Pl
open Go.ChangeMaps (open_string)

abbrev headV (c x p : Int) (l : List UInt8) : Value := .agg #[.int .i64 c, .int .i64 x, .int .i64 p, sv l]
abbrev ansV (x e : Int) (l : List UInt8) : Value := .agg #[.int .i64 x, .int .i64 e, sv l]
def i64 (n : Int) : Prop := -9223372036854775808 ≤ n ∧ n ≤ 9223372036854775807

/-- A head stands in block g. -/
structure BoxD (w : World) (g : Nat) (c x p : Int) (l : List UInt8) : Prop where
  lt : g < w.heap.size
  c0 : w.cell? ⟨g, 0, none⟩ = some (.int .i64 c)
  c1 : w.cell? ⟨g, 1, none⟩ = some (.int .i64 x)
  c2 : w.cell? ⟨g, 2, none⟩ = some (.int .i64 p)
  c3 : w.cell? ⟨g, 3, none⟩ = some (sv l)
theorem BoxD.new (w : World) (c x p : Int) (l : List UInt8) (t : TypeId) : BoxD (w.alloc (.cells #[.int .i64 c, .int .i64 x, .int .i64 p, sv l] t)) w.heap.size c x p l := ⟨by simp, by simp, by simp, by simp, by simp⟩
theorem BoxD.below {w w' : World} {g : Nat} {c x p : Int} {l : List UInt8} (h : BoxD w g c x p l) (hb : Below w.heap.size w w') : BoxD w' g c x p l :=
  ⟨Nat.lt_of_lt_of_le h.lt hb.size, (hb.cell (p := ⟨g, 0, none⟩) h.lt).trans h.c0, (hb.cell (p := ⟨g, 1, none⟩) h.lt).trans h.c1, (hb.cell (p := ⟨g, 2, none⟩) h.lt).trans h.c2, (hb.cell (p := ⟨g, 3, none⟩) h.lt).trans h.c3⟩
theorem BoxD.alloc {w : World} {g : Nat} {c x p : Int} {l : List UInt8} (h : BoxD w g c x p l) (o : Obj) : BoxD (w.alloc o) g c x p l := h.below ((Below.refl _ _).alloc (Nat.le_refl _) o)

/-- An answer stands in block g. -/
structure BoxA (w : World) (g : Nat) (x e : Int) (l : List UInt8) : Prop where
  lt : g < w.heap.size
  c0 : w.cell? ⟨g, 0, none⟩ = some (.int .i64 x)
  c1 : w.cell? ⟨g, 1, none⟩ = some (.int .i64 e)
  c2 : w.cell? ⟨g, 2, none⟩ = some (sv l)
theorem BoxA.new (w : World) (x e : Int) (l : List UInt8) (t : TypeId) (g : Nat) (hg : g = w.heap.size) : BoxA (w.alloc (.cells #[.int .i64 x, .int .i64 e, sv l] t)) g x e l := by subst hg; exact ⟨by simp, by simp, by simp, by simp⟩
theorem BoxA.below {w w' : World} {g : Nat} {x e : Int} {l : List UInt8} (h : BoxA w g x e l) (hb : Below w.heap.size w w') : BoxA w' g x e l :=
  ⟨Nat.lt_of_lt_of_le h.lt hb.size, (hb.cell (p := ⟨g, 0, none⟩) h.lt).trans h.c0, (hb.cell (p := ⟨g, 1, none⟩) h.lt).trans h.c1, (hb.cell (p := ⟨g, 2, none⟩) h.lt).trans h.c2⟩

section
variable {H : Type} {enc : TypeId × Value → H} {w : World} {base : Nat} {spare : Nat → Bool} {held : Bool}
theorem open_head {r : Reach} {b0 : Nat} {v : Value} {d : DataW H} {p : List MemPlace} (hv0 : Value.okWide Try.prog w r b0 23 v) (h : DataW.Trod enc Try.prog w base spare held 23 v d p) :
    ∃ (a b c : Int) (l : List UInt8), v = headV a b c l ∧ i64 a ∧ i64 b ∧ i64 c ∧ l.length ≤ maxLen := by
  obtain ⟨v0, v1, v2, v3, y0, y1, y2, y3, n, rfl, rfl, rfl, h0, h1, h2, h3⟩ := open_agg4 Try.underlying23 (by kernel_rfl) (by kernel_rfl) hv0 h
  obtain ⟨a, e0, rfl, wa⟩ := DataW.trod_int Try.underlying3 h0
  obtain ⟨b, e1, rfl, wb⟩ := DataW.trod_int Try.underlying3 h1
  obtain ⟨c, e2, rfl, wc⟩ := DataW.trod_int Try.underlying3 h2
  obtain ⟨s, e3, _, hs⟩ := DataW.trod_string Try.underlying9 h3
  simp at e0 e1 e2 e3
  subst e0 e1 e2 e3
  exact ⟨a, b, c, s.data.toList, by show Value.agg _ = Value.agg #[_, _, _, .string ⟨s.data.toList.toArray⟩]; rw [Array.toArray_toList], bounds_i64 wa, bounds_i64 wb, bounds_i64 wc, by rw [Array.length_toList]; exact hs⟩
theorem open_ans {r : Reach} {b0 : Nat} {v : Value} {d : DataW H} {p : List MemPlace} (hv0 : Value.okWide Try.prog w r b0 26 v) (h : DataW.Trod enc Try.prog w base spare held 26 v d p) :
    ∃ (a b : Int) (l : List UInt8), v = ansV a b l ∧ i64 a ∧ i64 b ∧ l.length ≤ maxLen := by
  obtain ⟨v0, v1, v2, y0, y1, y2, n, rfl, rfl, rfl, h0, h1, h2⟩ := open_agg3 Try.underlying26 (by kernel_rfl) (by kernel_rfl) hv0 h
  obtain ⟨a, e0, rfl, wa⟩ := DataW.trod_int Try.underlying3 h0
  obtain ⟨b, e1, rfl, wb⟩ := DataW.trod_int Try.underlying24 h1
  obtain ⟨s, e2, _, hs⟩ := DataW.trod_string Try.underlying9 h2
  simp at e0 e1 e2
  subst e0 e1 e2
  exact ⟨a, b, s.data.toList, by show Value.agg _ = Value.agg #[_, _, .string ⟨s.data.toList.toArray⟩]; rw [Array.toArray_toList], bounds_i64 wa, bounds_i64 wb, by rw [Array.length_toList]; exact hs⟩
end
end Go.Proofs.Ytaobfidjnnhniaa
