/- A region that draws its order, whose calls make memory: what is known of the world grows from call to call ('HOLD'). -/
import Derived.Test.YtaobfidjnnhniaaSlices
import Derived.Deep.RegionHeld3
namespace Go.Proofs.Ytaobfidjnnhniaa
set_option linter.unusedVariables false
set_option linter.unusedSimpArgs false
open Go.ChangeShapes Go.WideShapes Go.ChangeAt Go.RowKit

theorem wpAnyH_more {P : Program} {md : Region.Mode} {ops : Array Oper} {Q : Exit → Act → World → Prop} {S S' : World → Prop} (hS : ∀ w, S' w → S w) :
    ∀ (fuel : Nat) (listed : Array Bool) (a : Act) (w : World), wpAnyH P md ops Q S' fuel listed a w → wpAnyH P md ops Q S fuel listed a w
  | 0, _, _, _, h => h
  | fuel + 1, _, _, _, h => ⟨h.1, fun i hi => wpOp_mono (fun a' w' h' => ⟨hS w' h'.1, wpAnyH_more hS fuel _ a' w' h'.2⟩) (h.2 i hi)⟩

theorem shut_more {P : Program} {md : Region.Mode} {ops : Array Oper} {Q : Exit → Act → World → Prop} {S : World → Prop} {fuel : Nat} {l : Array Bool} {K : Act → World → Prop} (T : World → Prop)
    (h : Shut (∀ a w, S w → (S w → wpAnyH P md ops Q S fuel l a w) → K a w)) : Shut (∀ a w, (S w ∧ T w) → ((S w ∧ T w) → wpAnyH P md ops Q (fun W => S W ∧ T W) fuel l a w) → K a w) :=
  fun a w hs hw => h a w hs.1 (fun _ => wpAnyH_more (fun _ h => h.1) fuel l a w (hw hs))

/-- 'string(b)', in every later world. -/
theorem BytesV.strings {P : Program} {w : World} {v : Value} {l : List UInt8} (h : BytesV w v l) {src dst e : TypeId} (hs : P.underlying src = some (.slice e)) (he : P.underlying e = some (.int .u8)) (hd : P.underlying dst = some .string)
    (W : World) (hW : Below w.heap.size w W) : (convert src dst v).run P W = .ok (.string ⟨l.toArray⟩) W := (h.below hW).string hs he hd

theorem RowB.below {w w' : World} {base : Nat} {v : Value} {l : List UInt8} (h : RowB w base v l) (hb : Below w.heap.size w w') : RowB w' base v l := by
  obtain ⟨g, c, rfl, h1, h2, h3, h4, hk⟩ := h
  exact ⟨g, c, rfl, h1, Nat.lt_of_lt_of_le h2 hb.size, h3, h4, fun k h => ⟨(hb.cell (p := ⟨g, k, none⟩) h2).trans (hk k h).1, (hb.frozen (p := ⟨g, k, none⟩) h2).trans (hk k h).2⟩⟩

theorem RowB.at {w : World} {base g n c : Nat} {l : List UInt8} (h : RowB w base (.slice (some ⟨g, 0, none⟩) n c) l) {k : Nat} (hk : k < l.length) :
    w.cell? ⟨g, k, none⟩ = some (.int .u8 (l[k].toNat : Int)) ∧ w.frozen? ⟨g, k, none⟩ = false := by
  obtain ⟨g', c', e, _, _, _, _, hcell⟩ := h
  injection e with e1 e2 e3
  injection e1 with e1
  injection e1 with e1 _ _
  subst e1
  exact hcell k hk

theorem eq_both {A B : Prop} (a : A) (b : B) : A = B := propext ⟨fun _ => b, fun _ => a⟩
theorem shut_eq {P : Program} {md : Region.Mode} {ops : Array Oper} {Q : Exit → Act → World → Prop} {S : World → Prop} {fuel : Nat} {l : Array Bool} {K : Act → World → Prop} (T : World → Prop)
    (h : Shut (∀ a w, S w → (S w → wpAnyH P md ops Q S fuel l a w) → K a w)) :
    Shut (∀ a w, S w → (S w → wpAnyH P md ops Q S fuel l a w) → K a w) = Shut (∀ a w, (S w ∧ T w) → ((S w ∧ T w) → wpAnyH P md ops Q (fun W => S W ∧ T W) fuel l a w) → K a w) := eq_both h (shut_more T h)
end Go.Proofs.Ytaobfidjnnhniaa
