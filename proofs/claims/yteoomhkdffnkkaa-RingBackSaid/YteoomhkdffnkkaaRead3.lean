/- The reader of bytes: texts. -/
import Derived.Test.YteoomhkdffnkkaaRead2
namespace Go.Proofs.Yteoomhkdffnkkaa
set_option linter.unusedVariables false
set_option linter.unusedSimpArgs false
open Go.ChangeShapes Go.WideShapes Go.ChangeAt Go.RowKit Pl

def zero? (l : List UInt8) : Bool := l.all fun c => c == 0
def fixR (n : Int) : Option (List UInt8) → List UInt8 × Option (List UInt8)
  | none => ([], none)
  | some l => if 0 ≤ n ∧ n.toNat + padN n.toNat ≤ l.length ∧ zero? ((l.drop n.toNat).take (padN n.toNat)) = true then (l.take n.toNat, some (l.drop (n.toNat + padN n.toNat))) else ([], none)

theorem zero_append (l m : List UInt8) : zero? (l ++ m) = (zero? l && zero? m) := by simp [zero?]

/-- The reader behind k bytes of the padding zs. -/
def padSt (zs : List UInt8) (k : Nat) (r : Option (List UInt8)) : Option (List UInt8) := if zero? (zs.take k) then r else none

def textR (m : Int) (r : Option (List UInt8)) : List UInt8 × Option (List UInt8) := fixR ((countR (max 0 m) r).1 : Int) (countR (max 0 m) r).2

theorem countR_lt (m : Int) (r : Option (List UInt8)) : (countR m r).1 < 4294967296 := by
  have h := wordR_lt r
  unfold countR
  split
  · omega
  · split
    · omega
    · exact h

theorem frozen_new (w : World) (c : Array Value) (t : TypeId) (k : Nat) : (w.alloc (.cells c t)).frozen? ⟨w.heap.size, k, none⟩ = false := by
  unfold World.frozen?
  rw [show (w.alloc (.cells c t)).heap[(⟨w.heap.size, k, none⟩ : Addr).block]? = some (.cells c t) from heap_alloc_new w _]
  simp

/-- A new reader: in a block of its own, and so are its bytes. -/
theorem NewReader_any (v : Value) (l : List UInt8) (w : World) (hl : BytesV w v l) (hm : l.length ≤ 140737488355328) :
    Calls Try.prog 45 #[v] w fun e w' => ∃ g h, e = .returned (ptr g) ∧ Rd w' g h (some l) ∧ Below w.heap.size w w' ∧ w.heap.size ≤ g ∧ w.heap.size ≤ h ∧ g < w'.heap.size ∧ h < w'.heap.size := by
  go_enter Try.func45, Try.ntmps45
  go_wp2_with fail
  refine (put_any _ _ [] l _ (BytesV.nil _) hl (by simpa using hm)).mono ?_; rintro e w1 ⟨v1, rfl, hv1, hw1, hrow⟩
  rw [List.nil_append] at hv1 hrow
  have HR := Lib.hid hrow
  clear hrow
  have hv0 := Lib.hid hv1
  obtain ⟨A, c, rfl, _, _, _, hx⟩ := hv1
  clear hx
  have c0 := cell_new w1 #[Value.slice A l.length c, .bool false] 106 w1.heap.size 0 rfl
  have c1 := cell_new w1 #[Value.slice A l.length c, .bool false] 106 w1.heap.size 1 rfl
  have sz := hw1.size
  go_wp2_with fail
  go_ret
  by_cases h0 : l = []
  · refine ⟨w1.heap.size, w1.heap.size, rfl, ⟨_, hv0.out.alloc _, (fun a n c e h => ?_), c0, c1, ?_, ?_, ?_, fun j h2 => ?_⟩, ?_, sz, sz, ?_, ?_⟩
    · subst h0; simp at h
    all_goals first | (simp; done) | (rw [cell_new _ _ _ _ _ rfl]; simp; omega) | exact frozen_new _ _ _ _ | exact hw1.alloc hw1.size _
  · obtain ⟨b, c', e, hb0, hb1, _⟩ := HR.out h0
    injection e with e1 e2 e3
    subst e1 e3
    refine ⟨w1.heap.size, b, rfl, ⟨_, hv0.out.alloc _, (fun a n c e h => ?_), c0, c1, ?_, ?_, ?_, fun j h2 => ?_⟩, ?_, sz, hb0, ?_, ?_⟩
    · injection e with e1
      injection e1 with e1
      subst e1
      exact ⟨rfl, fun e => by omega⟩
    all_goals first | (simp; done) | (rw [cell_new _ _ _ _ _ rfl]; simp; omega) | (simp; omega) | exact frozen_new _ _ _ _ | exact hw1.alloc hw1.size _
end Go.Proofs.Yteoomhkdffnkkaa
