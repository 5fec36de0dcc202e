/- A disk's methods, as the laws meet them: one disk whose blocks lie beyond a base. Conditions: none. -/
import Derived.Test.YteoomhkdffnkkaaDskRead
import Derived.Test.YteoomhkdffnkkaaDskCopy
import Derived.Deep.DeepCutAuto
namespace Go.Proofs.Yteoomhkdffnkkaa
set_option linter.unusedVariables false
set_option linter.unusedSimpArgs false
open Go.ChangeShapes Go.WideShapes Go.ChangeAt Go.RowKit
set_option maxRecDepth 100000

attribute [local go_sem] zeroValueB
attribute [local go_sem] run_build_none

theorem Read_any {fp rp : Nat → Prop} {g : Nat} {d : Dk} (n : Int) (w : World) (h : DiskV w fp rp g d) (hn : (Lit.int .i64 n).wf = true) :
    Calls Try.prog 51 #[dptr g, .int .i64 n] w fun e w' => e = .returned (.tuple #[blk (d.read n), .int .i64 (d.bad n)]) ∧ Below w.heap.size w w' := by
  unfold Dk.read
  by_cases hb : d.bad n = 0
  · rw [if_pos hb, hb]
    exact Read_ok n w h hb hn
  · rw [if_neg hb]
    refine Read_bad (dptr g) n (d.bad n) w (by simp [hb]) (fun W hW => ?_)
    obtain ⟨m, v, kv, D⟩ := h.below hW
    exact bad_cell n W D.box.cells.1 D.box.cells.2.2.2.2.2

/-! ### a block of a byte -/
def mkB (c : UInt8) : List UInt8 := (((zs 512).set 0 c).set 200 (c + 1)).set 511 (c + 2)
theorem mkB_len (c : UInt8) : (mkB c).length = 512 := by simp [mkB]
theorem mkB_get (c : UInt8) : (mkB c)[0]? = some c := by
  unfold mkB
  rw [List.getElem?_set_ne (by decide), List.getElem?_set_ne (by decide), List.getElem?_set_self (by simp)]
theorem mkB_inj {a b : UInt8} (h : mkB a = mkB b) : a = b := by
  have h1 := mkB_get a
  rw [h, mkB_get b] at h1
  injection h1 with h1
  exact h1.symm
theorem mkB_zero (c : UInt8) : mkB c ≠ zs 512 := by
  intro h
  have h1 : (mkB c)[0]? = some 0 := by rw [h]; unfold zs; rw [List.getElem?_replicate, if_pos (by decide)]
  have h2 : (mkB c)[200]? = some 0 := by rw [h]; unfold zs; rw [List.getElem?_replicate, if_pos (by decide)]
  rw [mkB_get] at h1
  have h3 : (mkB c)[200]? = some (c + 1) := by
    unfold mkB
    rw [List.getElem?_set_ne (by decide), List.getElem?_set_self (by simp)]
  rw [h3] at h2
  injection h1 with h1
  injection h2 with h2
  rw [h1] at h2
  exact absurd h2 (by decide)
def wantB (c : UInt8) : List UInt8 := if c = 0 then zs 512 else mkB c
theorem wantB_len (c : UInt8) : (wantB c).length = 512 := by
  unfold wantB
  split
  · simp
  · exact mkB_len c

theorem ac_set (l : List UInt8) (j : Nat) (x : UInt8) : (ac l).setIfInBounds j (.int .u8 (x.toNat : Int)) = ac (l.set j x) := by
  unfold ac
  simp [bc, List.map_set]
theorem u8_add (c k : UInt8) : ((c.toNat : Int) + (k.toNat : Int)) % 256 = ((c + k).toNat : Int) := by
  rw [UInt8.toNat_add]
  omega
end Go.Proofs.Yteoomhkdffnkkaa
