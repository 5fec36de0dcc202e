/- The examples of the layer (jettylaw01.works). -/
import Derived.Test.YtnfibmoajimolaaRead3
import Derived.Test.YtnfibmoajimolaaXdrText
import Derived.Test.YtnfibmoajimolaaXdrWrite2
import Derived.Test.YtnfibmoajimolaaOpenBytes
import Derived.Lib.SmallJoins
namespace Go.Proofs.Ytnfibmoajimolaa
set_option linter.unusedVariables false
set_option linter.unusedSimpArgs false
open Go.ChangeShapes Go.WideShapes Go.ChangeAt Go.RowKit Pl
attribute [local go_sem] ba_toList ba_size

theorem Rd.keep {w w' : World} {g h : Nat} {r : Option (List UInt8)} {x : Nat} (hr : Rd w g h r) (hb : w.grownBy w' (some x)) (h1 : g ≠ x) (h2 : h ≠ x) : Rd w' g h r := hr.but hb (fun e => h1 (Option.some.inj e)) (fun e => h2 (Option.some.inj e))
theorem below_by {B : Nat} {w w1 w' : World} {x : Nat} (h : Below B w w1) (hb : w1.grownBy w' (some x)) (hB : B ≤ w1.heap.size) (hx : B ≤ x) : Below B w w' := h.grown hb hB (fun k e => by cases e; exact hx)

theorem bytesV_lit (w : World) (l : List UInt8) (n : Nat) (hn : l.length = n) (hl : n ≤ maxLen) : BytesV (w.alloc (.cells (bc l).toArray 5 (n, n + 1))) (.slice (some ⟨w.heap.size, 0, none⟩) n n) l := by
  subst hn
  exact ⟨_, _, rfl, Nat.le_refl _, hl, (fun h => by cases h), fun h0 => ⟨w.heap.size, 0, rfl, by simp, fun k hk => by
    rw [Nat.zero_add]
    refine (World.cell?_alloc_mark w (bc l).toArray 5 (l.length, l.length + 1) k).trans ?_
    simpa using bc_get l k hk⟩⟩
theorem kconst (w : World) (C : Array Value) (n c : Nat) : (convert 22 22 (.slice (some ⟨w.heap.size, 0, none⟩) n c)).run Try.prog (w.alloc (.cells C 5)) = .ok (.slice (some ⟨w.heap.size, 0, none⟩) n c) (w.alloc (.cells C 5 (C.size, C.size + 1))) :=
  Lib.run_convert_bytes_const (P := Try.prog) w 22 5 C n c Try.underlying22 Try.underlying5

set_option maxRecDepth 100000 in
set_option maxHeartbeats 3200000 in
theorem works_any (w : World) : Calls Try.prog 21 #[] w fun e w' => e = .returned (.bool true) ∧ Below w.heap.size w w' := by
  have A0 := bytesV_lit w [0, 0, 0, 4, 97, 98, 99, 100] 8 rfl (by unfold maxLen; omega)
  have AL := Lib.hid A0
  clear A0
  have kc := kconst
  go_enter Try.func21, Try.ntmps21
  go_wp2_with fail
  refine (NewReader_any _ [0, 0, 0, 4, 97, 98, 99, 100] _ AL.out (by simp)).mono ?_; rintro e w1 ⟨ga, ha, rfl, ra, hw1, ga0, ha0, ga1, ha1⟩
  have b1 : Below w.heap.size w w1 := Below.trans (by repeat' (first | (with_reducible exact Below.refl _ _) | (with_reducible assumption) | (with_reducible refine below_drewN ?_ _) | (with_reducible refine Below.alloc ?_ ?_ _) | (with_reducible refine Below.drew ?_) | (with_reducible refine Below.setCell ?_ ?_ _) | go_size)) (hw1.mono (by simp))
  have s1 := b1.size
  have ga0 : w.heap.size ≤ ga := by simp at ga0; omega
  have ha0 : w.heap.size ≤ ha := by simp at ha0; omega
  have A0 := bytesV_lit w1 [0, 0, 0, 2] 4 rfl (by unfold maxLen; omega)
  have AL2 := Lib.hid A0
  clear A0 hw1
  go_wp2_with fail
  refine (NewReader_any _ [0, 0, 0, 2] _ AL2.out (by simp)).mono ?_; rintro e w2 ⟨gb, hb, rfl, rb, hw2, gb0, hb0, gb1, hb1⟩
  have c2 : Below w1.heap.size w1 w2 := Below.trans (by repeat' (first | (with_reducible exact Below.refl _ _) | (with_reducible assumption) | (with_reducible refine below_drewN ?_ _) | (with_reducible refine Below.alloc ?_ ?_ _) | (with_reducible refine Below.drew ?_) | (with_reducible refine Below.setCell ?_ ?_ _) | go_size)) (hw2.mono (by simp))
  have b2 := chain b1 c2
  have s2 := c2.size
  have ra := ra.below c2
  have gb0 : w1.heap.size ≤ gb := by simp at gb0; omega
  have hb0 : w1.heap.size ≤ hb := by simp at hb0; omega
  have A0 := bytesV_lit w2 [0, 0, 0, 5, 97, 98, 99, 100, 101, 0, 0, 0, 0, 0, 0, 1] 16 rfl (by unfold maxLen; omega)
  have AL3 := Lib.hid A0
  clear A0 hw2
  go_wp2_with fail
  refine (NewReader_any _ [0, 0, 0, 5, 97, 98, 99, 100, 101, 0, 0, 0, 0, 0, 0, 1] _ AL3.out (by simp)).mono ?_; rintro e w3 ⟨gc, hc, rfl, rc, hw3, gc0, hc0, gc1, hc1⟩
  have c3 : Below w2.heap.size w2 w3 := Below.trans (by repeat' (first | (with_reducible exact Below.refl _ _) | (with_reducible assumption) | (with_reducible refine below_drewN ?_ _) | (with_reducible refine Below.alloc ?_ ?_ _) | (with_reducible refine Below.drew ?_) | (with_reducible refine Below.setCell ?_ ?_ _) | go_size)) (hw3.mono (by simp))
  have b3 := chain b2 c3
  have s3 := c3.size
  have ra := ra.below c3
  have rb := rb.below c3
  have gc0 : w2.heap.size ≤ gc := by simp at gc0; omega
  have hc0 : w2.heap.size ≤ hc := by simp at hc0; omega
  clear hw3
  go_wp2_with fail
  refine (Word_any _ [] _ _ (BytesV.nil _) (by omega) (by omega) (by simp)).mono ?_; rintro e w4 ⟨v4, rfl, r4, hw4⟩
  have z4 := r4.bytes.string (P := Try.prog) Try.underlying22 Try.underlying5 Try.underlying9
  rw [show [] ++ be 4 (1 : Int).toNat = [0, 0, 0, 1] from rfl] at z4
  go_wp2_with fail
  refine (Int_any _ [] _ _ (BytesV.nil _) (by simp)).mono ?_; rintro e w5 ⟨v5, rfl, r5, hw5⟩
  have z5 := r5.bytes.string (P := Try.prog) Try.underlying22 Try.underlying5 Try.underlying9
  rw [show [] ++ be 8 (IntKind.u64.wrap (-1)).toNat = [255, 255, 255, 255, 255, 255, 255, 255] from rfl] at z5
  go_wp2_with fail
  refine (Text_any _ [] [97, 98, 99, 100, 101] _ (BytesV.nil _) (by simp)).mono ?_; rintro e w6 ⟨v6, rfl, r6, hw6⟩
  have z6 := r6.string (P := Try.prog) Try.underlying22 Try.underlying5 Try.underlying9
  rw [show [] ++ textB [97, 98, 99, 100, 101] = [0, 0, 0, 5, 97, 98, 99, 100, 101, 0, 0, 0] from rfl] at z6
  have A0 := bytesV_lit w6 [120] 1 rfl (by unfold maxLen; omega)
  have AL4 := Lib.hid A0
  clear A0
  go_wp2_with fail
  refine (Fixed_any _ [120] [97] _ AL4.out (by simp)).mono ?_; rintro e w7 ⟨v7, rfl, r7, hw7⟩
  have z7 := r7.string (P := Try.prog) Try.underlying22 Try.underlying5 Try.underlying9
  rw [show [120] ++ fixB [97] = [120, 97, 0, 0, 0] from rfl] at z7
  have c7 : Below w3.heap.size w3 w7 := chain (chain (chain (chain hw4 hw5) hw6) (by repeat' (first | (with_reducible exact Below.refl _ _) | (with_reducible assumption) | (with_reducible refine below_drewN ?_ _) | (with_reducible refine Below.alloc ?_ ?_ _) | (with_reducible refine Below.drew ?_) | (with_reducible refine Below.setCell ?_ ?_ _) | go_size) : Below w6.heap.size w6 (w6.alloc _))) hw7
  have b7 := chain b3 c7
  have s7 := c7.size
  have ra := ra.below c7
  have rb := rb.below c7
  have rc := rc.below c7
  clear hw4 hw5 hw6 hw7 r4 r5 r6 r7
  go_wp2_with fail
  refine (rText_any 3 _ ra).mono ?_; rintro e w8 ⟨rfl, ra, h8⟩
  rw [show textR 3 (some [0, 0, 0, 4, 97, 98, 99, 100]) = ([], none) from rfl] at ra
  have rb := rb.keep h8 (by omega) (by omega)
  have rc := rc.keep h8 (by omega) (by omega)
  have b8 := below_by b7 h8 (by omega) (by omega)
  have s8 := h8.size
  go_wp2_with fail
  refine (OK_any _ ra).mono ?_; rintro e w' ⟨rfl, rfl⟩
  go_wp2_with fail
  refine (rFlag_any _ rb).mono ?_; rintro e w9 ⟨rfl, rb, h9⟩
  rw [show flagR (some [0, 0, 0, 2]) = (false, none) from rfl] at rb
  have rc := rc.keep h9 (by omega) (by omega)
  have b9 := below_by b8 h9 (by omega) (by omega)
  have s9 := h9.size
  go_wp2_with fail
  refine (OK_any _ rb).mono ?_; rintro e w' ⟨rfl, rfl⟩
  go_wp2_with fail
  refine (rText_any 5 _ rc).mono ?_; rintro e w10 ⟨rfl, rc, h10⟩
  rw [show textR 5 (some [0, 0, 0, 5, 97, 98, 99, 100, 101, 0, 0, 0, 0, 0, 0, 1]) = ([97, 98, 99, 100, 101], some [0, 0, 0, 1]) from rfl] at rc
  have b10 := below_by b9 h10 (by omega) (by omega)
  have s10 := h10.size
  go_wp2_with fail
  refine (Left_any _ rc).mono ?_; rintro e w' ⟨rfl, rfl⟩
  go_wp2_with fail
  refine (rFlag_any _ rc).mono ?_; rintro e w11 ⟨rfl, rc, h11⟩
  rw [show flagR (some [0, 0, 0, 1]) = (true, some []) from rfl] at rc
  have b11 := below_by b10 h11 (by omega) (by omega)
  go_wp2_with fail
  refine (Done_any _ rc).mono ?_; rintro e w' ⟨rfl, rfl⟩
  go_wp2_with fail
  go_goals
  go_ret
  exact ⟨rfl, b11⟩
end Go.Proofs.Ytnfibmoajimolaa
