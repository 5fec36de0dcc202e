/- The helpers of ring's laws: r, newest, many; Newest of a disk among many; works. Conditions: none. -/
import Derived.Test.YteoomhkdffnkkaaRngNewest
import Derived.Test.YteoomhkdffnkkaaRngPut
import Derived.Lib.SmallJoins
import Derived.OpenShut
namespace Go.Proofs.Yteoomhkdffnkkaa
set_option linter.unusedVariables false
set_option linter.unusedSimpArgs false
open Go.ChangeShapes Go.WideShapes Go.ChangeAt Go.RowKit Go.Joins Pl
attribute [local go_sem] ba_toList ba_size zeroValueB
set_option maxRecDepth 100000

theorem r_any (t : Int) (l : List UInt8) (w : World) : Calls Try.prog 17 #[.int .i64 t, sv l] w fun e w' => e = .returned (rootV t l) ∧ Below w.heap.size w w' := by
  have HL : Hid (l = l) := Lib.hid rfl
  go_enter Try.func17, Try.ntmps17
  go_wp2_with fail
  ((try simp only [Exit.inBlock, Exit.then]); refine bodyPost_ret (by simp [results, Try.results17, go_sem, HL]; try rfl) rfl ?_)
  exact ⟨rfl, by repeat' (first | (with_reducible exact Below.refl _ _) | (with_reducible assumption) | (with_reducible refine below_drewN ?_ _) | (with_reducible refine Below.alloc ?_ ?_ _) | (with_reducible refine Below.drew ?_) | (with_reducible refine Below.setCell ?_ ?_ _) | go_size)⟩

/-- The newest root: its group, its text, the error. -/
def nT (r0 r1 : List UInt8) : Int := (nwQ r0 r1 2).1
def nL (r0 r1 : List UInt8) : List UInt8 := if (nwQ r0 r1 2).1 = 0 then [] else (nwQ r0 r1 2).2
def nE (r0 r1 : List UInt8) : Int := if (nwQ r0 r1 2).1 = 0 then 5 else 0
theorem newV_eq (r0 r1 : List UInt8) : newV r0 r1 = .tuple #[rootV (nT r0 r1) (nL r0 r1), .int .i64 (nE r0 r1)] := by
  unfold newV nT nL nE
  by_cases h : (nwQ r0 r1 2).1 = 0
  · rw [if_pos h, if_pos h, if_pos h, h]
  · rw [if_neg h, if_neg h, if_neg h]

set_option maxHeartbeats 1600000 in
theorem newest_of {v : Value} (w : World) (T E : Int) (L : List UInt8) (t : Int) (l : List UInt8) (hN : Calls Try.prog 24 #[v] w fun e w' => e = .returned (.tuple #[rootV T L, .int .i64 E]) ∧ Below w.heap.size w w') :
    Calls Try.prog 22 #[v, .int .i64 t, sv l] w fun e w' => e = .returned (.bool (E == 0 && (T == t && L == l))) ∧ Below w.heap.size w w' := by
  have GN := Lib.hid hN
  have RA := Lib.hid (r_any t l)
  obtain ⟨b, hb⟩ : ∃ b, b = (E == 0 && (T == t && L == l)) := ⟨_, rfl⟩
  rw [← hb]
  have HB := Lib.hid hb
  clear hb hN
  by_cases hE : E = 0
  · subst hE
    by_cases ht : T = t
    · subst ht
      by_cases hl : L = l
      · subst hl
        have HBt : Hid (b = true) := Lib.hid (by rw [HB.out]; simp)
        clear HB
        go_enter Try.func22, Try.ntmps22
        go_wp2_with fail
        refine (GN.out).mono ?_; rintro e w1 ⟨rfl, hw1⟩
        have b1 : Below w.heap.size w w1 := chain (by repeat' (first | (with_reducible exact Below.refl _ _) | (with_reducible assumption) | (with_reducible refine below_drewN ?_ _) | (with_reducible refine Below.alloc ?_ ?_ _) | (with_reducible refine Below.drew ?_) | (with_reducible refine Below.setCell ?_ ?_ _) | go_size)) hw1
        have s1 := b1.size
        go_wp2_with fail
        have m0 : (w1.alloc (.cells #[.int .i64 T, sv L] 29)).cell? ⟨w1.heap.size, 0, none⟩ = some (.int .i64 T) := by simp
        have m1 : (w1.alloc (.cells #[.int .i64 T, sv L] 29)).cell? ⟨w1.heap.size, 1, none⟩ = some (sv L) := by simp
        have lm : w1.heap.size < (w1.alloc (.cells #[.int .i64 T, sv L] 29)).heap.size := by simp
        have bX : Below w.heap.size w (w1.alloc (.cells #[.int .i64 T, sv L] 29)) := by repeat' (first | (with_reducible exact Below.refl _ _) | (with_reducible assumption) | (with_reducible refine below_drewN ?_ _) | (with_reducible refine Below.alloc ?_ ?_ _) | (with_reducible refine Below.drew ?_) | (with_reducible refine Below.setCell ?_ ?_ _) | go_size)
        generalize w1.alloc (.cells #[.int .i64 T, sv L] 29) = W6 at *
        have M0 := fun n : Ext W6 => Ext.cell m0 lm n
        have M1 := fun n : Ext W6 => Ext.cell m1 lm n
        clear m0 m1
        refine wp_region_ext (by kernel_rfl) (by kernel_rfl) ?_
        repeat (go_big_quiet_step ((go_at_call 17; exact Ext.of_call (RA.out _))))
        refine wpQuiet_nil ?_
        intro n1
        go_wp2_with fail
        go_ret
        exact ⟨by rw [HBt.out]; rfl, chain bX n1.below⟩
      · have HBf : Hid (b = false) := Lib.hid (by rw [HB.out]; simp [hl])
        have hlf : (L == l) = false := by simp [hl]
        clear HB hl
        go_enter Try.func22, Try.ntmps22
        go_wp2_with fail
        refine (GN.out).mono ?_; rintro e w1 ⟨rfl, hw1⟩
        have b1 : Below w.heap.size w w1 := chain (by repeat' (first | (with_reducible exact Below.refl _ _) | (with_reducible assumption) | (with_reducible refine below_drewN ?_ _) | (with_reducible refine Below.alloc ?_ ?_ _) | (with_reducible refine Below.drew ?_) | (with_reducible refine Below.setCell ?_ ?_ _) | go_size)) hw1
        have s1 := b1.size
        go_wp2_with fail
        have m0 : (w1.alloc (.cells #[.int .i64 T, sv L] 29)).cell? ⟨w1.heap.size, 0, none⟩ = some (.int .i64 T) := by simp
        have m1 : (w1.alloc (.cells #[.int .i64 T, sv L] 29)).cell? ⟨w1.heap.size, 1, none⟩ = some (sv L) := by simp
        have lm : w1.heap.size < (w1.alloc (.cells #[.int .i64 T, sv L] 29)).heap.size := by simp
        have bX : Below w.heap.size w (w1.alloc (.cells #[.int .i64 T, sv L] 29)) := by repeat' (first | (with_reducible exact Below.refl _ _) | (with_reducible assumption) | (with_reducible refine below_drewN ?_ _) | (with_reducible refine Below.alloc ?_ ?_ _) | (with_reducible refine Below.drew ?_) | (with_reducible refine Below.setCell ?_ ?_ _) | go_size)
        generalize w1.alloc (.cells #[.int .i64 T, sv L] 29) = W6 at *
        have M0 := fun n : Ext W6 => Ext.cell m0 lm n
        have M1 := fun n : Ext W6 => Ext.cell m1 lm n
        clear m0 m1
        refine wp_region_ext (by kernel_rfl) (by kernel_rfl) ?_
        repeat (go_big_quiet_step ((go_at_call 17; exact Ext.of_call (RA.out _))))
        refine wpQuiet_nil ?_
        intro n1
        go_wp2_with fail
        go_ret
        exact ⟨by rw [HBf.out]; rfl, chain bX n1.below⟩
    · have HBf : Hid (b = false) := Lib.hid (by rw [HB.out]; simp [ht])
      have htf : (T == t) = false := by simp [ht]
      clear HB ht
      go_enter Try.func22, Try.ntmps22
      go_wp2_with fail
      refine (GN.out).mono ?_; rintro e w1 ⟨rfl, hw1⟩
      have b1 : Below w.heap.size w w1 := chain (by repeat' (first | (with_reducible exact Below.refl _ _) | (with_reducible assumption) | (with_reducible refine below_drewN ?_ _) | (with_reducible refine Below.alloc ?_ ?_ _) | (with_reducible refine Below.drew ?_) | (with_reducible refine Below.setCell ?_ ?_ _) | go_size)) hw1
      have s1 := b1.size
      go_wp2_with fail
      have m0 : (w1.alloc (.cells #[.int .i64 T, sv L] 29)).cell? ⟨w1.heap.size, 0, none⟩ = some (.int .i64 T) := by simp
      have m1 : (w1.alloc (.cells #[.int .i64 T, sv L] 29)).cell? ⟨w1.heap.size, 1, none⟩ = some (sv L) := by simp
      have lm : w1.heap.size < (w1.alloc (.cells #[.int .i64 T, sv L] 29)).heap.size := by simp
      have bX : Below w.heap.size w (w1.alloc (.cells #[.int .i64 T, sv L] 29)) := by repeat' (first | (with_reducible exact Below.refl _ _) | (with_reducible assumption) | (with_reducible refine below_drewN ?_ _) | (with_reducible refine Below.alloc ?_ ?_ _) | (with_reducible refine Below.drew ?_) | (with_reducible refine Below.setCell ?_ ?_ _) | go_size)
      generalize w1.alloc (.cells #[.int .i64 T, sv L] 29) = W6 at *
      have M0 := fun n : Ext W6 => Ext.cell m0 lm n
      have M1 := fun n : Ext W6 => Ext.cell m1 lm n
      clear m0 m1
      refine wp_region_ext (by kernel_rfl) (by kernel_rfl) ?_
      repeat (go_big_quiet_step ((go_at_call 17; exact Ext.of_call (RA.out _))))
      refine wpQuiet_nil ?_
      intro n1
      go_wp2_with fail
      go_ret
      exact ⟨by rw [HBf.out]; rfl, chain bX n1.below⟩
  · have HBf : Hid (b = false) := Lib.hid (by rw [HB.out]; simp [hE])
    have hEf : (E == 0) = false := by simp [hE]
    clear HB hE
    go_enter Try.func22, Try.ntmps22
    go_wp2_with fail
    refine (GN.out).mono ?_; rintro e w1 ⟨rfl, hw1⟩
    have b1 : Below w.heap.size w w1 := chain (by repeat' (first | (with_reducible exact Below.refl _ _) | (with_reducible assumption) | (with_reducible refine below_drewN ?_ _) | (with_reducible refine Below.alloc ?_ ?_ _) | (with_reducible refine Below.drew ?_) | (with_reducible refine Below.setCell ?_ ?_ _) | go_size)) hw1
    have s1 := b1.size
    go_wp2_with fail
    have bX : Below w.heap.size w (w1.alloc (.cells #[.int .i64 T, sv L] 29)) := by repeat' (first | (with_reducible exact Below.refl _ _) | (with_reducible assumption) | (with_reducible refine below_drewN ?_ _) | (with_reducible refine Below.alloc ?_ ?_ _) | (with_reducible refine Below.drew ?_) | (with_reducible refine Below.setCell ?_ ?_ _) | go_size)
    generalize w1.alloc (.cells #[.int .i64 T, sv L] 29) = W6 at *
    refine wp_region_ext (by kernel_rfl) (by kernel_rfl) ?_
    repeat (go_big_quiet_step ((go_at_call 17; exact Ext.of_call (RA.out _))))
    refine wpQuiet_nil ?_
    intro n1
    go_wp2_with fail
    go_ret
    exact ⟨by rw [HBf.out]; rfl, chain bX n1.below⟩

section
variable {B : Nat} {own : List Nat} {ls : List (Nat × Nat × Dk)} {i g : Nat} {d : Dk}
theorem newest_m (w : World) (h : Many B own w ls) (hm : (i, g, d) ∈ ls) (h0 : d.bad 0 = 0) (h1 : d.bad 1 = 0) (hB : B ≤ w.heap.size) {T E : Int} {L : List UInt8} (hT : nT (d.look 0) (d.look 1) = T) (hL : nL (d.look 0) (d.look 1) = L) (hE : nE (d.look 0) (d.look 1) = E) :
    Calls Try.prog 24 #[dptr g] w fun e w' => e = .returned (.tuple #[rootV T L, .int .i64 E]) ∧ Many B own w' ls ∧ Below B w w' ∧ Same own w w' := by
  subst hT hL hE
  obtain ⟨fp, rp, h'⟩ := h.get hm
  refine (newest_q w h' h0 h1).mono fun e w' ⟨he, hb⟩ => ⟨by rw [he, newV_eq], quiet_m h hB hb⟩
theorem isnew_m (t : Int) (l : List UInt8) (w : World) (h : Many B own w ls) (hm : (i, g, d) ∈ ls) (h0 : d.bad 0 = 0) (h1 : d.bad 1 = 0) (hB : B ≤ w.heap.size) {T E : Int} {L : List UInt8} (hT : nT (d.look 0) (d.look 1) = T) (hL : nL (d.look 0) (d.look 1) = L) (hE : nE (d.look 0) (d.look 1) = E) {b : Bool} (hb : (E == 0 && (T == t && L == l)) = b) :
    Calls Try.prog 22 #[dptr g, .int .i64 t, sv l] w fun e w' => e = .returned (.bool b) ∧ Many B own w' ls ∧ Below B w w' ∧ Same own w w' := by
  subst hT hL hE hb
  obtain ⟨fp, rp, h'⟩ := h.get hm
  refine (newest_of w _ _ _ t l ((newest_q w h' h0 h1).mono fun e w' ⟨he, hb⟩ => ⟨by rw [he, newV_eq], hb⟩)).mono fun e w' ⟨he, hb⟩ => ⟨he, quiet_m h hB hb⟩
theorem r_m (t : Int) (l : List UInt8) (w : World) (h : Many B own w ls) (hB : B ≤ w.heap.size) : Calls Try.prog 17 #[.int .i64 t, sv l] w fun e w' => e = .returned (rootV t l) ∧ Many B own w' ls ∧ Below B w w' ∧ Same own w w' :=
  (r_any t l w).mono fun e w' ⟨he, hb⟩ => ⟨he, quiet_m h hB hb⟩
theorem seal_m (t : Int) (l : List UInt8) (w : World) (hl : l.length ≤ 9223372036854775807) (h : Many B own w ls) (hB : B ≤ w.heap.size) {L : List UInt8} {E : Int} (hL : rsL t l = L) (hE : rsE t l = E) : Calls Try.prog 9 #[rootV t l] w fun e w' => e = .returned (.tuple #[blk L, .int .i64 E]) ∧ Many B own w' ls ∧ Below B w w' ∧ Same own w w' := by
  subst hL hE
  exact (ringseal_any t l w hl).mono fun e w' ⟨he, hb⟩ => ⟨he, quiet_m h hB hb⟩
theorem rplace_m (t : Int) (w : World) (h : Many B own w ls) {p : Int} (hp : plV t = p) : Calls Try.prog 14 #[.int .i64 t] w fun e w' => e = .returned (.int .i64 p) ∧ Many B own w' ls ∧ Below B w w' ∧ Same own w w' := by
  subst hp
  exact (place_any t w).mono fun e w' ⟨he, hb⟩ => by subst hb; exact ⟨he, h, Below.refl _ _, Same.refl _ _⟩
end
end Go.Proofs.Yteoomhkdffnkkaa
