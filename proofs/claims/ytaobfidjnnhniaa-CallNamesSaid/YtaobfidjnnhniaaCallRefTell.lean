/- jettyref03.Tell. -/
import Derived.Test.YtaobfidjnnhniaaCallTell
namespace Go.Proofs.Ytaobfidjnnhniaa
set_option linter.unusedVariables false
set_option linter.unusedSimpArgs false
open Go.ChangeShapes Go.WideShapes Go.ChangeAt Go.RowKit Pl
attribute [local go_sem] ba_toList ba_size ba_app

set_option maxHeartbeats 1600000 in
theorem refTell_any (x e : Int) (l : List UInt8) (w : World) (hl : l.length ≤ 10000) :
    Calls Try.prog 12 #[.agg #[.int .i64 x, .int .i64 e, sv l]] w fun r w' => r = .returned (.tuple #[sv (tellS x e l), .int .i64 (tellE x e l)]) ∧ Below w.heap.size w w' := by
  have HM := fun W : World => refmay_any x e l W (by omega)
  cases hm : mayA x e l
  · have he : tellE x e l = 1 := if_neg (by rw [hm]; decide)
    have hs : tellS x e l = [] := if_neg (by rw [hm]; decide)
    rw [he, hs]
    rw [hm] at HM
    have GM := Lib.hid HM
    clear HM hm he hs
    go_enter Try.func12, Try.ntmps12
    go_wp2_with fail
    refine (GM.out _).mono ?_; rintro r w1 ⟨rfl, hw1⟩
    go_wp2_with fail
    go_ret2
    exact ⟨rfl, chain (by repeat' (first | (with_reducible exact Below.refl _ _) | (with_reducible assumption) | (with_reducible refine below_drewN ?_ _) | (with_reducible refine Below.alloc ?_ ?_ _) | (with_reducible refine Below.drew ?_) | (with_reducible refine Below.setCell ?_ ?_ _) | go_size)) hw1⟩
  · have he : tellE x e l = 0 := if_pos hm
    have hs : tellS x e l = tellB x e l := if_pos hm
    rw [he, hs]
    rw [hm] at HM
    have GM := Lib.hid HM
    obtain ⟨bx, be_, h4⟩ := mayA_bounds hm
    clear HM hm he hs h4
    have hb0 := cell_new w #[.int .i64 x, .int .i64 e, sv l] 26 w.heap.size 0 rfl
    have hb1 := cell_new w #[.int .i64 x, .int .i64 e, sv l] 26 w.heap.size 1 rfl
    have hb2 := cell_new w #[.int .i64 x, .int .i64 e, sv l] 26 w.heap.size 2 rfl
    go_enter Try.func12, Try.ntmps12
    go_wp2_with fail
    refine (GM.out _).mono ?_; rintro r w1 ⟨rfl, hw1⟩
    have s1 := hw1.size
    have k0 := fun (W : World) (h : Below w1.heap.size w1 W) => ((h.cell (p := ⟨w.heap.size, 0, none⟩) (Nat.lt_of_lt_of_le (by simp) s1)).trans (hw1.cell (p := ⟨w.heap.size, 0, none⟩) (by simp))).trans hb0
    have k0 : ∀ W, Below w1.heap.size w1 W → W.cell? ⟨w.heap.size, 0, none⟩ = some (.int .i64 x) := k0
    have k1 := fun (W : World) (h : Below w1.heap.size w1 W) => ((h.cell (p := ⟨w.heap.size, 1, none⟩) (Nat.lt_of_lt_of_le (by simp) s1)).trans (hw1.cell (p := ⟨w.heap.size, 1, none⟩) (by simp))).trans hb1
    have k1 : ∀ W, Below w1.heap.size w1 W → W.cell? ⟨w.heap.size, 1, none⟩ = some (.int .i64 e) := k1
    have q2 := fun (W : World) => BytesV.nil W
    go_wp2_with fail
    go_region_held3 (fun W => Below w1.heap.size w1 W) (first | exact (Below.refl _ _).drew | assumption | (try go_split_ands); (repeat' refine And.intro ?_ ?_) <;> (first | assumption | exact Below.refl _ _ | exact chain (by assumption) hw'))
      (first
        | (go_at_call 25; refine (refWord_int _ _ _ _ (by first | exact q2 | exact BytesV.nil _) (by omega) (by omega) (by simp)).mono ?_; rintro r w' ⟨v3, rfl, r3, hw'⟩; have q2 := r3)
        | (go_at_call 25; refine (refWord_wrap _ _ _ _ (by first | exact q2 | exact BytesV.nil _) (by omega) (by omega) (by simp)).mono ?_; rintro r w' ⟨v3, rfl, r3, hw'⟩; have q2 := r3))
    have c2 : Below w1.heap.size w1 w' := by (try go_split_ands); assumption
    have d3 := hw1.trans (c2.mono s1)
    have c3 := (d3.cell (p := ⟨w.heap.size, 2, none⟩) (by simp)).trans hb2
    have c3 : w'.cell? ⟨w.heap.size, 2, none⟩ = some (sv l) := c3
    have b3 : Below w.heap.size w w' := Below.trans (by repeat' (first | (with_reducible exact Below.refl _ _) | (with_reducible assumption) | (with_reducible refine below_drewN ?_ _) | (with_reducible refine Below.alloc ?_ ?_ _) | (with_reducible refine Below.drew ?_) | (with_reducible refine Below.setCell ?_ ?_ _) | go_size)) (d3.mono (by simp))
    have hcv := q2.string (P := Try.prog) Try.underlying58 Try.underlying5 Try.underlying9
    have hTB : tellB x e l = [] ++ be 4 x.toNat ++ be 4 1 ++ be 4 e.toNat ++ l := rfl
    have hln : ([] ++ be 4 x.toNat ++ be 4 (1 : Int).toNat ++ be 4 e.toNat).length = 12 := by simp
    generalize hC : [] ++ be 4 x.toNat ++ be 4 (1 : Int).toNat ++ be 4 e.toNat = C at hcv hln
    have t2 : ¬ (9223372036854775807 : Int) < (C.length : Int) + (l.length : Int) := by omega
    have hq : tellB x e l = C ++ l := by rw [← hC]; rfl
    have HTB := Lib.hid hq
    clear hq
    clear hTB hC hln
    go_wp2_with fail
    go_ret2
    refine ⟨?_, b3⟩
    rw [HTB.out]
    rfl
end Go.Proofs.Ytaobfidjnnhniaa
