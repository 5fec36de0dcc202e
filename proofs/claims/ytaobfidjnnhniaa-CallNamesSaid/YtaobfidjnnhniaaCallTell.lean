/- Tell: a reply's bytes. -/
import Derived.Test.YtaobfidjnnhniaaCallMay
import Derived.Test.YtaobfidjnnhniaaHeld
namespace Go.Proofs.Ytaobfidjnnhniaa
set_option linter.unusedVariables false
set_option linter.unusedSimpArgs false
open Go.ChangeShapes Go.WideShapes Go.ChangeAt Go.RowKit Pl
attribute [local go_sem] ba_toList ba_size ba_app

def tellB (x e : Int) (l : List UInt8) : List UInt8 := be 4 x.toNat ++ be 4 1 ++ be 4 e.toNat ++ l
def tellE (x e : Int) (l : List UInt8) : Int := if mayA x e l = true then 0 else 1
def tellS (x e : Int) (l : List UInt8) : List UInt8 := if mayA x e l = true then tellB x e l else []

theorem mayA_bounds {x e : Int} {l : List UInt8} (h : mayA x e l = true) : (0 ≤ x ∧ x ≤ 4294967295) ∧ (0 ≤ e ∧ e ≤ 63) ∧ l.length % 4 = 0 := by
  unfold mayA at h
  simp only [Bool.and_eq_true] at h
  obtain ⟨⟨h1, h2⟩, h3⟩ := h
  refine ⟨isW_bounds h2, ?_, ?_⟩
  · simp [mayK] at h1
    omega
  · rw [beq_iff_eq] at h3
    omega
theorem fixB_whole {l : List UInt8} (h : l.length % 4 = 0) : fixB l = l := by
  have : padN l.length = 0 := by unfold padN; omega
  unfold fixB
  rw [this]
  simp [zeros]

theorem u32_wrap {n : Int} (h0 : 0 ≤ n) (hn : n < 4294967296) : IntKind.u32.wrap n = n := by rw [IntKind.wrap_u32]; omega
theorem Word_wrap (v : Value) (l : List UInt8) (n : Int) (w : World) (hl : BytesV w v l) (h0 : 0 ≤ n) (hn : n < 4294967296) (hsum : l.length + 4 ≤ 140737488355328) :
    Calls Try.prog 22 #[v, .int .u32 (IntKind.u32.wrap n)] w fun e w' => ∃ v', e = .returned v' ∧ RowB w' w.heap.size v' (l ++ be 4 n.toNat) ∧ Below w.heap.size w w' := by
  rw [u32_wrap h0 hn]
  exact Word_any v l n w hl h0 hn hsum
theorem refWord_wrap (v : Value) (l : List UInt8) (n : Int) (w : World) (hl : BytesV w v l) (h0 : 0 ≤ n) (hn : n < 4294967296) (hsum : l.length + 4 ≤ 140737488355328) :
    Calls Try.prog 25 #[v, .int .u32 (IntKind.u32.wrap n)] w fun e w' => ∃ v', e = .returned v' ∧ BytesV w' v' (l ++ be 4 n.toNat) ∧ Below w.heap.size w w' := by
  rw [u32_wrap h0 hn]
  exact refWord_int v l n w hl h0 hn hsum

set_option maxHeartbeats 1600000 in
theorem tell_any (x e : Int) (l : List UInt8) (w : World) (hl : l.length ≤ 20000) :
    Calls Try.prog 11 #[.agg #[.int .i64 x, .int .i64 e, sv l]] w fun r w' => r = .returned (.tuple #[sv (tellS x e l), .int .i64 (tellE x e l)]) ∧ Below w.heap.size w w' := by
  have HM := fun W : World => amay_any x e l W (by omega)
  cases hm : mayA x e l
  · have he : tellE x e l = 1 := if_neg (by rw [hm]; decide)
    have hs : tellS x e l = [] := if_neg (by rw [hm]; decide)
    rw [he, hs]
    rw [hm] at HM
    have GM := Lib.hid HM
    clear HM hm he hs
    go_enter Try.func11, Try.ntmps11
    go_wp2_with fail
    refine (GM.out _).mono ?_; rintro r w1 ⟨rfl, hw1⟩
    go_wp2_with fail
    go_ret2
    exact ⟨rfl, chain (by repeat' (first | (with_reducible exact Below.refl _ _) | (with_reducible assumption) | (with_reducible refine below_drewN ?_ _) | (with_reducible refine Below.alloc ?_ ?_ _) | (with_reducible refine Below.drew ?_) | (with_reducible refine Below.setCell ?_ ?_ _) | go_size)) hw1⟩
  · have he : tellE x e l = 0 := if_pos hm
    have hs : tellS x e l = tellB x e l := if_pos hm
    rw [he, hs]
    rw [hm] at HM
    have GM := Lib.hid HM
    obtain ⟨bx, be_, h4⟩ := mayA_bounds hm
    have HF := Lib.hid (fixB_whole h4)
    clear HM hm he hs h4
    have hb0 := cell_new w #[.int .i64 x, .int .i64 e, sv l] 32 w.heap.size 0 rfl
    have hb1 := cell_new w #[.int .i64 x, .int .i64 e, sv l] 32 w.heap.size 1 rfl
    have hb2 := cell_new w #[.int .i64 x, .int .i64 e, sv l] 32 w.heap.size 2 rfl
    go_enter Try.func11, Try.ntmps11
    go_wp2_with fail
    refine (GM.out _).mono ?_; rintro r w1 ⟨rfl, hw1⟩
    have c0 := (hw1.cell (p := ⟨w.heap.size, 0, none⟩) (by simp)).trans hb0
    have c0 : w1.cell? ⟨w.heap.size, 0, none⟩ = some (.int .i64 x) := c0
    go_wp2_with fail
    refine (Word_any _ [] _ _ (BytesV.nil _) (by omega) (by omega) (by simp)).mono ?_; rintro r w2 ⟨v2, rfl, r2, hw2⟩
    have d2 := hw1.trans (hw2.mono hw1.size)
    have s2 := d2.size
    have k1 := fun (W : World) (h : Below w2.heap.size w2 W) => ((h.cell (p := ⟨w.heap.size, 1, none⟩) (Nat.lt_of_lt_of_le (by simp) s2)).trans (d2.cell (p := ⟨w.heap.size, 1, none⟩) (by simp))).trans hb1
    have k1 : ∀ W, Below w2.heap.size w2 W → W.cell? ⟨w.heap.size, 1, none⟩ = some (.int .i64 e) := k1
    have q2 := r2.bytes
    go_wp2_with fail
    go_region_held3 (fun W => Below w2.heap.size w2 W) (first | exact (Below.refl _ _).drew | assumption | (try go_split_ands); (repeat' refine And.intro ?_ ?_) <;> (first | assumption | exact Below.refl _ _ | exact chain (by assumption) hw'))
      (first
        | (go_at_call 22; refine (Word_any _ _ _ _ (by first | exact q2 | exact q2.below (by assumption)) (by omega) (by omega) (by simp)).mono ?_; rintro r w' ⟨v3, rfl, r3, hw'⟩; have q2 := r3.bytes)
        | (go_at_call 22; refine (Word_wrap _ _ _ _ (by first | exact q2 | exact q2.below (by assumption)) (by omega) (by omega) (by simp)).mono ?_; rintro r w' ⟨v3, rfl, r3, hw'⟩; have q2 := r3.bytes))
    have c2 : Below w2.heap.size w2 w' := by (try go_split_ands); assumption
    have d3 := d2.trans (c2.mono s2)
    have c3 := (d3.cell (p := ⟨w.heap.size, 2, none⟩) (by simp)).trans hb2
    have c3 : w'.cell? ⟨w.heap.size, 2, none⟩ = some (sv l) := c3
    have b3 : Below w.heap.size w w' := Below.trans (by repeat' (first | (with_reducible exact Below.refl _ _) | (with_reducible assumption) | (with_reducible refine below_drewN ?_ _) | (with_reducible refine Below.alloc ?_ ?_ _) | (with_reducible refine Below.drew ?_) | (with_reducible refine Below.setCell ?_ ?_ _) | go_size)) (d3.mono (by simp))
    go_wp2_with fail
    refine (Fixed_any _ _ l _ q2 (by simp; omega)).mono ?_; rintro r w4 ⟨v4, rfl, r4, hw4⟩
    rw [HF.out] at r4
    have hcv := r4.string (P := Try.prog) Try.underlying58 Try.underlying5 Try.underlying9
    go_wp2_with fail
    go_ret2
    exact ⟨rfl, chain b3 hw4⟩
end Go.Proofs.Ytaobfidjnnhniaa
