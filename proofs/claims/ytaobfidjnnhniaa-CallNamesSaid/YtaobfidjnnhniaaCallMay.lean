/- Which answers may be. -/
import Derived.Test.YtaobfidjnnhniaaCallRefWrite
namespace Go.Proofs.Ytaobfidjnnhniaa
set_option linter.unusedVariables false
set_option linter.unusedSimpArgs false
open Go.ChangeShapes Go.WideShapes Go.ChangeAt Go.RowKit Pl
attribute [local go_sem] ba_toList ba_size ba_app

def mayK (e : Int) (l : List UInt8) : Bool := (e == 0) || (((e == 4) || (e == 62) || (e == 63)) && l.isEmpty)
def mayA (x e : Int) (l : List UInt8) : Bool := mayK e l && isW x && ((l.length : Int) % 4 == 0)

theorem amay_any (x e : Int) (l : List UInt8) (w : World) (hl : l.length ≤ 9223372036854775807) :
    Calls Try.prog 26 #[.agg #[.int .i64 x, .int .i64 e, sv l]] w fun r w' => r = .returned (.bool (mayA x e l)) ∧ Below w.heap.size w w' := by
  have HX := fun W : World => word_any x W
  have hm : mayA x e l = (mayK e l && isW x && ((l.length : Int) % 4 == 0)) := rfl
  rw [hm]
  clear hm
  by_cases h0 : e = 0
  · subst h0
    rw [show mayK 0 l = true from rfl]
    have GX := Lib.hid HX
    clear HX
    cases hx : isW x <;> cases hd : ((l.length : Int) % 4 == 0)
    all_goals
      rw [hx] at GX
      clear hx
      go_enter Try.func26, Try.ntmps26
      go_wp2_with fail
      refine (GX.out _).mono ?_; rintro e w' ⟨rfl, rfl⟩
      go_wp2_with fail
      go_ret
      exact ⟨rfl, by repeat' (first | (with_reducible exact Below.refl _ _) | (with_reducible assumption) | (with_reducible refine below_drewN ?_ _) | (with_reducible refine Below.alloc ?_ ?_ _) | (with_reducible refine Below.drew ?_) | (with_reducible refine Below.setCell ?_ ?_ _) | go_size)⟩
  by_cases hk : e = 4 ∨ e = 62 ∨ e = 63
  · cases l with
    | nil =>
      have hmk : mayK e [] = true := by rcases hk with rfl | rfl | rfl <;> rfl
      rw [hmk]
      clear hmk h0
      have GX := Lib.hid HX
      clear HX
      cases hx : isW x
      all_goals
        rw [hx] at GX
        clear hx
        rcases hk with rfl | rfl | rfl
        all_goals
          go_enter Try.func26, Try.ntmps26
          go_wp2_with fail
          refine (GX.out _).mono ?_; rintro e w' ⟨rfl, rfl⟩
          go_wp2_with fail
          go_ret
          exact ⟨rfl, by repeat' (first | (with_reducible exact Below.refl _ _) | (with_reducible assumption) | (with_reducible refine below_drewN ?_ _) | (with_reducible refine Below.alloc ?_ ?_ _) | (with_reducible refine Below.drew ?_) | (with_reducible refine Below.setCell ?_ ?_ _) | go_size)⟩
    | cons a l =>
      have hmk : mayK e (a :: l) = false := by rcases hk with rfl | rfl | rfl <;> rfl
      rw [hmk]
      clear hmk h0 HX
      rcases hk with rfl | rfl | rfl
      all_goals
        go_enter Try.func26, Try.ntmps26
        go_wp2_with fail
        go_ret
        exact ⟨rfl, by repeat' (first | (with_reducible exact Below.refl _ _) | (with_reducible assumption) | (with_reducible refine below_drewN ?_ _) | (with_reducible refine Below.alloc ?_ ?_ _) | (with_reducible refine Below.drew ?_) | (with_reducible refine Below.setCell ?_ ?_ _) | go_size)⟩
  · have h4 : (e == 4) = false := by rw [beq_eq_false_iff_ne]; exact fun h => hk (.inl h)
    have h62 : (e == 62) = false := by rw [beq_eq_false_iff_ne]; exact fun h => hk (.inr (.inl h))
    have h63 : (e == 63) = false := by rw [beq_eq_false_iff_ne]; exact fun h => hk (.inr (.inr h))
    have h00 : (e == 0) = false := by rw [beq_eq_false_iff_ne]; exact h0
    have hmk : mayK e l = false := by unfold mayK; rw [h4, h62, h63, h00]; rfl
    rw [hmk]
    clear hmk hk h0 HX
    go_enter Try.func26, Try.ntmps26
    go_wp2_with fail
    go_ret
    exact ⟨rfl, by repeat' (first | (with_reducible exact Below.refl _ _) | (with_reducible assumption) | (with_reducible refine below_drewN ?_ _) | (with_reducible refine Below.alloc ?_ ?_ _) | (with_reducible refine Below.drew ?_) | (with_reducible refine Below.setCell ?_ ?_ _) | go_size)⟩

theorem refmay_any (x e : Int) (l : List UInt8) (w : World) (hl : l.length ≤ 9223372036854775807) :
    Calls Try.prog 27 #[.agg #[.int .i64 x, .int .i64 e, sv l]] w fun r w' => r = .returned (.bool (mayA x e l)) ∧ Below w.heap.size w w' := by
  have HX := fun W : World => refword_any x W
  have hm : mayA x e l = (mayK e l && isW x && ((l.length : Int) % 4 == 0)) := rfl
  rw [hm]
  clear hm
  by_cases h0 : e = 0
  · subst h0
    rw [show mayK 0 l = true from rfl]
    have GX := Lib.hid HX
    clear HX
    cases hx : isW x <;> cases hd : ((l.length : Int) % 4 == 0)
    all_goals
      rw [hx] at GX
      clear hx
      go_enter Try.func27, Try.ntmps27
      go_wp2_with fail
      refine (GX.out _).mono ?_; rintro e w' ⟨rfl, rfl⟩
      go_wp2_with fail
      go_ret
      exact ⟨rfl, by repeat' (first | (with_reducible exact Below.refl _ _) | (with_reducible assumption) | (with_reducible refine below_drewN ?_ _) | (with_reducible refine Below.alloc ?_ ?_ _) | (with_reducible refine Below.drew ?_) | (with_reducible refine Below.setCell ?_ ?_ _) | go_size)⟩
  by_cases hk : e = 4 ∨ e = 62 ∨ e = 63
  · cases l with
    | nil =>
      have hmk : mayK e [] = true := by rcases hk with rfl | rfl | rfl <;> rfl
      rw [hmk]
      clear hmk h0
      have GX := Lib.hid HX
      clear HX
      cases hx : isW x
      all_goals
        rw [hx] at GX
        clear hx
        rcases hk with rfl | rfl | rfl
        all_goals
          go_enter Try.func27, Try.ntmps27
          go_wp2_with fail
          refine (GX.out _).mono ?_; rintro e w' ⟨rfl, rfl⟩
          go_wp2_with fail
          go_ret
          exact ⟨rfl, by repeat' (first | (with_reducible exact Below.refl _ _) | (with_reducible assumption) | (with_reducible refine below_drewN ?_ _) | (with_reducible refine Below.alloc ?_ ?_ _) | (with_reducible refine Below.drew ?_) | (with_reducible refine Below.setCell ?_ ?_ _) | go_size)⟩
    | cons a l =>
      have hmk : mayK e (a :: l) = false := by rcases hk with rfl | rfl | rfl <;> rfl
      rw [hmk]
      clear hmk h0 HX
      rcases hk with rfl | rfl | rfl
      all_goals
        go_enter Try.func27, Try.ntmps27
        go_wp2_with fail
        go_ret
        exact ⟨rfl, by repeat' (first | (with_reducible exact Below.refl _ _) | (with_reducible assumption) | (with_reducible refine below_drewN ?_ _) | (with_reducible refine Below.alloc ?_ ?_ _) | (with_reducible refine Below.drew ?_) | (with_reducible refine Below.setCell ?_ ?_ _) | go_size)⟩
  · have h4 : (e == 4) = false := by rw [beq_eq_false_iff_ne]; exact fun h => hk (.inl h)
    have h62 : (e == 62) = false := by rw [beq_eq_false_iff_ne]; exact fun h => hk (.inr (.inl h))
    have h63 : (e == 63) = false := by rw [beq_eq_false_iff_ne]; exact fun h => hk (.inr (.inr h))
    have h00 : (e == 0) = false := by rw [beq_eq_false_iff_ne]; exact h0
    have hmk : mayK e l = false := by unfold mayK; rw [h4, h62, h63, h00]; rfl
    rw [hmk]
    clear hmk hk h0 HX
    go_enter Try.func27, Try.ntmps27
    go_wp2_with fail
    go_ret
    exact ⟨rfl, by repeat' (first | (with_reducible exact Below.refl _ _) | (with_reducible assumption) | (with_reducible refine below_drewN ?_ _) | (with_reducible refine Below.alloc ?_ ?_ _) | (with_reducible refine Below.drew ?_) | (with_reducible refine Below.setCell ?_ ?_ _) | go_size)⟩
end Go.Proofs.Ytaobfidjnnhniaa
