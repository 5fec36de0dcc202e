/- CallWord: another word in the place of one of the first six changes just what it says: for every input the law returns true. Conditions: none. -/
import Derived.Test.YtaobfidjnnhniaaCallPlain
import Derived.Deep.DeepCutAuto
namespace Go.Proofs.Ytaobfidjnnhniaa
set_option linter.unusedVariables false
set_option linter.unusedSimpArgs false
open Go.ChangeShapes Go.WideShapes Go.ChangeAt Go.RowKit Pl
attribute [local go_sem] ba_toList ba_size ba_app

theorem eql_head_self (c x p : Int) (l : List UInt8) (w : World) : (binOp BinOp.eql 29 (headV c x p l) (headV c x p l)).run Try.prog w = .ok (.bool true) w := by
  have := eql_head c x p l c x p l w
  rwa [show eqD c x p l c x p l = true from decide_eq_true ⟨rfl, rfl, rfl, rfl⟩] at this
theorem IntsV.drew {w : World} {v : Value} {zs : List Int} (h : IntsV w v zs) : IntsV w.drew v zs := h
theorem IntsV.lit2 (w : World) (zs : List Int) (t : TypeId) (n g : Nat) (o : Obj) (hn : zs.length = n) (hg : g = w.heap.size) : IntsV ((w.alloc (.cells (zs.map (Value.int .i64)).toArray t)).alloc o).drew (.slice (some ⟨g, 0, none⟩) n n) zs :=
  ((IntsV.lit w zs t n g hn hg).below ((Below.refl _ _).alloc (Nat.le_refl _) o)).drew
/-- A head of zeros lies in block g, and may be written. -/
def ZB (w : World) (g : Nat) : Prop := g < w.heap.size ∧ (w.cell? ⟨g, 0, none⟩ = some (.int .i64 0) ∧ w.cell? ⟨g, 1, none⟩ = some (.int .i64 0) ∧ w.cell? ⟨g, 2, none⟩ = some (.int .i64 0) ∧ w.cell? ⟨g, 3, none⟩ = some (.string ⟨#[]⟩)) ∧
  w.frozen? ⟨g, 0, none⟩ = false ∧ w.frozen? ⟨g, 1, none⟩ = false ∧ w.frozen? ⟨g, 2, none⟩ = false ∧ w.frozen? ⟨g, 3, none⟩ = false
theorem ZB.below {w w' : World} {g : Nat} (h : ZB w g) (hb : Below w.heap.size w w') : ZB w' g := by
  obtain ⟨hg, ⟨a, b, c, d⟩, e, f, i, j⟩ := h
  exact ⟨Nat.lt_of_lt_of_le hg hb.size, ⟨(hb.cell (p := ⟨g, 0, none⟩) hg).trans a, (hb.cell (p := ⟨g, 1, none⟩) hg).trans b, (hb.cell (p := ⟨g, 2, none⟩) hg).trans c, (hb.cell (p := ⟨g, 3, none⟩) hg).trans d⟩,
    (hb.frozen (p := ⟨g, 0, none⟩) hg).trans e, (hb.frozen (p := ⟨g, 1, none⟩) hg).trans f, (hb.frozen (p := ⟨g, 2, none⟩) hg).trans i, (hb.frozen (p := ⟨g, 3, none⟩) hg).trans j⟩
theorem ZB.new (w : World) (t : TypeId) (g : Nat) (hg : g = w.heap.size) : ZB (w.alloc (.cells #[.int .i64 0, .int .i64 0, .int .i64 0, .string ⟨#[]⟩] t)) g := by
  subst hg
  exact ⟨by simp, ⟨by simp, by simp, by simp, by simp⟩, frozen_new _ _ _ _, frozen_new _ _ _ _, frozen_new _ _ _ _, frozen_new _ _ _ _⟩
theorem ZB.two {w w' : World} {o : Obj} {t : TypeId} (hb : Below ((w.alloc o).alloc (.cells #[.int .i64 0, .int .i64 0, .int .i64 0, .string ⟨#[]⟩] t)).drew.heap.size ((w.alloc o).alloc (.cells #[.int .i64 0, .int .i64 0, .int .i64 0, .string ⟨#[]⟩] t)).drew w') : ZB w' (w.heap.size + 1) :=
  ZB.below (w := ((w.alloc o).alloc (.cells #[.int .i64 0, .int .i64 0, .int .i64 0, .string ⟨#[]⟩] t)).drew) (ZB.new (w.alloc o) t _ (by simp)) hb
theorem ZB.one {w w' : World} {o : Obj} {t : TypeId} (hb : Below ((w.alloc (.cells #[.int .i64 0, .int .i64 0, .int .i64 0, .string ⟨#[]⟩] t)).alloc o).drew.heap.size ((w.alloc (.cells #[.int .i64 0, .int .i64 0, .int .i64 0, .string ⟨#[]⟩] t)).alloc o).drew w') : ZB w' w.heap.size :=
  ZB.below (w := ((w.alloc (.cells #[.int .i64 0, .int .i64 0, .int .i64 0, .string ⟨#[]⟩] t)).alloc o).drew) (ZB.below (ZB.new w t _ rfl) ((Below.refl _ _).alloc (Nat.le_refl _) o).drew) hb
theorem bcell {W w1 : World} (hb : Below W.heap.size W w1) : (∀ b o, b < W.heap.size → w1.cell? ⟨b, o, none⟩ = W.cell? ⟨b, o, none⟩) ∧ (∀ b o, b < W.heap.size → w1.frozen? ⟨b, o, none⟩ = W.frozen? ⟨b, o, none⟩) :=
  ⟨fun b o h => hb.cell (p := ⟨b, o, none⟩) h, fun b o h => hb.frozen (p := ⟨b, o, none⟩) h⟩

theorem zb_set {X W : World} {g : Nat} (z : ZB W g) (hb : Below X.heap.size X W) (hg : X.heap.size ≤ g) (a b c d : Value) :
    Below X.heap.size X ((((W.setCell ⟨g, 0, none⟩ a).setCell ⟨g, 1, none⟩ b).setCell ⟨g, 2, none⟩ c).setCell ⟨g, 3, none⟩ d) ∧ (∀ W', W' = (((W.setCell ⟨g, 0, none⟩ a).setCell ⟨g, 1, none⟩ b).setCell ⟨g, 2, none⟩ c).setCell ⟨g, 3, none⟩ d →
      g < W'.heap.size ∧ W'.cell? ⟨g, 0, none⟩ = some a ∧ W'.cell? ⟨g, 1, none⟩ = some b ∧ W'.cell? ⟨g, 2, none⟩ = some c ∧ W'.cell? ⟨g, 3, none⟩ = some d) := by
  obtain ⟨lg, ⟨c0, c1, c2, c3⟩, _⟩ := z
  refine ⟨(((hb.setCell hg _).setCell hg _).setCell hg _).setCell hg _, fun W' hW' => ?_⟩
  have d1 : (W.setCell ⟨g, 0, none⟩ a).cell? ⟨g, 1, none⟩ = some (.int .i64 0) := by rw [World.cell?_setCell_other _ _ _ _ (by simp)]; exact c1
  have d2 : ((W.setCell ⟨g, 0, none⟩ a).setCell ⟨g, 1, none⟩ b).cell? ⟨g, 2, none⟩ = some (.int .i64 0) := by rw [World.cell?_setCell_other _ _ _ _ (by simp), World.cell?_setCell_other _ _ _ _ (by simp)]; exact c2
  have d3 : (((W.setCell ⟨g, 0, none⟩ a).setCell ⟨g, 1, none⟩ b).setCell ⟨g, 2, none⟩ c).cell? ⟨g, 3, none⟩ = some (.string ⟨#[]⟩) := by rw [World.cell?_setCell_other _ _ _ _ (by simp), World.cell?_setCell_other _ _ _ _ (by simp), World.cell?_setCell_other _ _ _ _ (by simp)]; exact c3
  subst hW'
  refine ⟨by simpa [World.setCell] using lg, ?_, ?_, ?_, ?_⟩
  · rw [World.cell?_setCell_other _ _ _ _ (by simp), World.cell?_setCell_other _ _ _ _ (by simp), World.cell?_setCell_other _ _ _ _ (by simp), World.cell?_setCell_same _ _ _ c0]
  · rw [World.cell?_setCell_other _ _ _ _ (by simp), World.cell?_setCell_other _ _ _ _ (by simp), World.cell?_setCell_same _ _ _ d1]
  · rw [World.cell?_setCell_other _ _ _ _ (by simp), World.cell?_setCell_same _ _ _ d2]
  · rw [World.cell?_setCell_same _ _ _ d3]

set_option maxRecDepth 100000 in
set_option maxHeartbeats 16000000 in
theorem word_ok (c x p : Int) (l : List UInt8) (at_ v : Int) (w : World) (S A B D : List UInt8) (k : Nat)
    (CA : Hid (∀ W : World, Calls Try.prog 9 #[headV c x p l] W fun r w' => r = .returned (.tuple #[sv S, .int .i64 0]) ∧ Below W.heap.size W w'))
    (WB : Hid (∀ (V : Value) (W : World), IntsV W V [v] → Calls Try.prog 18 #[V] W fun r w' => r = .returned (sv B) ∧ Below W.heap.size W w'))
    (hs1 : ∀ W, (Instr.slice 9 (sv S) none (some (.int .i64 (4 * (k : Int)))) none).run Try.prog W = .ok (sv A) W)
    (hs2 : ∀ W, (Instr.slice 9 (sv S) (some (.int .i64 (4 * (k : Int) + 4))) none none).run Try.prog W = .ok (sv D) W)
    (hk : wrap64 ((IntKind.u64.wrap at_).tmod 6) = (k : Int)) (hk6 : k < 6) (hv0 : 0 ≤ v) (hv1 : v < 4294967296) (ha : A.length ≤ 5000) (hb : B.length ≤ 5000) (hd : D.length ≤ 5000)
    (c1 x1 p1 e1 : Int) (l1 : List UInt8) (RC : Hid (∀ W : World, Calls Try.prog 13 #[sv (A ++ (B ++ D))] W fun r w' => r = .returned (.tuple #[headV c1 x1 p1 l1, .int .i64 e1]) ∧ Below W.heap.size W w'))
    (HF : Hid (
      (k = 0 → e1 = 0 ∧ eqD c1 x1 p1 l1 c v p l = true) ∧
      (k = 1 → (v = 0 → e1 = 0 ∧ eqD c1 x1 p1 l1 c x p l = true) ∧ (v ≠ 0 → e1 = 4)) ∧
      (k = 2 → (v = 284 → e1 = 0) ∧ (v ≠ 284 → e1 = 63)) ∧
      (k = 3 → (v = 3 → e1 = 0) ∧ (v ≠ 3 → e1 = 63)) ∧
      (k = 4 → (1 ≤ v ∧ v ≤ 16 → e1 = 0 ∧ eqD c1 x1 p1 l1 v x p l = true) ∧ (¬ (1 ≤ v ∧ v ≤ 16) → e1 = 4)) ∧
      (k = 5 → (v < 19 → e1 = 0 ∧ eqD c1 x1 p1 l1 c x v l = true) ∧ (¬ v < 19 → e1 = 62 ∧ p1 = v))))
    (t1 : ¬ (5000 : Int) < (l.length : Int)) (hp : ¬ 19 ≤ p) :
    Calls Try.prog 5 #[headV c x p l, .int .i64 at_, .int .u32 v] w fun r w' => r = .returned (.bool true) ∧ Below w.heap.size w w' := by
  have D0 := BoxD.new w c x p l 23
  have ad1 : ∀ W : World, (Op.stringOp .add ⟨A.toArray⟩ ⟨B.toArray⟩).run Try.prog W = .ok (sv (A ++ B)) W := fun W => by
    rw [run_string_add_sum (W) ⟨A.toArray⟩ ⟨B.toArray⟩ (by rw [ba_size, ba_size]; omega), ba_app]
  have ad2 : ∀ W : World, (Op.stringOp .add ⟨(A ++ B).toArray⟩ ⟨D.toArray⟩).run Try.prog W = .ok (sv (A ++ B ++ D)) W := fun W => by
    rw [run_string_add_sum (W) ⟨(A ++ B).toArray⟩ ⟨D.toArray⟩ (by rw [ba_size, ba_size, List.length_append]; omega), ba_app]
  have wr3 : IntKind.i64.wrap v = v := IntWalk.i64_in _ (by omega)
  have wr4 : IntKind.i64.wrap (4 * (k : Int)) = 4 * (k : Int) := IntWalk.i64_in _ (by omega)
  have wr5 : IntKind.i64.wrap (4 * (k : Int) + 4) = 4 * (k : Int) + 4 := IntWalk.i64_in _ (by omega)
  have HW := Lib.hid (And.intro ad1 (And.intro ad2 (And.intro wr3 (And.intro wr4 (And.intro wr5 (And.intro hs1 hs2))))))
  have HK := Lib.hid hk
  clear hk ad1 ad2 wr3 wr4 wr5 hs1 hs2
  go_enter Try.func5, Try.ntmps5
  go_wp2_with fail
  refine (works_any _).mono ?_; rintro e w1 ⟨rfl, hw1⟩
  have b1 : Below w.heap.size w w1 := chain (by repeat' (first | (with_reducible exact Below.refl _ _) | (with_reducible assumption) | (with_reducible refine below_drewN ?_ _) | (with_reducible refine Below.alloc ?_ ?_ _) | (with_reducible refine Below.drew ?_) | (with_reducible refine Below.setCell ?_ ?_ _) | go_size)) hw1
  have s1 := b1.size
  obtain ⟨la, x0, x1_, x2, x3⟩ := D0.step (by repeat' (first | (with_reducible exact Below.refl _ _) | (with_reducible assumption) | (with_reducible refine below_drewN ?_ _) | (with_reducible refine Below.alloc ?_ ?_ _) | (with_reducible refine Below.drew ?_) | (with_reducible refine Below.setCell ?_ ?_ _) | go_size)) hw1
  have D7 := BoxD.new w1 c x p l 29
  go_wp2_with fail
  refine (CA.out _).mono ?_; rintro e w2 ⟨rfl, hw2⟩
  have b2 : Below w.heap.size w w2 := chain (by repeat' (first | (with_reducible exact Below.refl _ _) | (with_reducible assumption) | (with_reducible refine below_drewN ?_ _) | (with_reducible refine Below.alloc ?_ ?_ _) | (with_reducible refine Below.drew ?_) | (with_reducible refine Below.setCell ?_ ?_ _) | go_size)) hw2
  have s2 := b2.size
  clear la x0 x1_ x2 x3
  have D7 := D7.step (by repeat' (first | (with_reducible exact Below.refl _ _) | (with_reducible assumption) | (with_reducible refine below_drewN ?_ _) | (with_reducible refine Below.alloc ?_ ?_ _) | (with_reducible refine Below.drew ?_) | (with_reducible refine Below.setCell ?_ ?_ _) | go_size)) hw2
  obtain ⟨la, x0, x1_, x2, x3⟩ := id D7
  have HD7 := Lib.hid D7
  have FZ : ∀ j, w2.frozen? ⟨w1.heap.size, j, none⟩ = false := by
    intro j
    have := hw2.frozen (p := ⟨w1.heap.size, j, none⟩) (by simp)
    rw [this]
    exact frozen_new _ _ _ _
  have HFZ := Lib.hid FZ
  clear D0 D7 FZ
  go_wp2_with fail
  rw [HK.out]
  clear x0 x1_ x2 x3
  go_upto_region 8 with (fail)
  go_cut [9, 11] (fun e u wc => ∃ g, u = .pointer (some ⟨g, 0, none⟩) ∧ e = .int .i64 e1 ∧ BoxD wc g c1 x1 p1 l1 ∧ w2.heap.size ≤ g ∧ Below w2.heap.size w2 wc)
  case first =>
    obtain ⟨ad1, ad2, wr3, wr4, wr5, hs1, hs2⟩ := HW.out
    have b0 : Below w2.heap.size w2 w2.drew := (Below.refl _ _).drew
    refine wp_region_held_drew (S := fun W => Below w2.heap.size w2 W) (by kernel_rfl) b0 (fun hHeld => ?_)
    clear hHeld
    generalize w2.drew = V0 at b0 ⊢
    have hHeld := b0
    refine wpAnyH_take (i := 0) (oi := _) (v := ?_) rfl (by kernel_rfl) (by kernel_rfl) (by kernel_rfl) (fun _ _ _ h => h) (Or.inl ⟨by rfl, ?_⟩) (by assumption) ?_
    rotate_left
    · (intro w hSw; (try dsimp only at hSw); (try go_split_ands); go_simp; (try with_reducible rfl))
    (try simp only [List.getElem_toArray, List.getElem_cons_zero, List.getElem_cons_succ, Act.put, List.setIfInBounds_toArray, List.set_cons_zero, List.set_cons_succ])
    refine wpAnyH_take (i := 1) (oi := _) (v := ?_) rfl (by kernel_rfl) (by kernel_rfl) (by kernel_rfl) (fun _ _ _ h => h) (Or.inl ⟨by rfl, ?_⟩) (by assumption) ?_
    rotate_left
    · (intro w hSw; (try dsimp only at hSw); (try go_split_ands); go_simp; (try with_reducible rfl))
    (try simp only [List.getElem_toArray, List.getElem_cons_zero, List.getElem_cons_succ, Act.put, List.setIfInBounds_toArray, List.set_cons_zero, List.set_cons_succ])
    refine wpAnyH_take (i := 2) (oi := _) (v := ?_) rfl (by kernel_rfl) (by kernel_rfl) (by kernel_rfl) (fun _ _ _ h => h) (Or.inl ⟨by rfl, ?_⟩) (by assumption) ?_
    rotate_left
    · (intro w hSw; (try dsimp only at hSw); (try go_split_ands); go_simp; (try with_reducible rfl))
    (try simp only [List.getElem_toArray, List.getElem_cons_zero, List.getElem_cons_succ, Act.put, List.setIfInBounds_toArray, List.set_cons_zero, List.set_cons_succ])
    refine wpAnyH_take (i := 3) (oi := _) (v := ?_) rfl (by kernel_rfl) (by kernel_rfl) (by kernel_rfl) (fun _ _ _ h => h) (Or.inl ⟨by rfl, ?_⟩) (by assumption) ?_
    rotate_left
    · (intro w hSw; (try dsimp only at hSw); (try go_split_ands); go_simp; (try with_reducible rfl))
    (try simp only [List.getElem_toArray, List.getElem_cons_zero, List.getElem_cons_succ, Act.put, List.setIfInBounds_toArray, List.set_cons_zero, List.set_cons_succ])
    refine wpAnyH_take (i := 4) (oi := _) (v := ?_) rfl (by kernel_rfl) (by kernel_rfl) (by kernel_rfl) (fun _ _ _ h => h) (Or.inl ⟨by rfl, ?_⟩) (by assumption) ?_
    rotate_left
    · (intro w hSw; (try dsimp only at hSw); (try go_split_ands); go_simp; (try with_reducible rfl))
    (try simp only [List.getElem_toArray, List.getElem_cons_zero, List.getElem_cons_succ, Act.put, List.setIfInBounds_toArray, List.set_cons_zero, List.set_cons_succ])
    refine wpAnyH_take (i := 5) (oi := _) (v := ?_) rfl (by kernel_rfl) (by kernel_rfl) (by kernel_rfl) (fun _ _ _ h => h) (Or.inl ⟨by rfl, ?_⟩) (by assumption) ?_
    rotate_left
    · (intro w hSw; (try dsimp only at hSw); (try go_split_ands); go_simp; (try with_reducible rfl))
    (try simp only [List.getElem_toArray, List.getElem_cons_zero, List.getElem_cons_succ, Act.put, List.setIfInBounds_toArray, List.set_cons_zero, List.set_cons_succ])
    refine wpAnyH_take (i := 9) (oi := _) (v := ?_) rfl (by kernel_rfl) (by kernel_rfl) (by kernel_rfl) (fun _ _ _ h => h) (Or.inl ⟨by rfl, ?_⟩) (by assumption) ?_
    rotate_left
    · (intro w hSw; (try dsimp only at hSw); (try go_split_ands); go_simp; (try with_reducible rfl))
    (try simp only [List.getElem_toArray, List.getElem_cons_zero, List.getElem_cons_succ, Act.put, List.setIfInBounds_toArray, List.set_cons_zero, List.set_cons_succ])
    refine wpAnyH_take (i := 10) (oi := _) (v := ?_) rfl (by kernel_rfl) (by kernel_rfl) (by kernel_rfl) (fun _ _ _ h => h) (Or.inl ⟨by rfl, ?_⟩) (by assumption) ?_
    rotate_left
    · (intro w hSw; (try dsimp only at hSw); (try go_split_ands); go_simp; (try with_reducible rfl))
    (try simp only [List.getElem_toArray, List.getElem_cons_zero, List.getElem_cons_succ, Act.put, List.setIfInBounds_toArray, List.set_cons_zero, List.set_cons_succ])
    refine wpAnyH_take (i := 11) (oi := _) (v := ?_) rfl (by kernel_rfl) (by kernel_rfl) (by kernel_rfl) (fun _ _ _ h => h) (Or.inl ⟨by rfl, ?_⟩) (by assumption) ?_
    rotate_left
    · (intro w hSw; (try dsimp only at hSw); (try go_split_ands); go_simp; (try with_reducible rfl))
    (try simp only [List.getElem_toArray, List.getElem_cons_zero, List.getElem_cons_succ, Act.put, List.setIfInBounds_toArray, List.set_cons_zero, List.set_cons_succ])
    refine wpAnyH_take (i := 12) (oi := _) (v := ?_) rfl (by kernel_rfl) (by kernel_rfl) (by kernel_rfl) (fun _ _ _ h => h) (Or.inl ⟨by rfl, ?_⟩) (by assumption) ?_
    rotate_left
    · (intro w hSw; (try dsimp only at hSw); (try go_split_ands); go_simp; (try with_reducible rfl))
    (try simp only [List.getElem_toArray, List.getElem_cons_zero, List.getElem_cons_succ, Act.put, List.setIfInBounds_toArray, List.set_cons_zero, List.set_cons_succ])
    refine wpAnyH_take (i := 13) (oi := _) (v := ?_) rfl (by kernel_rfl) (by kernel_rfl) (by kernel_rfl) (fun _ _ _ h => h) (Or.inl ⟨by rfl, ?_⟩) (by assumption) ?_
    rotate_left
    · (intro w hSw; (try dsimp only at hSw); (try go_split_ands); go_simp; (try with_reducible rfl))
    (try simp only [List.getElem_toArray, List.getElem_cons_zero, List.getElem_cons_succ, Act.put, List.setIfInBounds_toArray, List.set_cons_zero, List.set_cons_succ])
    -- WAYS
    refine wpAnyH_ready (rs := [6, 19]) (by kernel_rfl) (by simp) ?_
    refine AllReadyH.cons (o := _) rfl (fun K hK => ?_) (AllReadyH.cons (o := _) rfl (fun K hK => ?_) AllReadyH.nil)
    all_goals (try simp only [List.getElem_toArray, List.getElem_cons_zero, List.getElem_cons_succ])
    · go_simp
      have b2 := b0.alloc b0.size (.cells #[.int .i64 v] 3)
      have iv3 := IntsV.lit V0 [v] 3 1 V0.heap.size rfl rfl
      simp only [List.map_cons, List.map_nil] at iv3
      refine hK.out _ _ (b2) (fun hHeld => ?_)
      clear hK K
      (try simp only [List.getElem_toArray, List.getElem_cons_zero, List.getElem_cons_succ, Act.put, List.setIfInBounds_toArray, List.set_cons_zero, List.set_cons_succ])
      clear hHeld
      have hHeld := b2
      generalize V0.alloc (.cells #[.int .i64 v] 3) = W1 at b2 iv3 hHeld ⊢
      refine wpAnyH_ready (rs := [7, 19]) (by kernel_rfl) (by simp) ?_
      refine AllReadyH.cons (o := _) rfl (fun K hK => ?_) (AllReadyH.cons (o := _) rfl (fun K hK => ?_) AllReadyH.nil)
      all_goals (try simp only [List.getElem_toArray, List.getElem_cons_zero, List.getElem_cons_succ])
      · go_simp
        ((with_reducible refine (WB.out _ _ iv3).mono ?_); rintro r W4 ⟨rfl, hw5⟩)
        have b6 := b2.trans (hw5.mono b2.size)
        have iv7 := IntsV.below iv3 hw5
        refine hK.out _ _ (b6) (fun hHeld => ?_)
        clear hK K
        (try simp only [List.getElem_toArray, List.getElem_cons_zero, List.getElem_cons_succ, Act.put, List.setIfInBounds_toArray, List.set_cons_zero, List.set_cons_succ])
        refine wpAnyH_take (i := 8) (oi := _) (v := ?_) rfl (by kernel_rfl) (by kernel_rfl) (by kernel_rfl) (fun _ _ _ h => h) (Or.inl ⟨by rfl, ?_⟩) (by assumption) ?_
        rotate_left
        · (intro w hSw; (try dsimp only at hSw); (try go_split_ands); go_simp; (try with_reducible rfl))
        (try simp only [List.getElem_toArray, List.getElem_cons_zero, List.getElem_cons_succ, Act.put, List.setIfInBounds_toArray, List.set_cons_zero, List.set_cons_succ])
        refine wpAnyH_take (i := 14) (oi := _) (v := ?_) rfl (by kernel_rfl) (by kernel_rfl) (by kernel_rfl) (fun _ _ _ h => h) (Or.inl ⟨by rfl, ?_⟩) (by assumption) ?_
        rotate_left
        · (intro w hSw; (try dsimp only at hSw); (try go_split_ands); go_simp; (try with_reducible rfl))
        (try simp only [List.getElem_toArray, List.getElem_cons_zero, List.getElem_cons_succ, Act.put, List.setIfInBounds_toArray, List.set_cons_zero, List.set_cons_succ])
        refine wpAnyH_ready (rs := [15, 19]) (by kernel_rfl) (by simp) ?_
        refine AllReadyH.cons (o := _) rfl (fun K hK => ?_) (AllReadyH.cons (o := _) rfl (fun K hK => ?_) AllReadyH.nil)
        all_goals (try simp only [List.getElem_toArray, List.getElem_cons_zero, List.getElem_cons_succ])
        · go_simp
          ((with_reducible refine (RC.out _).mono ?_); rintro r W8 ⟨rfl, hw9⟩)
          have b10 := b6.trans (hw9.mono b6.size)
          have iv11 := IntsV.below iv7 hw9
          refine hK.out _ _ (b10) (fun hHeld => ?_)
          clear hK K
          (try simp only [List.getElem_toArray, List.getElem_cons_zero, List.getElem_cons_succ, Act.put, List.setIfInBounds_toArray, List.set_cons_zero, List.set_cons_succ])
          refine wpAnyH_take (i := 16) (oi := _) (v := ?_) rfl (by kernel_rfl) (by kernel_rfl) (by kernel_rfl) (fun _ _ _ h => h) (Or.inl ⟨by rfl, ?_⟩) (by assumption) ?_
          rotate_left
          · (intro w hSw; (try dsimp only at hSw); (try go_split_ands); go_simp; (try with_reducible rfl))
          (try simp only [List.getElem_toArray, List.getElem_cons_zero, List.getElem_cons_succ, Act.put, List.setIfInBounds_toArray, List.set_cons_zero, List.set_cons_succ])
          refine wpAnyH_take (i := 17) (oi := _) (v := ?_) rfl (by kernel_rfl) (by kernel_rfl) (by kernel_rfl) (fun _ _ _ h => h) (Or.inl ⟨by rfl, ?_⟩) (by assumption) ?_
          rotate_left
          · (intro w hSw; (try dsimp only at hSw); (try go_split_ands); go_simp; (try with_reducible rfl))
          (try simp only [List.getElem_toArray, List.getElem_cons_zero, List.getElem_cons_succ, Act.put, List.setIfInBounds_toArray, List.set_cons_zero, List.set_cons_succ])
          refine wpAnyH_take (i := 18) (oi := _) (v := ?_) rfl (by kernel_rfl) (by kernel_rfl) (by kernel_rfl) (fun _ _ _ h => h) (Or.inl ⟨by rfl, ?_⟩) (by assumption) ?_
          rotate_left
          · (intro w hSw; (try dsimp only at hSw); (try go_split_ands); go_simp; (try with_reducible rfl))
          (try simp only [List.getElem_toArray, List.getElem_cons_zero, List.getElem_cons_succ, Act.put, List.setIfInBounds_toArray, List.set_cons_zero, List.set_cons_succ])
          refine wpAnyH_ready (rs := [19]) (by kernel_rfl) (by simp) ?_
          refine AllReadyH.cons (o := _) rfl (fun K hK => ?_) AllReadyH.nil
          (try simp only [List.getElem_toArray, List.getElem_cons_zero, List.getElem_cons_succ])
          go_simp
          have b13 := b10.alloc b10.size (.cells #[.int .i64 0, .int .i64 0, .int .i64 0, .string ⟨#[]⟩] 29)
          have z14 := ZB.new W8 29 W8.heap.size rfl
          have zg15 : w2.heap.size ≤ W8.heap.size := b10.size
          have iv16 := IntsV.below iv11 ((Below.refl _ _).alloc (Nat.le_refl _) (.cells #[.int .i64 0, .int .i64 0, .int .i64 0, .string ⟨#[]⟩] 29))
          refine hK.out _ _ (b13) (fun hHeld => ?_)
          clear hK K
          (try simp only [List.getElem_toArray, List.getElem_cons_zero, List.getElem_cons_succ, Act.put, List.setIfInBounds_toArray, List.set_cons_zero, List.set_cons_succ])
          clear hHeld
          have hHeld := b13
          generalize W8.alloc (.cells #[.int .i64 0, .int .i64 0, .int .i64 0, .string ⟨#[]⟩] 29) = W12 at b13 iv16 z14 hHeld ⊢
          refine wpAnyH_ready (rs := [20]) (by kernel_rfl) (by simp) ?_
          refine AllReadyH.cons (o := _) rfl (fun K hK => ?_) AllReadyH.nil
          (try simp only [List.getElem_toArray, List.getElem_cons_zero, List.getElem_cons_succ])
          obtain ⟨q17l, ⟨q17a, q17b, q17c, q17d⟩, q17e, q17f, q17g, q17h⟩ := id z14
          have q17s := zb_set z14 b13 zg15 (.int .i64 c1) (.int .i64 x1) (.int .i64 p1) (sv l1)
          go_simp
          refine hK.out _ _ (q17s.1) (fun hHeld => ?_)
          clear hK K
          (try simp only [List.getElem_toArray, List.getElem_cons_zero, List.getElem_cons_succ, Act.put, List.setIfInBounds_toArray, List.set_cons_zero, List.set_cons_succ])
          refine wpAnyH_take (i := 21) (oi := _) (v := ?_) rfl (by kernel_rfl) (by kernel_rfl) (by kernel_rfl) (fun _ _ _ h => h) (Or.inl ⟨by rfl, ?_⟩) (by assumption) ?_
          rotate_left
          · (intro w hSw; (try dsimp only at hSw); (try go_split_ands); go_simp; (try with_reducible rfl))
          (try simp only [List.getElem_toArray, List.getElem_cons_zero, List.getElem_cons_succ, Act.put, List.setIfInBounds_toArray, List.set_cons_zero, List.set_cons_succ])
          refine wpAnyH_done (by kernel_rfl) ?_ _
          obtain ⟨q171, q172⟩ := q17s
          obtain ⟨q173, q174, q175, q176, q177⟩ := q172 _ rfl
          clear q172 q17a q17b q17c q17d q17e q17f q17g q17h
          go_wp2_with fail
          go_meet
          exact ⟨_, rfl, rfl, ⟨q173, q174, q175, q176, q177⟩, zg15, q171⟩
        · go_simp
          have b19 := b6.alloc b6.size (.cells #[.int .i64 0, .int .i64 0, .int .i64 0, .string ⟨#[]⟩] 29)
          have z20 := ZB.new W4 29 W4.heap.size rfl
          have zg21 : w2.heap.size ≤ W4.heap.size := b6.size
          have iv22 := IntsV.below iv7 ((Below.refl _ _).alloc (Nat.le_refl _) (.cells #[.int .i64 0, .int .i64 0, .int .i64 0, .string ⟨#[]⟩] 29))
          refine hK.out _ _ (b19) (fun hHeld => ?_)
          clear hK K
          (try simp only [List.getElem_toArray, List.getElem_cons_zero, List.getElem_cons_succ, Act.put, List.setIfInBounds_toArray, List.set_cons_zero, List.set_cons_succ])
          clear hHeld
          have hHeld := b19
          generalize W4.alloc (.cells #[.int .i64 0, .int .i64 0, .int .i64 0, .string ⟨#[]⟩] 29) = W18 at b19 iv22 z20 hHeld ⊢
          refine wpAnyH_ready (rs := [15]) (by kernel_rfl) (by simp) ?_
          refine AllReadyH.cons (o := _) rfl (fun K hK => ?_) AllReadyH.nil
          (try simp only [List.getElem_toArray, List.getElem_cons_zero, List.getElem_cons_succ])
          go_simp
          ((with_reducible refine (RC.out _).mono ?_); rintro r W23 ⟨rfl, hw24⟩)
          have b25 := b19.trans (hw24.mono b19.size)
          have z26 := ZB.below z20 hw24
          have iv28 := IntsV.below iv22 hw24
          refine hK.out _ _ (b25) (fun hHeld => ?_)
          clear hK K
          (try simp only [List.getElem_toArray, List.getElem_cons_zero, List.getElem_cons_succ, Act.put, List.setIfInBounds_toArray, List.set_cons_zero, List.set_cons_succ])
          refine wpAnyH_take (i := 16) (oi := _) (v := ?_) rfl (by kernel_rfl) (by kernel_rfl) (by kernel_rfl) (fun _ _ _ h => h) (Or.inl ⟨by rfl, ?_⟩) (by assumption) ?_
          rotate_left
          · (intro w hSw; (try dsimp only at hSw); (try go_split_ands); go_simp; (try with_reducible rfl))
          (try simp only [List.getElem_toArray, List.getElem_cons_zero, List.getElem_cons_succ, Act.put, List.setIfInBounds_toArray, List.set_cons_zero, List.set_cons_succ])
          refine wpAnyH_take (i := 17) (oi := _) (v := ?_) rfl (by kernel_rfl) (by kernel_rfl) (by kernel_rfl) (fun _ _ _ h => h) (Or.inl ⟨by rfl, ?_⟩) (by assumption) ?_
          rotate_left
          · (intro w hSw; (try dsimp only at hSw); (try go_split_ands); go_simp; (try with_reducible rfl))
          (try simp only [List.getElem_toArray, List.getElem_cons_zero, List.getElem_cons_succ, Act.put, List.setIfInBounds_toArray, List.set_cons_zero, List.set_cons_succ])
          refine wpAnyH_take (i := 18) (oi := _) (v := ?_) rfl (by kernel_rfl) (by kernel_rfl) (by kernel_rfl) (fun _ _ _ h => h) (Or.inl ⟨by rfl, ?_⟩) (by assumption) ?_
          rotate_left
          · (intro w hSw; (try dsimp only at hSw); (try go_split_ands); go_simp; (try with_reducible rfl))
          (try simp only [List.getElem_toArray, List.getElem_cons_zero, List.getElem_cons_succ, Act.put, List.setIfInBounds_toArray, List.set_cons_zero, List.set_cons_succ])
          refine wpAnyH_ready (rs := [20]) (by kernel_rfl) (by simp) ?_
          refine AllReadyH.cons (o := _) rfl (fun K hK => ?_) AllReadyH.nil
          (try simp only [List.getElem_toArray, List.getElem_cons_zero, List.getElem_cons_succ])
          obtain ⟨q29l, ⟨q29a, q29b, q29c, q29d⟩, q29e, q29f, q29g, q29h⟩ := id z26
          have q29s := zb_set z26 b25 zg21 (.int .i64 c1) (.int .i64 x1) (.int .i64 p1) (sv l1)
          go_simp
          refine hK.out _ _ (q29s.1) (fun hHeld => ?_)
          clear hK K
          (try simp only [List.getElem_toArray, List.getElem_cons_zero, List.getElem_cons_succ, Act.put, List.setIfInBounds_toArray, List.set_cons_zero, List.set_cons_succ])
          refine wpAnyH_take (i := 21) (oi := _) (v := ?_) rfl (by kernel_rfl) (by kernel_rfl) (by kernel_rfl) (fun _ _ _ h => h) (Or.inl ⟨by rfl, ?_⟩) (by assumption) ?_
          rotate_left
          · (intro w hSw; (try dsimp only at hSw); (try go_split_ands); go_simp; (try with_reducible rfl))
          (try simp only [List.getElem_toArray, List.getElem_cons_zero, List.getElem_cons_succ, Act.put, List.setIfInBounds_toArray, List.set_cons_zero, List.set_cons_succ])
          refine wpAnyH_done (by kernel_rfl) ?_ _
          obtain ⟨q291, q292⟩ := q29s
          obtain ⟨q293, q294, q295, q296, q297⟩ := q292 _ rfl
          clear q292 q29a q29b q29c q29d q29e q29f q29g q29h
          go_wp2_with fail
          go_meet
          exact ⟨_, rfl, rfl, ⟨q293, q294, q295, q296, q297⟩, zg21, q291⟩
      · go_simp
        have b31 := b2.alloc b2.size (.cells #[.int .i64 0, .int .i64 0, .int .i64 0, .string ⟨#[]⟩] 29)
        have z32 := ZB.new W1 29 W1.heap.size rfl
        have zg33 : w2.heap.size ≤ W1.heap.size := b2.size
        have iv34 := IntsV.below iv3 ((Below.refl _ _).alloc (Nat.le_refl _) (.cells #[.int .i64 0, .int .i64 0, .int .i64 0, .string ⟨#[]⟩] 29))
        refine hK.out _ _ (b31) (fun hHeld => ?_)
        clear hK K
        (try simp only [List.getElem_toArray, List.getElem_cons_zero, List.getElem_cons_succ, Act.put, List.setIfInBounds_toArray, List.set_cons_zero, List.set_cons_succ])
        clear hHeld
        have hHeld := b31
        generalize W1.alloc (.cells #[.int .i64 0, .int .i64 0, .int .i64 0, .string ⟨#[]⟩] 29) = W30 at b31 iv34 z32 hHeld ⊢
        refine wpAnyH_ready (rs := [7]) (by kernel_rfl) (by simp) ?_
        refine AllReadyH.cons (o := _) rfl (fun K hK => ?_) AllReadyH.nil
        (try simp only [List.getElem_toArray, List.getElem_cons_zero, List.getElem_cons_succ])
        go_simp
        ((with_reducible refine (WB.out _ _ iv34).mono ?_); rintro r W35 ⟨rfl, hw36⟩)
        have b37 := b31.trans (hw36.mono b31.size)
        have z38 := ZB.below z32 hw36
        have iv40 := IntsV.below iv34 hw36
        refine hK.out _ _ (b37) (fun hHeld => ?_)
        clear hK K
        (try simp only [List.getElem_toArray, List.getElem_cons_zero, List.getElem_cons_succ, Act.put, List.setIfInBounds_toArray, List.set_cons_zero, List.set_cons_succ])
        refine wpAnyH_take (i := 8) (oi := _) (v := ?_) rfl (by kernel_rfl) (by kernel_rfl) (by kernel_rfl) (fun _ _ _ h => h) (Or.inl ⟨by rfl, ?_⟩) (by assumption) ?_
        rotate_left
        · (intro w hSw; (try dsimp only at hSw); (try go_split_ands); go_simp; (try with_reducible rfl))
        (try simp only [List.getElem_toArray, List.getElem_cons_zero, List.getElem_cons_succ, Act.put, List.setIfInBounds_toArray, List.set_cons_zero, List.set_cons_succ])
        refine wpAnyH_take (i := 14) (oi := _) (v := ?_) rfl (by kernel_rfl) (by kernel_rfl) (by kernel_rfl) (fun _ _ _ h => h) (Or.inl ⟨by rfl, ?_⟩) (by assumption) ?_
        rotate_left
        · (intro w hSw; (try dsimp only at hSw); (try go_split_ands); go_simp; (try with_reducible rfl))
        (try simp only [List.getElem_toArray, List.getElem_cons_zero, List.getElem_cons_succ, Act.put, List.setIfInBounds_toArray, List.set_cons_zero, List.set_cons_succ])
        refine wpAnyH_ready (rs := [15]) (by kernel_rfl) (by simp) ?_
        refine AllReadyH.cons (o := _) rfl (fun K hK => ?_) AllReadyH.nil
        (try simp only [List.getElem_toArray, List.getElem_cons_zero, List.getElem_cons_succ])
        go_simp
        ((with_reducible refine (RC.out _).mono ?_); rintro r W41 ⟨rfl, hw42⟩)
        have b43 := b37.trans (hw42.mono b37.size)
        have z44 := ZB.below z38 hw42
        have iv46 := IntsV.below iv40 hw42
        refine hK.out _ _ (b43) (fun hHeld => ?_)
        clear hK K
        (try simp only [List.getElem_toArray, List.getElem_cons_zero, List.getElem_cons_succ, Act.put, List.setIfInBounds_toArray, List.set_cons_zero, List.set_cons_succ])
        refine wpAnyH_take (i := 16) (oi := _) (v := ?_) rfl (by kernel_rfl) (by kernel_rfl) (by kernel_rfl) (fun _ _ _ h => h) (Or.inl ⟨by rfl, ?_⟩) (by assumption) ?_
        rotate_left
        · (intro w hSw; (try dsimp only at hSw); (try go_split_ands); go_simp; (try with_reducible rfl))
        (try simp only [List.getElem_toArray, List.getElem_cons_zero, List.getElem_cons_succ, Act.put, List.setIfInBounds_toArray, List.set_cons_zero, List.set_cons_succ])
        refine wpAnyH_take (i := 17) (oi := _) (v := ?_) rfl (by kernel_rfl) (by kernel_rfl) (by kernel_rfl) (fun _ _ _ h => h) (Or.inl ⟨by rfl, ?_⟩) (by assumption) ?_
        rotate_left
        · (intro w hSw; (try dsimp only at hSw); (try go_split_ands); go_simp; (try with_reducible rfl))
        (try simp only [List.getElem_toArray, List.getElem_cons_zero, List.getElem_cons_succ, Act.put, List.setIfInBounds_toArray, List.set_cons_zero, List.set_cons_succ])
        refine wpAnyH_take (i := 18) (oi := _) (v := ?_) rfl (by kernel_rfl) (by kernel_rfl) (by kernel_rfl) (fun _ _ _ h => h) (Or.inl ⟨by rfl, ?_⟩) (by assumption) ?_
        rotate_left
        · (intro w hSw; (try dsimp only at hSw); (try go_split_ands); go_simp; (try with_reducible rfl))
        (try simp only [List.getElem_toArray, List.getElem_cons_zero, List.getElem_cons_succ, Act.put, List.setIfInBounds_toArray, List.set_cons_zero, List.set_cons_succ])
        refine wpAnyH_ready (rs := [20]) (by kernel_rfl) (by simp) ?_
        refine AllReadyH.cons (o := _) rfl (fun K hK => ?_) AllReadyH.nil
        (try simp only [List.getElem_toArray, List.getElem_cons_zero, List.getElem_cons_succ])
        obtain ⟨q47l, ⟨q47a, q47b, q47c, q47d⟩, q47e, q47f, q47g, q47h⟩ := id z44
        have q47s := zb_set z44 b43 zg33 (.int .i64 c1) (.int .i64 x1) (.int .i64 p1) (sv l1)
        go_simp
        refine hK.out _ _ (q47s.1) (fun hHeld => ?_)
        clear hK K
        (try simp only [List.getElem_toArray, List.getElem_cons_zero, List.getElem_cons_succ, Act.put, List.setIfInBounds_toArray, List.set_cons_zero, List.set_cons_succ])
        refine wpAnyH_take (i := 21) (oi := _) (v := ?_) rfl (by kernel_rfl) (by kernel_rfl) (by kernel_rfl) (fun _ _ _ h => h) (Or.inl ⟨by rfl, ?_⟩) (by assumption) ?_
        rotate_left
        · (intro w hSw; (try dsimp only at hSw); (try go_split_ands); go_simp; (try with_reducible rfl))
        (try simp only [List.getElem_toArray, List.getElem_cons_zero, List.getElem_cons_succ, Act.put, List.setIfInBounds_toArray, List.set_cons_zero, List.set_cons_succ])
        refine wpAnyH_done (by kernel_rfl) ?_ _
        obtain ⟨q471, q472⟩ := q47s
        obtain ⟨q473, q474, q475, q476, q477⟩ := q472 _ rfl
        clear q472 q47a q47b q47c q47d q47e q47f q47g q47h
        go_wp2_with fail
        go_meet
        exact ⟨_, rfl, rfl, ⟨q473, q474, q475, q476, q477⟩, zg33, q471⟩
    · go_simp
      have b49 := b0.alloc b0.size (.cells #[.int .i64 0, .int .i64 0, .int .i64 0, .string ⟨#[]⟩] 29)
      have z50 := ZB.new V0 29 V0.heap.size rfl
      have zg51 : w2.heap.size ≤ V0.heap.size := b0.size
      refine hK.out _ _ (b49) (fun hHeld => ?_)
      clear hK K
      (try simp only [List.getElem_toArray, List.getElem_cons_zero, List.getElem_cons_succ, Act.put, List.setIfInBounds_toArray, List.set_cons_zero, List.set_cons_succ])
      clear hHeld
      have hHeld := b49
      generalize V0.alloc (.cells #[.int .i64 0, .int .i64 0, .int .i64 0, .string ⟨#[]⟩] 29) = W48 at b49 z50 hHeld ⊢
      refine wpAnyH_ready (rs := [6]) (by kernel_rfl) (by simp) ?_
      refine AllReadyH.cons (o := _) rfl (fun K hK => ?_) AllReadyH.nil
      (try simp only [List.getElem_toArray, List.getElem_cons_zero, List.getElem_cons_succ])
      go_simp
      have b53 := b49.alloc b49.size (.cells #[.int .i64 v] 3)
      have iv54 := IntsV.lit W48 [v] 3 1 W48.heap.size rfl rfl
      simp only [List.map_cons, List.map_nil] at iv54
      have z55 := ZB.below z50 ((Below.refl _ _).alloc (Nat.le_refl _) (.cells #[.int .i64 v] 3))
      refine hK.out _ _ (b53) (fun hHeld => ?_)
      clear hK K
      (try simp only [List.getElem_toArray, List.getElem_cons_zero, List.getElem_cons_succ, Act.put, List.setIfInBounds_toArray, List.set_cons_zero, List.set_cons_succ])
      clear hHeld
      have hHeld := b53
      generalize W48.alloc (.cells #[.int .i64 v] 3) = W52 at b53 iv54 z55 hHeld ⊢
      refine wpAnyH_ready (rs := [7]) (by kernel_rfl) (by simp) ?_
      refine AllReadyH.cons (o := _) rfl (fun K hK => ?_) AllReadyH.nil
      (try simp only [List.getElem_toArray, List.getElem_cons_zero, List.getElem_cons_succ])
      go_simp
      ((with_reducible refine (WB.out _ _ iv54).mono ?_); rintro r W56 ⟨rfl, hw57⟩)
      have b58 := b53.trans (hw57.mono b53.size)
      have z59 := ZB.below z55 hw57
      have iv61 := IntsV.below iv54 hw57
      refine hK.out _ _ (b58) (fun hHeld => ?_)
      clear hK K
      (try simp only [List.getElem_toArray, List.getElem_cons_zero, List.getElem_cons_succ, Act.put, List.setIfInBounds_toArray, List.set_cons_zero, List.set_cons_succ])
      refine wpAnyH_take (i := 8) (oi := _) (v := ?_) rfl (by kernel_rfl) (by kernel_rfl) (by kernel_rfl) (fun _ _ _ h => h) (Or.inl ⟨by rfl, ?_⟩) (by assumption) ?_
      rotate_left
      · (intro w hSw; (try dsimp only at hSw); (try go_split_ands); go_simp; (try with_reducible rfl))
      (try simp only [List.getElem_toArray, List.getElem_cons_zero, List.getElem_cons_succ, Act.put, List.setIfInBounds_toArray, List.set_cons_zero, List.set_cons_succ])
      refine wpAnyH_take (i := 14) (oi := _) (v := ?_) rfl (by kernel_rfl) (by kernel_rfl) (by kernel_rfl) (fun _ _ _ h => h) (Or.inl ⟨by rfl, ?_⟩) (by assumption) ?_
      rotate_left
      · (intro w hSw; (try dsimp only at hSw); (try go_split_ands); go_simp; (try with_reducible rfl))
      (try simp only [List.getElem_toArray, List.getElem_cons_zero, List.getElem_cons_succ, Act.put, List.setIfInBounds_toArray, List.set_cons_zero, List.set_cons_succ])
      refine wpAnyH_ready (rs := [15]) (by kernel_rfl) (by simp) ?_
      refine AllReadyH.cons (o := _) rfl (fun K hK => ?_) AllReadyH.nil
      (try simp only [List.getElem_toArray, List.getElem_cons_zero, List.getElem_cons_succ])
      go_simp
      ((with_reducible refine (RC.out _).mono ?_); rintro r W62 ⟨rfl, hw63⟩)
      have b64 := b58.trans (hw63.mono b58.size)
      have z65 := ZB.below z59 hw63
      have iv67 := IntsV.below iv61 hw63
      refine hK.out _ _ (b64) (fun hHeld => ?_)
      clear hK K
      (try simp only [List.getElem_toArray, List.getElem_cons_zero, List.getElem_cons_succ, Act.put, List.setIfInBounds_toArray, List.set_cons_zero, List.set_cons_succ])
      refine wpAnyH_take (i := 16) (oi := _) (v := ?_) rfl (by kernel_rfl) (by kernel_rfl) (by kernel_rfl) (fun _ _ _ h => h) (Or.inl ⟨by rfl, ?_⟩) (by assumption) ?_
      rotate_left
      · (intro w hSw; (try dsimp only at hSw); (try go_split_ands); go_simp; (try with_reducible rfl))
      (try simp only [List.getElem_toArray, List.getElem_cons_zero, List.getElem_cons_succ, Act.put, List.setIfInBounds_toArray, List.set_cons_zero, List.set_cons_succ])
      refine wpAnyH_take (i := 17) (oi := _) (v := ?_) rfl (by kernel_rfl) (by kernel_rfl) (by kernel_rfl) (fun _ _ _ h => h) (Or.inl ⟨by rfl, ?_⟩) (by assumption) ?_
      rotate_left
      · (intro w hSw; (try dsimp only at hSw); (try go_split_ands); go_simp; (try with_reducible rfl))
      (try simp only [List.getElem_toArray, List.getElem_cons_zero, List.getElem_cons_succ, Act.put, List.setIfInBounds_toArray, List.set_cons_zero, List.set_cons_succ])
      refine wpAnyH_take (i := 18) (oi := _) (v := ?_) rfl (by kernel_rfl) (by kernel_rfl) (by kernel_rfl) (fun _ _ _ h => h) (Or.inl ⟨by rfl, ?_⟩) (by assumption) ?_
      rotate_left
      · (intro w hSw; (try dsimp only at hSw); (try go_split_ands); go_simp; (try with_reducible rfl))
      (try simp only [List.getElem_toArray, List.getElem_cons_zero, List.getElem_cons_succ, Act.put, List.setIfInBounds_toArray, List.set_cons_zero, List.set_cons_succ])
      refine wpAnyH_ready (rs := [20]) (by kernel_rfl) (by simp) ?_
      refine AllReadyH.cons (o := _) rfl (fun K hK => ?_) AllReadyH.nil
      (try simp only [List.getElem_toArray, List.getElem_cons_zero, List.getElem_cons_succ])
      obtain ⟨q68l, ⟨q68a, q68b, q68c, q68d⟩, q68e, q68f, q68g, q68h⟩ := id z65
      have q68s := zb_set z65 b64 zg51 (.int .i64 c1) (.int .i64 x1) (.int .i64 p1) (sv l1)
      go_simp
      refine hK.out _ _ (q68s.1) (fun hHeld => ?_)
      clear hK K
      (try simp only [List.getElem_toArray, List.getElem_cons_zero, List.getElem_cons_succ, Act.put, List.setIfInBounds_toArray, List.set_cons_zero, List.set_cons_succ])
      refine wpAnyH_take (i := 21) (oi := _) (v := ?_) rfl (by kernel_rfl) (by kernel_rfl) (by kernel_rfl) (fun _ _ _ h => h) (Or.inl ⟨by rfl, ?_⟩) (by assumption) ?_
      rotate_left
      · (intro w hSw; (try dsimp only at hSw); (try go_split_ands); go_simp; (try with_reducible rfl))
      (try simp only [List.getElem_toArray, List.getElem_cons_zero, List.getElem_cons_succ, Act.put, List.setIfInBounds_toArray, List.set_cons_zero, List.set_cons_succ])
      refine wpAnyH_done (by kernel_rfl) ?_ _
      obtain ⟨q681, q682⟩ := q68s
      obtain ⟨q683, q684, q685, q686, q687⟩ := q682 _ rfl
      clear q682 q68a q68b q68c q68d q68e q68f q68g q68h
      go_wp2_with fail
      go_meet
      exact ⟨_, rfl, rfl, ⟨q683, q684, q685, q686, q687⟩, zg51, q681⟩
    -- ENDWAYS
  case rest =>
    obtain ⟨g, rfl, rfl, hbx, hg2, bw⟩ := hcut
    obtain ⟨y0, y1, y2, y3, y4⟩ := hbx
    have HD := HD7.out.below bw
    obtain ⟨z0, z1, z2, z3, z4⟩ := HD
    have hfz : ∀ j, wc.frozen? ⟨w1.heap.size, j, none⟩ = false := fun j => (bw.frozen (p := ⟨w1.heap.size, j, none⟩) la).trans (HFZ.out j)
    have f0 := hfz 0
    have f1 := hfz 1
    have f2 := hfz 2
    have lw1 : w.heap.size ≤ w1.heap.size := s1
    have hgne : g ≠ w1.heap.size := by omega
    have bwc : Below w.heap.size w wc := chain b2 bw
    have swc := bwc.size
    have hf := HF.out
    clear hfz HFZ HW HF HD7 bw hg2
    obtain rfl | rfl | rfl | rfl | rfl | rfl : k = 0 ∨ k = 1 ∨ k = 2 ∨ k = 3 ∨ k = 4 ∨ k = 5 := by omega
    · obtain ⟨he, hq⟩ := hf.1 rfl
      obtain ⟨rfl, rfl, rfl, rfl⟩ := of_decide_eq_true hq
      subst he
      clear hf hq
      go_wp2_with fail
      go_ret
      exact ⟨rfl, by repeat' (first | (with_reducible exact Below.refl _ _) | (with_reducible assumption) | (with_reducible refine below_drewN ?_ _) | (with_reducible refine Below.alloc ?_ ?_ _) | (with_reducible refine Below.drew ?_) | (with_reducible refine Below.setCell ?_ ?_ _) | go_size)⟩
    · by_cases hv : v = 0
      · obtain ⟨he, hq⟩ := (hf.2.1 rfl).1 hv
        obtain ⟨rfl, rfl, rfl, rfl⟩ := of_decide_eq_true hq
        subst he hv
        clear hf hq
        go_wp2_with fail
        go_ret
        exact ⟨rfl, by repeat' (first | (with_reducible exact Below.refl _ _) | (with_reducible assumption) | (with_reducible refine below_drewN ?_ _) | (with_reducible refine Below.alloc ?_ ?_ _) | (with_reducible refine Below.drew ?_) | (with_reducible refine Below.setCell ?_ ?_ _) | go_size)⟩
      · have he := (hf.2.1 rfl).2 hv
        subst he
        have v1 : (v == 0) = false := by rw [beq_eq_false_iff_ne]; exact hv
        have v2 : (v != 0) = true := by rw [bne_iff_ne]; exact hv
        clear hf hv
        go_wp2_with fail
        go_ret
        exact ⟨rfl, by repeat' (first | (with_reducible exact Below.refl _ _) | (with_reducible assumption) | (with_reducible refine below_drewN ?_ _) | (with_reducible refine Below.alloc ?_ ?_ _) | (with_reducible refine Below.drew ?_) | (with_reducible refine Below.setCell ?_ ?_ _) | go_size)⟩
    · by_cases hv : v = 284
      · have he := (hf.2.2.1 rfl).1 hv
        subst he hv
        clear hf
        go_wp2_with fail
        go_ret
        exact ⟨rfl, by repeat' (first | (with_reducible exact Below.refl _ _) | (with_reducible assumption) | (with_reducible refine below_drewN ?_ _) | (with_reducible refine Below.alloc ?_ ?_ _) | (with_reducible refine Below.drew ?_) | (with_reducible refine Below.setCell ?_ ?_ _) | go_size)⟩
      · have he := (hf.2.2.1 rfl).2 hv
        subst he
        have v1 : (v == 284) = false := by rw [beq_eq_false_iff_ne]; exact hv
        have v2 : (v != 284) = true := by rw [bne_iff_ne]; exact hv
        clear hf hv
        go_wp2_with fail
        go_ret
        exact ⟨rfl, by repeat' (first | (with_reducible exact Below.refl _ _) | (with_reducible assumption) | (with_reducible refine below_drewN ?_ _) | (with_reducible refine Below.alloc ?_ ?_ _) | (with_reducible refine Below.drew ?_) | (with_reducible refine Below.setCell ?_ ?_ _) | go_size)⟩
    · by_cases hv : v = 3
      · have he := (hf.2.2.2.1 rfl).1 hv
        subst he hv
        clear hf
        go_wp2_with fail
        go_ret
        exact ⟨rfl, by repeat' (first | (with_reducible exact Below.refl _ _) | (with_reducible assumption) | (with_reducible refine below_drewN ?_ _) | (with_reducible refine Below.alloc ?_ ?_ _) | (with_reducible refine Below.drew ?_) | (with_reducible refine Below.setCell ?_ ?_ _) | go_size)⟩
      · have he := (hf.2.2.2.1 rfl).2 hv
        subst he
        have v1 : (v == 3) = false := by rw [beq_eq_false_iff_ne]; exact hv
        have v2 : (v != 3) = true := by rw [bne_iff_ne]; exact hv
        clear hf hv
        go_wp2_with fail
        go_ret
        exact ⟨rfl, by repeat' (first | (with_reducible exact Below.refl _ _) | (with_reducible assumption) | (with_reducible refine below_drewN ?_ _) | (with_reducible refine Below.alloc ?_ ?_ _) | (with_reducible refine Below.drew ?_) | (with_reducible refine Below.setCell ?_ ?_ _) | go_size)⟩
    · by_cases hv : 1 ≤ v ∧ v ≤ 16
      · obtain ⟨he, hq⟩ := (hf.2.2.2.2.1 rfl).1 hv
        obtain ⟨rfl, rfl, rfl, rfl⟩ := of_decide_eq_true hq
        subst he
        obtain ⟨v1, v2⟩ := hv
        clear hf hq
        go_wp2_with fail
        go_ret
        exact ⟨rfl, by repeat' (first | (with_reducible exact Below.refl _ _) | (with_reducible assumption) | (with_reducible refine below_drewN ?_ _) | (with_reducible refine Below.alloc ?_ ?_ _) | (with_reducible refine Below.drew ?_) | (with_reducible refine Below.setCell ?_ ?_ _) | go_size)⟩
      · have he := (hf.2.2.2.2.1 rfl).2 hv
        subst he
        clear hf
        by_cases v1 : 1 ≤ v
        · have v2 : 16 < v := by omega
          clear hv
          go_wp2_with fail
          go_ret
          exact ⟨rfl, by repeat' (first | (with_reducible exact Below.refl _ _) | (with_reducible assumption) | (with_reducible refine below_drewN ?_ _) | (with_reducible refine Below.alloc ?_ ?_ _) | (with_reducible refine Below.drew ?_) | (with_reducible refine Below.setCell ?_ ?_ _) | go_size)⟩
        · have v3 : v < 1 := by omega
          clear hv
          go_wp2_with fail
          go_ret
          exact ⟨rfl, by repeat' (first | (with_reducible exact Below.refl _ _) | (with_reducible assumption) | (with_reducible refine below_drewN ?_ _) | (with_reducible refine Below.alloc ?_ ?_ _) | (with_reducible refine Below.drew ?_) | (with_reducible refine Below.setCell ?_ ?_ _) | go_size)⟩
    · by_cases hv : v < 19
      · obtain ⟨he, hq⟩ := (hf.2.2.2.2.2 rfl).1 hv
        obtain ⟨rfl, rfl, rfl, rfl⟩ := of_decide_eq_true hq
        subst he
        clear hf hq
        go_wp2_with fail
        go_ret
        exact ⟨rfl, by repeat' (first | (with_reducible exact Below.refl _ _) | (with_reducible assumption) | (with_reducible refine below_drewN ?_ _) | (with_reducible refine Below.alloc ?_ ?_ _) | (with_reducible refine Below.drew ?_) | (with_reducible refine Below.setCell ?_ ?_ _) | go_size)⟩
      · obtain ⟨he, hp1⟩ := (hf.2.2.2.2.2 rfl).2 (by omega)
        have v2 : 19 ≤ v := by omega
        have v3 : (v < 19) = False := by simp; omega
        clear hf hv
        subst he hp1
        go_wp2_with fail
        go_ret
        exact ⟨rfl, by repeat' (first | (with_reducible exact Below.refl _ _) | (with_reducible assumption) | (with_reducible refine below_drewN ?_ _) | (with_reducible refine Below.alloc ?_ ?_ _) | (with_reducible refine Below.drew ?_) | (with_reducible refine Below.setCell ?_ ?_ _) | go_size)⟩

def callW (a b c d e f : Nat) (r : List UInt8) : List UInt8 := be 4 a ++ (be 4 b ++ (be 4 c ++ (be 4 d ++ (be 4 e ++ (be 4 f ++ r)))))
/-- The words of a call with another word in the place of one. -/
theorem cw_split (a b c d e f : Nat) (l : List UInt8) (q : Nat) (hq : q < 6) (v : Nat) :
    (callW a b c d e f l).take (4 * q) ++ (be 4 v ++ (callW a b c d e f l).drop (4 * q + 4)) =
      callW (if q = 0 then v else a) (if q = 1 then v else b) (if q = 2 then v else c) (if q = 3 then v else d) (if q = 4 then v else e) (if q = 5 then v else f) l := by
  unfold callW
  obtain rfl | rfl | rfl | rfl | rfl | rfl : q = 0 ∨ q = 1 ∨ q = 2 ∨ q = 3 ∨ q = 4 ∨ q = 5 := by omega
  all_goals simp [be4]
end Go.Proofs.Ytaobfidjnnhniaa
