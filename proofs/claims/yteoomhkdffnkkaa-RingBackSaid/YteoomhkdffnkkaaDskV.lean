/- A disk in memory, and its small methods. Conditions: none. -/
import Derived.Test.YteoomhkdffnkkaaDsk
namespace Go.Proofs.Yteoomhkdffnkkaa
set_option linter.unusedVariables false
set_option linter.unusedSimpArgs false
open Go.ChangeShapes Go.WideShapes Go.ChangeAt Go.RowKit
set_option maxRecDepth 100000

theorem row_stay {w w' : World} {B : Nat} {e : TypeId} {size n : Nat} {v : Value} {xs : List Value} (h : w.ownsRow B e size v n xs) (hb : ∀ k, v.ownBlock = some k → w'.heap[k]? = w.heap[k]?) : w'.ownsRow B e size v n xs := by
  refine ⟨h.1, ?_⟩
  rcases h.2 with hn | ⟨g, cap, cur, rfl, hbg, hg, rest⟩
  · exact .inl hn
  · exact .inr ⟨g, cap, cur, rfl, hbg, (hb g rfl).trans hg, rest⟩
theorem row_type {w : World} {B : Nat} {e : TypeId} {size n : Nat} {v : Value} {xs : List Value} (h : w.ownsRow B e size v n xs) {k : Nat} (hk : v.ownBlock = some k) : ∃ cur, w.heap[k]? = some (.cells cur e (0, 0)) := by
  rcases h.2 with ⟨rfl, _⟩ | ⟨g, cap, cur, rfl, hbg, hg, rest⟩
  · cases hk
  · injection hk with hk
    exact ⟨cur, hk ▸ hg⟩
theorem row_off {w : World} {B : Nat} {e t : TypeId} {size n : Nat} {v : Value} {xs : List Value} (h : w.ownsRow B e size v n xs) {g : Nat} {cs : Array Value} {fr : Nat × Nat} (hg : w.heap[g]? = some (.cells cs t fr)) (ht : e ≠ t) : v.ownBlock ≠ some g := by
  intro hk
  obtain ⟨cur, h1⟩ := row_type h hk
  rw [hg] at h1
  injection h1 with h1
  injection h1 with _ h1
  exact ht h1.symm
theorem row_off_map {w : World} {B : Nat} {e : TypeId} {size n : Nat} {v : Value} {xs : List Value} (h : w.ownsRow B e size v n xs) {g : Nat} {es : Array MapEntry} {c : Nat} (hg : w.heap[g]? = some (.map es c)) : v.ownBlock ≠ some g := by
  intro hk
  obtain ⟨cur, h1⟩ := row_type h hk
  rw [hg] at h1
  cases h1
theorem row_form {w : World} {B : Nat} {e : TypeId} {size n : Nat} {v : Value} {xs : List Value} (h : w.ownsRow B e size v n xs) : ∃ A cap, v = .slice A n cap ∧ n ≤ cap ∧ cap ≤ maxLen ∧ (0 < n → ∃ q, A = some ⟨q, 0, none⟩ ∧ w.rangeAt q 0 xs ∧ v.ownBlock = some q) := by
  rcases h.2 with ⟨rfl, rfl⟩ | ⟨g, cap, cur, rfl, hbg, hg, h1, h2, h3, h4⟩
  · exact ⟨none, 0, rfl, Nat.le_refl _, Nat.zero_le _, fun h => absurd h (by simp)⟩
  · refine ⟨some ⟨g, 0, none⟩, cap, rfl, h1, h2, fun _ => ⟨g, rfl, fun j u hu => ?_, rfl⟩⟩
    have := h.cells (g := g) rfl j u hu
    rwa [Addr.add_mid] at this

theorem wb_set' (w : World) (g k : Nat) (u : Value) : w.grownBy (w.setCell ⟨g, k, none⟩ u) (some g) := ⟨rfl, rfl, rfl, by simp [World.setCell], fun j hj hne => Below.heap_setCell _ _ _ _ (fun e => hne (congrArg some e))⟩

abbrev dptr (g : Nat) : Value := .pointer (some ⟨g, 0, none⟩)
/-- A disk's own cells. -/
def Box (w : World) (g b m : Nat) (v : Value) (c : Nat) (kv : Value) (dd : Bool) : Prop :=
  w.heap[g]? = some (.cells #[.int .i64 (b : Int), .map (some m), v, .int .i64 (c : Int), kv, .bool dd] 87 (0, 0))
section
variable {w w' : World} {g b m c : Nat} {v kv : Value} {dd : Bool}
theorem Box.cells (h : Box w g b m v c kv dd) : w.cell? ⟨g, 0, none⟩ = some (.int .i64 (b : Int)) ∧ w.cell? ⟨g, 1, none⟩ = some (.map (some m)) ∧ w.cell? ⟨g, 2, none⟩ = some v ∧ w.cell? ⟨g, 3, none⟩ = some (.int .i64 (c : Int)) ∧ w.cell? ⟨g, 4, none⟩ = some kv ∧ w.cell? ⟨g, 5, none⟩ = some (.bool dd) :=
  ⟨(cell_of_row w g 0 _ _ _ h).trans rfl, (cell_of_row w g 1 _ _ _ h).trans rfl, (cell_of_row w g 2 _ _ _ h).trans rfl, (cell_of_row w g 3 _ _ _ h).trans rfl, (cell_of_row w g 4 _ _ _ h).trans rfl, (cell_of_row w g 5 _ _ _ h).trans rfl⟩
theorem Box.free (h : Box w g b m v c kv dd) (j : Nat) : w.frozen? ⟨g, j, none⟩ = false := frozen_of_row w g j _ _ h
theorem Box.lt (h : Box w g b m v c kv dd) : g < w.heap.size := (Array.getElem?_eq_some_iff.1 h).1
theorem Box.stay (h : Box w g b m v c kv dd) (hb : w'.heap[g]? = w.heap[g]?) : Box w' g b m v c kv dd := hb.trans h
theorem Box.but {row : Option Nat} (h : Box w g b m v c kv dd) (hb : w.grownBy w' row) (hne : some g ≠ row) : Box w' g b m v c kv dd := h.stay (hb.block g h.lt hne)
theorem Box.below (h : Box w g b m v c kv dd) (hb : Below w.heap.size w w') : Box w' g b m v c kv dd := h.stay (hb.block g h.lt)
theorem Box.set2 (h : Box w g b m v c kv dd) (x : Value) : Box (w.setCell ⟨g, 2, none⟩ x) g b m x c kv dd := (heap_setCell_same w g 2 _ _ x h).trans rfl
theorem Box.set3 (h : Box w g b m v c kv dd) (x : Nat) : Box (w.setCell ⟨g, 3, none⟩ (.int .i64 (x : Int))) g b m v x kv dd := (heap_setCell_same w g 3 _ _ _ h).trans rfl
theorem Box.set4 (h : Box w g b m v c kv dd) (x : Value) : Box (w.setCell ⟨g, 4, none⟩ x) g b m v c x dd := (heap_setCell_same w g 4 _ _ x h).trans rfl
theorem Box.set5 (h : Box w g b m v c kv dd) (x : Bool) : Box (w.setCell ⟨g, 5, none⟩ (.bool x)) g b m v c kv x := (heap_setCell_same w g 5 _ _ _ h).trans rfl
end

/-- In block g lies the disk d: its map in m, its writes at v, its cut's yes and no at kv. -/
structure DiskAt (w : World) (fp rp : Nat → Prop) (g : Nat) (d : Dk) (m : Nat) (v kv : Value) : Prop where
  ok : d.Ok
  box : Box w g d.blocks m v d.cut kv d.dead
  map : MapOn w m d.on d.many
  row : w.ownsRow 0 90 513 v d.wait.length (wcells d.wait)
  none : d.wait = [] → v = .slice none 0 0
  keep : w.ownsRow 0 4 1 kv d.keep.length (d.keep.map Value.bool)
  fg : fp g
  fm : fp m
  fv : ∀ k, v.ownBlock = some k → fp k
  fk : ∀ k, kv.ownBlock = some k → rp k
/-- .. and all of it in blocks of fp. -/
def DiskV (w : World) (fp rp : Nat → Prop) (g : Nat) (d : Dk) : Prop := ∃ m v kv, DiskAt w fp rp g d m v kv
section
variable {w w' : World} {fp fp' rp rp' : Nat → Prop} {g m : Nat} {v kv : Value} {d : Dk}
theorem DiskAt.stay (h : DiskAt w fp rp g d m v kv) (hb : ∀ k, k < w.heap.size → (fp k ∨ rp k) → w'.heap[k]? = w.heap[k]?) : DiskAt w' fp rp g d m v kv :=
  ⟨h.ok, h.box.stay (hb _ h.box.lt (.inl h.fg)), h.map.block (hb _ h.map.lt (.inl h.fm)), row_stay h.row (fun k hk => hb k (h.row.lt k hk).2 (.inl (h.fv k hk))), h.none, row_stay h.keep (fun k hk => hb k (h.keep.lt k hk).2 (.inr (h.fk k hk))), h.fg, h.fm, h.fv, h.fk⟩
theorem DiskAt.mono (h : DiskAt w fp rp g d m v kv) (hi : ∀ k, k < w.heap.size → fp k → fp' k) (hr : ∀ k, k < w.heap.size → rp k → rp' k) : DiskAt w fp' rp' g d m v kv :=
  ⟨h.ok, h.box, h.map, h.row, h.none, h.keep, hi _ h.box.lt h.fg, hi _ h.map.lt h.fm, fun k hk => hi k (h.row.lt k hk).2 (h.fv k hk), fun k hk => hr k (h.keep.lt k hk).2 (h.fk k hk)⟩
theorem DiskV.stay (h : DiskV w fp rp g d) (hb : ∀ k, k < w.heap.size → (fp k ∨ rp k) → w'.heap[k]? = w.heap[k]?) : DiskV w' fp rp g d := by obtain ⟨m, v, kv, h⟩ := h; exact ⟨m, v, kv, h.stay hb⟩
theorem DiskV.mono (h : DiskV w fp rp g d) (hi : ∀ k, k < w.heap.size → fp k → fp' k) (hr : ∀ k, k < w.heap.size → rp k → rp' k) : DiskV w fp' rp' g d := by obtain ⟨m, v, kv, h⟩ := h; exact ⟨m, v, kv, h.mono hi hr⟩
theorem DiskV.below (h : DiskV w fp rp g d) (hb : Below w.heap.size w w') : DiskV w' fp rp g d := h.stay (fun k hk _ => hb.block k hk)
/-- Another disk's doings leave it. -/
theorem DiskV.apart (h : DiskV w fp rp g d) (hb : GrownIn w w' fp') (hd : ∀ k, k < w.heap.size → (fp k ∨ rp k) → fp' k → False) : DiskV w' fp rp g d := h.stay (fun k hk hf => hb.block k hk (fun e => hd k hk hf e))
theorem DiskV.ok (h : DiskV w fp rp g d) : d.Ok := by obtain ⟨m, v, kv, h⟩ := h; exact h.ok
theorem DiskV.lt (h : DiskV w fp rp g d) : g < w.heap.size := by obtain ⟨m, v, kv, h⟩ := h; exact h.box.lt
theorem DiskV.alloc (h : DiskV w fp rp g d) (o : Obj) : DiskV (w.alloc o) fp rp g d := h.below ((Below.refl _ _).alloc (Nat.le_refl _) _)
theorem DiskV.drew (h : DiskV w fp rp g d) : DiskV w.drew fp rp g d := h.below (Below.refl _ _).drew
end

def errV (e : Int) : Value := .int .i64 e
theorem check_cell {g : Nat} {dd : Bool} (w : World) (c5 : w.cell? ⟨g, 5, none⟩ = some (.bool dd)) : Calls Try.prog 52 #[dptr g] w fun e w' => e = .returned (.int .i64 (if dd then 51 else 0)) ∧ w = w' := by
  cases dd with
  | false =>
    go_enter Try.func52, Try.ntmps52
    go_wp2_with fail
    go_ret
    exact ⟨rfl, rfl⟩
  | true =>
    go_enter Try.func52, Try.ntmps52
    go_wp2_with fail
    go_ret
    exact ⟨rfl, rfl⟩
theorem check_nil (w : World) : Calls Try.prog 52 #[.pointer none] w fun e w' => e = .returned (.int .i64 2) ∧ w = w' := by
  go_enter Try.func52, Try.ntmps52
  go_wp2_with fail
  go_ret
  exact ⟨rfl, rfl⟩
theorem bad_cell {g : Nat} {d : Dk} (n : Int) (w : World) (c0 : w.cell? ⟨g, 0, none⟩ = some (.int .i64 (d.blocks : Int))) (c5 : w.cell? ⟨g, 5, none⟩ = some (.bool d.dead)) :
    Calls Try.prog 49 #[dptr g, .int .i64 n] w fun e w' => e = .returned (.int .i64 (d.bad n)) ∧ w = w' := by
  have CK := Lib.hid (check_cell w c5)
  unfold Dk.bad
  generalize d.blocks = B at *
  by_cases hd : d.dead = true
  · rw [if_pos hd]
    rw [if_pos hd] at CK
    clear c0 c5 hd
    go_enter Try.func49, Try.ntmps49
    go_wp2_with fail
    refine (CK.out).mono ?_; rintro e w' ⟨rfl, rfl⟩
    go_wp2_with fail
    go_ret
    exact ⟨rfl, rfl⟩
  · rw [if_neg hd]
    rw [if_neg hd] at CK
    clear c5 hd
    by_cases h1 : n < 0
    · rw [if_pos (.inl h1)]
      go_enter Try.func49, Try.ntmps49
      go_wp2_with fail
      refine (CK.out).mono ?_; rintro e w' ⟨rfl, rfl⟩
      go_wp2_with fail
      go_ret
      exact ⟨rfl, rfl⟩
    · by_cases h2 : (B : Int) ≤ n
      · rw [if_pos (.inr h2)]
        go_enter Try.func49, Try.ntmps49
        go_wp2_with fail
        refine (CK.out).mono ?_; rintro e w' ⟨rfl, rfl⟩
        go_wp2_with fail
        go_ret
        exact ⟨rfl, rfl⟩
      · rw [if_neg (fun h => h.elim h1 h2)]
        go_enter Try.func49, Try.ntmps49
        go_wp2_with fail
        refine (CK.out).mono ?_; rintro e w' ⟨rfl, rfl⟩
        go_wp2_with fail
        go_ret
        exact ⟨rfl, rfl⟩
theorem bad_nil (n : Int) (w : World) : Calls Try.prog 49 #[.pointer none, .int .i64 n] w fun e w' => e = .returned (.int .i64 2) ∧ w = w' := by
  go_enter Try.func49, Try.ntmps49
  go_wp2_with fail
  refine (check_nil w).mono ?_; rintro e w' ⟨rfl, rfl⟩
  go_wp2_with fail
  go_ret
  exact ⟨rfl, rfl⟩
theorem now_box {g b m c : Nat} {v kv : Value} {dd : Bool} (w : World) (h : Box w g b m v c kv dd) (hc : c ≤ 9223372036854775807) :
    Calls Try.prog 50 #[dptr g] w fun e w' => e = .returned (.bool (decide (c = 1))) ∧ Box w' g b m v (c - 1) kv dd ∧ w.grownBy w' (some g) := by
  have HB := Lib.hid h
  obtain ⟨_, _, _, c3, _, _⟩ := h.cells
  have f3 := h.free 3
  clear h
  cases c with
  | zero =>
    go_enter Try.func50, Try.ntmps50
    go_wp2_with fail
    go_ret
    exact ⟨rfl, HB.out, World.grownBy.refl _ _⟩
  | succ c =>
    have h0 : (((c + 1 : Nat) : Int) == 0) = false := by simp; omega
    have hs : ((c + 1 : Nat) : Int) - 1 = (c : Int) := by omega
    have hw1 : wrap64 (((c + 1 : Nat) : Int) - 1) = (c : Int) := by rw [hs]; exact IntWalk.wrap64_in _ (by omega)
    generalize ((c + 1 : Nat) : Int) = C at c3 h0 hs hw1
    by_cases hc0 : c = 0
    · subst hc0
      go_enter Try.func50, Try.ntmps50
      go_wp2_with fail
      go_ret
      exact ⟨rfl, HB.out.set3 0, wb_set' _ _ _ _⟩
    · have hcz : ((c : Int) == 0) = false := by simp; omega
      go_enter Try.func50, Try.ntmps50
      go_wp2_with fail
      go_ret
      exact ⟨by simp [hc0], HB.out.set3 c, wb_set' _ _ _ _⟩
end Go.Proofs.Yteoomhkdffnkkaa
