/- slices.Clone, maps.Clone; a disk's New, Cut, Boot, Copy. Conditions: none. -/
import Derived.Test.YteoomhkdffnkkaaDskV
import Derived.Shelf.SlMaps.Clone
import Derived.Lib.LazyBuf
namespace Go.Proofs.Yteoomhkdffnkkaa
set_option linter.unusedVariables false
set_option linter.unusedSimpArgs false
open Go.ChangeShapes Go.WideShapes Go.ChangeAt Go.RowKit
set_option maxRecDepth 100000

theorem info_bool : (Try.prog.info? 4).map (fun i => (i.zero, i.size, i.bytes)) = some (some (.bool false), 1, 1) := by kernel_rfl
theorem info_wr : (Try.prog.info? 90).map (fun i => (i.zero, i.size, i.bytes)) = some (some (wv (0, zs 512)), 513, 520) := by kernel_rfl

theorem row_base {w : World} {B B' : Nat} {e : TypeId} {size n : Nat} {v : Value} {xs : List Value} (h : w.ownsRow B e size v n xs) (hb : B' ≤ B) : w.ownsRow B' e size v n xs :=
  ⟨h.1, h.2.elim .inl (fun ⟨g, cap, cur, hv, hg, r⟩ => .inr ⟨g, cap, cur, hv, Nat.le_trans hb hg, r⟩)⟩
theorem row_new (w : World) (e : TypeId) (size : Nat) : (w.alloc (.cells #[] e)).ownsRow w.heap.size e size (.slice (some ⟨w.heap.size, 0, none⟩) 0 0) 0 [] :=
  ⟨by simp, .inr ⟨w.heap.size, 0, #[], rfl, Nat.le_refl _, heap_alloc_new w _, Nat.le_refl _, Nat.zero_le _, by simp, by simp⟩⟩
theorem bools_one (k : List Bool) : ∀ u ∈ k.map Value.bool, u.oneCell' = true := by
  intro u hu
  obtain ⟨b, _, rfl⟩ := List.mem_map.1 hu
  rfl
theorem BoolsV.of_row {w : World} {B : Nat} {v : Value} {k : List Bool} (h : w.ownsRow B 4 1 v k.length (k.map Value.bool)) : BoolsV w v k := by
  rcases h.2 with ⟨rfl, h0⟩ | ⟨g, cap, cur, rfl, hb, hg, h1, h2, h3, h4⟩
  · have : k = [] := List.eq_nil_of_length_eq_zero h0
    subst this
    exact BoolsV.nil w
  · refine ⟨_, cap, rfl, h1, h2, fun e => (by cases e), fun h0 => ⟨g, 0, rfl, (Array.getElem?_eq_some_iff.1 hg).1, fun j hj => ?_⟩⟩
    have := h.cells (g := g) rfl j (.bool k[j]) (by simp [hj])
    rwa [Addr.add_mid] at this

set_option maxHeartbeats 800000 in
theorem cloneB_any (w : World) (v : Value) (k : List Bool) (h : BoolsV w v k) (hk : k.length ≤ 140737488355328) :
    Calls Try.prog 54 #[v] w fun e w' => ∃ v', e = .returned v' ∧ w'.ownsRow w.heap.size 4 1 v' k.length (k.map Value.bool) ∧ Below w.heap.size w w' := by
  obtain ⟨i0, hi, hz0, hz1, hz2⟩ := info_parts info_bool
  obtain ⟨A, c, rfl, h1, h2, h3, h4⟩ := h
  cases A with
  | none =>
    have := h3 rfl
    subst this
    have : k = [] := List.eq_nil_of_length_eq_zero (by omega)
    subst this
    clear h1 h2 h3 h4
    have hq := fun w => run_eql_slice_nil (P := Try.prog) w 62 _ none 0 0 Try.underlying62
    go_enter Try.func54, Try.ntmps54
    go_wp2_with fail
    go_ret
    exact ⟨_, rfl, World.ownsRow_nil _ _ _ _, Below.refl _ _⟩
  | some ad =>
    have hn : ∀ (W : World), Below w.heap.size w W → ∀ j u, (k.map Value.bool)[j]? = some u → W.cell? (ad.add j) = some u := by
      intro W hW j u hu
      have hj : j < k.length := by have := (List.getElem?_eq_some_iff.1 hu).1; simpa using this
      obtain ⟨b, off, e, hb, hc⟩ := h4 (by omega)
      injection e with e
      subst e
      rw [Addr.add_mid, hW.cell (p := ⟨b, off + j, none⟩) hb, hc j hj, ← hu]
      simp [hj]
    have HN := Lib.hid hn
    have HR := Lib.hid (row_new w 4 1)
    clear h1 h2 h3 h4 hn
    have hq := fun w => run_eql_slice_nil (P := Try.prog) w 62 _ (some ad) k.length c Try.underlying62
    go_enter Try.func54, Try.ntmps54
    go_wp2_with (at_builtin; refine wpList_append_own _ rfl _ _ 62 rfl w.heap.size 4 i0 (.bool false) 1 1 Try.underlying62 hi hz0 hz1 hz2 rfl (by decide) _ 0 [] rfl HR.out ad k.length c (k.map Value.bool) rfl (by simp) (HN.out _ ((Below.refl _ _).alloc (Nat.le_refl _) _)) (bools_one k) (by unfold maxLen; omega) (by omega) (by simp) ?_)
    intro v' w' hrow hgrow _
    have HW := Lib.hid hrow
    have b1 : Below w.heap.size w w' := ((Below.refl _ _).alloc (Nat.le_refl _) _).grown hgrow (by simp) (fun k e => by cases e; exact Nat.le_refl _)
    clear hrow hgrow
    go_wp2_with fail
    go_ret
    exact ⟨_, rfl, HW.out, b1⟩

theorem wcells_one (l : List Wr) : ∀ u ∈ wcells l, u.oneCell' = true := by
  intro u hu
  obtain ⟨p, _, hp⟩ := List.mem_flatMap.1 hu
  exact wcell_one p u hp

set_option maxHeartbeats 800000 in
theorem cloneW_any (w : World) (v : Value) (l : List Wr) (hr : w.ownsRow 0 90 513 v l.length (wcells l)) (hn : l = [] → v = .slice none 0 0) (hl : ∀ p ∈ l, p.2.length = 512) (hs : l.length ≤ 1073741824) :
    Calls Try.prog 57 #[v] w fun e w' => ∃ v', e = .returned v' ∧ w'.ownsRow w.heap.size 90 513 v' l.length (wcells l) ∧ (l = [] → v' = .slice none 0 0) ∧ Below w.heap.size w w' := by
  obtain ⟨i0, hi, hz0, hz1, hz2⟩ := info_parts info_wr
  cases l with
  | nil =>
    obtain rfl := hn rfl
    clear hr hn hl hs
    have hq := fun w => run_eql_slice_nil (P := Try.prog) w 85 _ none 0 0 Try.underlying85
    go_enter Try.func57, Try.ntmps57
    go_wp2_with fail
    go_ret
    exact ⟨_, rfl, World.ownsRow_nil _ _ _ _, fun _ => rfl, Below.refl _ _⟩
  | cons p0 l0 =>
    have h0 : 0 < (p0 :: l0).length := by simp
    have hne : (p0 :: l0) = [] → False := by simp
    generalize (p0 :: l0) = l at *
    obtain ⟨A, c, rfl, h1, h2, h3⟩ := row_form hr
    obtain ⟨q, rfl, hq, hob⟩ := h3 h0
    have hlt := (hr.lt q hob).2
    have hN : ∀ (W : World), Below w.heap.size w W → ∀ j u, (wcells l)[j]? = some u → W.cell? ((⟨q, 0, none⟩ : Addr).add j) = some u := by
      intro W hW j u hu
      rw [Addr.add_mid, hW.cell (p := ⟨q, 0 + j, none⟩) hlt]
      exact hq j u hu
    have HN := Lib.hid hN
    have HR := Lib.hid (row_new w 90 513)
    have HL := Lib.hid (wcells_len hl)
    have hsz : (wv (0, zs 512)).cells.size = 513 := wa_size (zs_len 512)
    have HZ := Lib.hid hsz
    have HI := Lib.hid hz0
    clear hN hr hn hl h1 h2 h3 hq hsz hz0
    have hq := fun w => run_eql_slice_nil (P := Try.prog) w 85 _ (some ⟨q, 0, none⟩) l.length c Try.underlying85
    go_enter Try.func57, Try.ntmps57
    go_wp2_with (at_builtin; refine wpList_append_own _ rfl _ _ 85 rfl w.heap.size 90 i0 _ 513 520 Try.underlying85 hi HI.out hz1 hz2 HZ.out (by decide) _ 0 [] rfl HR.out ⟨q, 0, none⟩ l.length c (wcells l) rfl HL.out (HN.out _ ((Below.refl _ _).alloc (Nat.le_refl _) _)) (wcells_one l) (by unfold maxLen; omega) (by omega) (by simp) ?_)
    intro v' w' hrow hgrow _
    have HW := Lib.hid hrow
    have b1 : Below w.heap.size w w' := ((Below.refl _ _).alloc (Nat.le_refl _) _).grown hgrow (by simp) (fun k e => by cases e; exact Nat.le_refl _)
    clear hrow hgrow
    go_wp2_with fail
    go_ret
    exact ⟨_, rfl, HW.out, fun e => (hne e).elim, b1⟩

set_option maxHeartbeats 800000 in
theorem cloneM_any (w : World) (m N : Nat) (f : Int → List UInt8) (h : MapOn w m f N) :
    Calls Try.prog 55 #[.map (some m)] w fun e w' => e = .returned (.map (some w.heap.size)) ∧ MapOn w' w.heap.size f N ∧ Below w.heap.size w w' := by
  obtain ⟨es, clock, hb⟩ := h.is
  have HM := Lib.hid h
  have hq := fun w => run_eql_map_nil_sl (P := Try.prog) w 84 _ _ (some m) Try.underlying84
  clear h
  go_enter Try.func55, Try.ntmps55
  go_wp2
  rw [run_callFunc_extern Try.func69 (by kernel_rfl) (by kernel_rfl) (by kernel_rfl) (e := Extern.MapsClone.clone) (by kernel_rfl), run_maps_clone_sl w 84 hb]
  simp only [Result.andThen]
  rw [Oper.upon_value]
  go_wp2
  rw [run_typeAssert_map_sl _ 84 20 _ _ _ Try.underlying84]
  simp only [Result.andThen]
  rw [Oper.upon_value]
  go_wp2
  go_ret
  obtain ⟨D, ⟨es', clock', hb', F, hs, hD⟩, hf⟩ := HM.out
  rw [hb] at hb'
  injection hb' with hb'
  injection hb' with e1 e2
  subst e1 e2
  exact ⟨rfl, ⟨D, ⟨es, clock, heap_alloc_new w _, F, hs, hD⟩, hf⟩, (Below.refl _ w).alloc (Nat.le_refl _) _⟩
end Go.Proofs.Yteoomhkdffnkkaa
