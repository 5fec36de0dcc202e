/- append(b[:len(b):len(b)], more...) of bytes: what it yields. Conditions: the sum of the lengths is at most 2^47. -/
import Derived.Test.YtaobfidjnnhniaaLib
namespace Go.Proofs.Ytaobfidjnnhniaa
set_option linter.unusedVariables false
set_option linter.unusedSimpArgs false
open Go.RowKit

theorem RowB.mono {w : World} {B B' : Nat} {v : Value} {l : List UInt8} (h : RowB w B v l) (hb : B' ≤ B) : RowB w B' v l := by
  obtain ⟨g, c, h1, h2, h3⟩ := h
  exact ⟨g, c, h1, by omega, h3⟩

theorem ret_int {k : IntKind} {a b : Int} (h : a = b) : Ending.returned (.int k a) = .returned (.int k b) := by rw [h]

theorem bc_get (l : List UInt8) (j : Nat) (h : j < l.length) : (bc l)[j]? = some (.int .u8 (l[j].toNat : Int)) := by simp [bc, h]

theorem firstCells_bytes {P : Program} {w : World} {A : Option Addr} {c : Nat} {l : List UInt8} (h : BytesV w (.slice A l.length c) l) :
    (Builtin.firstCells 1 l.length (.slice A l.length c)).run P w = .ok (bc l).toArray w := by
  obtain ⟨A', c', e, hl, hc, hn, hr⟩ := h
  injection e with e1 e2 e3
  subst e1 e3
  cases l with
  | nil =>
    cases A with
    | none => exact run_firstCells_none w 1 0 0 c
    | some a => simp [Builtin.firstCells, loadCells, loadCellsFrom]
  | cons x l =>
    obtain ⟨b, off, rfl, hb, hcell⟩ := hr (by simp)
    refine run_firstCells_some w 1 _ ⟨b, off, none⟩ _ c (bc (x :: l)) (by simp) (fun j u hj => ?_)
    have hj' : j < (x :: l).length := by have := (List.getElem?_eq_some_iff.1 hj).1; simpa using this
    rw [Addr.add_lit]
    exact (hcell j hj').trans ((bc_get _ _ hj').symm.trans hj)

theorem Src.ofBytes {P : Program} {w : World} {tx e' : TypeId} (hk : P.underlying tx = some (.slice e')) {A : Option Addr} {c : Nat} {l : List UInt8} (h : BytesV w (.slice A l.length c) l) : Src P 1 tx (.slice A l.length c) l.length (bc l) w :=
  ⟨.inl ⟨e', hk⟩, fun _ => rfl, firstCells_bytes h, firstCells_bytes (w := w.drew) h, by simp, bc_one l⟩

theorem rowB_new (w : World) (C : Array Value) (e : TypeId) (l : List UInt8) (c : Nat) (hc : l.length ≤ c) (hm : c ≤ maxLen) (hC : ∀ k, (h : k < l.length) → C[k]? = some (.int .u8 (l[k].toNat : Int))) :
    RowB (w.alloc (.cells C e)) w.heap.size (.slice (some ⟨w.heap.size, 0, none⟩) l.length c) l := by
  refine ⟨_, c, rfl, Nat.le_refl _, by simp, hc, hm, fun k hk => ⟨?_, by simp⟩⟩
  rw [cell_new _ _ _ _ _ rfl, hC k hk]

/-- 'append(b[:len(b):len(b)], more...)': the very slice, if nothing is appended; else a row of its own. -/
theorem run_append_cat {P : Program} {w : World} (t tx ty e : TypeId) {i : TypeInfo} (ht : P.underlying t = some (.slice e)) (htx : P.underlying tx = some (.slice e)) (hi : P.info? e = some i) (hz : i.zero = some (.int .u8 0)) (hs : i.size = 1) (hby : i.bytes = 1)
    {A B : Option Addr} {c : Nat} {l k : List UInt8} (hl : BytesV w (.slice A l.length l.length) l) (hk : BytesV w (.slice B k.length c) k) (hsum : l.length + k.length ≤ 140737488355328) :
    ∃ v' w', (Builtin.append_ #[t, tx] ty #[.slice A l.length l.length, .slice B k.length c]).run P w = .ok v' w' ∧ BytesV w' v' (l ++ k) ∧ Below w.heap.size w w' ∧ (k ≠ [] → RowB w' w.heap.size v' (l ++ k)) := by
  have hsrc : Src P i.size tx (.slice B k.length c) k.length (bc k) w := by rw [hs]; exact Src.ofBytes htx hk
  by_cases h0 : k = []
  · subst h0
    refine ⟨.slice A l.length l.length, w, ?_, by simpa using hl, Below.refl _ _, fun h => absurd rfl h⟩
    have h1 : (Builtin.firstCells i.size 0 (.slice B 0 c)).run P w = .ok #[] w := hsrc.cells
    cases A with
    | none => simp [Builtin.append_, run_underlying ht, run_underlying htx, sizeOf, typeInfo, hi, Builtin.lenOf, h1]
    | some a => simp [Builtin.append_, run_underlying ht, run_underlying htx, sizeOf, typeInfo, hi, Builtin.lenOf, h1, storeCells]
  · have hkl : 0 < k.length := List.length_pos_iff.2 h0
    have hgr := run_append_grow_src (P := P) w t tx ty e i (.int .u8 0) ht hi hz A l.length l.length (bc l) (by rw [hs]; exact firstCells_bytes (w := w.drew) hl) (.slice B k.length c) k.length (bc k) hsrc (by omega) (by omega)
      (growslice_fits (by omega) (by rw [hby]; omega))
    have hrow : RowB (w.drew.alloc (.cells ((bc l ++ bc k).toArray ++ Builtin.zeroCells (Value.int .u8 0).cells (grownCap w (l.length + k.length) l.length e - (l.length + k.length))) e)) w.drew.heap.size
        (.slice (some ⟨w.heap.size, 0, none⟩) (l ++ k).length (grownCap w (l.length + k.length) l.length e)) (l ++ k) := by
      refine rowB_new w.drew _ e (l ++ k) _ (by rw [List.length_append]; exact grownCap_ge _ _ _ _) (grownCap_le_maxLen _ _ _ _ (by unfold maxLen; omega)) (fun j hj => ?_)
      rw [Array.getElem?_append_left (by simpa using hj), ← bc_append, List.getElem?_toArray, bc_get _ _ hj]
    rw [List.length_append] at hrow
    exact ⟨_, _, hgr, hrow.bytes, (Below.refl _ _).drew.alloc (Nat.le_refl _) _, fun _ => hrow⟩

theorem wpList_append_cat {P : Program} {ops : Array Oper} {rest : List Oper} {o : Oper} {a : Act} {Q : Exit → Act → World → Prop} {w : World} (hgd : o.guard = none) (s x : Operand) {t e : TypeId}
    (ho : o.op = .call { callee := .builtin .append, args := #[s, x], argTypes := #[t, t] }) {i : TypeInfo} (ht : P.underlying t = some (.slice e)) (hi : P.info? e = some i) (hz : i.zero = some (.int .u8 0)) (hs : i.size = 1) (hby : i.bytes = 1)
    {A B : Option Addr} {n m c : Nat} {l k : List UInt8} (hes : a.eval s = .slice A n n) (hex : a.eval x = .slice B m c) (hn : n = l.length) (hm : m = k.length)
    (hl : BytesV w (.slice A l.length l.length) l) (hk : BytesV w (.slice B k.length c) k) (hsum : l.length + k.length ≤ 140737488355328)
    (h : ∀ v' w', BytesV w' v' (l ++ k) → Below w.heap.size w w' → (k ≠ [] → RowB w' w.heap.size v' (l ++ k)) → wpList P ops Q rest (a.put o.dst v') w') : wpList P ops Q (o :: rest) a w := by
  refine wpList_plain hgd fun K hK => ?_
  subst hn hm
  obtain ⟨v', w', hr, h1, h2, h3⟩ := run_append_cat (P := P) t t o.type e ht ht hi hz hs hby hl hk hsum
  unfold Oper.wp execOp
  simp only [ho, resolve, invoke, builtin, Sem.run_bind, Sem.run_pure, Result.andThen_ok, List.map_toArray, List.map_cons, List.map_nil, hes, hex, hr]
  exact hK _ _ (h v' w' h1 h2 h3)

/-- 'append([]byte{}, b...)': a row of its own that holds b. -/
theorem run_append_fresh {P : Program} {w : World} (t tx ty e : TypeId) {i : TypeInfo} (ht : P.underlying t = some (.slice e)) (htx : P.underlying tx = some (.slice e)) (hi : P.info? e = some i) (hz : i.zero = some (.int .u8 0)) (hs : i.size = 1) (hby : i.bytes = 1)
    {g base : Nat} {B : Option Addr} {c : Nat} {k : List UInt8} (hg : w.heap[g]? = some (.cells #[] e (0, 0))) (hbase : base ≤ g) (hk : BytesV w (.slice B k.length c) k) (hsum : k.length ≤ 140737488355328) :
    ∃ v' w', (Builtin.append_ #[t, tx] ty #[.slice (some ⟨g, 0, none⟩) 0 0, .slice B k.length c]).run P w = .ok v' w' ∧ w'.ownsRow base e 1 v' k.length (bc k) ∧ Below w.heap.size w w' := by
  have hglt : g < w.heap.size := (Array.getElem?_eq_some_iff.1 hg).1
  have hsrc : Src P i.size tx (.slice B k.length c) k.length (bc k) w := by rw [hs]; exact Src.ofBytes htx hk
  by_cases h0 : k = []
  · subst h0
    have h1 : (Builtin.firstCells i.size 0 (.slice B 0 c)).run P w = .ok #[] w := hsrc.cells
    refine ⟨.slice (some ⟨g, 0, none⟩) 0 0, w, ?_, ⟨by simp, .inr ⟨g, 0, #[], rfl, hbase, hg, Nat.le_refl _, Nat.zero_le _, by simp, by simp⟩⟩, Below.refl _ _⟩
    simp [Builtin.append_, run_underlying ht, run_underlying htx, sizeOf, typeInfo, hi, Builtin.lenOf, h1, storeCells]
  · have hkl : 0 < k.length := List.length_pos_iff.2 h0
    have hl : BytesV w (.slice (some ⟨g, 0, none⟩) ([] : List UInt8).length 0) [] := ⟨_, 0, rfl, Nat.le_refl _, Nat.zero_le _, (fun h => by cases h), fun h => absurd h (by simp)⟩
    have hgr := run_append_grow_src (P := P) w t tx ty e i (.int .u8 0) ht hi hz (some ⟨g, 0, none⟩) 0 0 [] (by rw [hs]; exact firstCells_bytes (w := w.drew) hl) (.slice B k.length c) k.length (bc k) hsrc (by omega) (by omega)
      (growslice_fits (by omega) (by rw [hby]; omega))
    rw [Nat.zero_add, List.nil_append] at hgr
    refine ⟨_, _, hgr, ⟨by simp, .inr ⟨w.heap.size, grownCap w k.length 0 e, _, rfl, by omega, heap_alloc_new w.drew _, grownCap_ge _ _ _ _, grownCap_le_maxLen _ _ _ _ (by unfold maxLen; omega), ?_, ?_⟩⟩, (Below.refl _ _).drew.alloc (Nat.le_refl _) _⟩
    · have hge := grownCap_ge w k.length 0 e
      have hz1 : (Value.int .u8 0).cells.size = 1 := rfl
      simp only [Array.size_append, List.size_toArray, bc_length, size_zeroCells, hz1]
      omega
    · rw [Array.toList_append]
      show ((bc k).toArray.toList ++ _).take (k.length * 1) = bc k
      exact List.take_left' (by simp)

theorem wpList_append_fresh {P : Program} {ops : Array Oper} {rest : List Oper} {o : Oper} {a : Act} {Q : Exit → Act → World → Prop} {w : World} (hgd : o.guard = none) (s x : Operand) {t e : TypeId}
    (ho : o.op = .call { callee := .builtin .append, args := #[s, x], argTypes := #[t, t] }) {i : TypeInfo} (ht : P.underlying t = some (.slice e)) (hi : P.info? e = some i) (hz : i.zero = some (.int .u8 0)) (hs : i.size = 1) (hby : i.bytes = 1)
    {g base : Nat} {B : Option Addr} {m c : Nat} {k : List UInt8} (hes : a.eval s = .slice (some ⟨g, 0, none⟩) 0 0) (hex : a.eval x = .slice B m c) (hm : m = k.length)
    (hg : w.heap[g]? = some (.cells #[] e (0, 0))) (hbase : base ≤ g) (hk : BytesV w (.slice B k.length c) k) (hsum : k.length ≤ 140737488355328)
    (h : ∀ v' w', w'.ownsRow base e 1 v' k.length (bc k) → Below w.heap.size w w' → wpList P ops Q rest (a.put o.dst v') w') : wpList P ops Q (o :: rest) a w := by
  refine wpList_plain hgd fun K hK => ?_
  subst hm
  obtain ⟨v', w', hr, h1, h2⟩ := run_append_fresh (P := P) t t o.type e ht ht hi hz hs hby hg hbase hk hsum
  unfold Oper.wp execOp
  simp only [ho, resolve, invoke, builtin, Sem.run_bind, Sem.run_pure, Result.andThen_ok, List.map_toArray, List.map_cons, List.map_nil, hes, hex, hr]
  exact hK _ _ (h v' w' h1 h2)

theorem RowB.of_own {w : World} {base e n : Nat} {v : Value} {l : List UInt8} (h : w.ownsRow base e 1 v n (bc l)) (hl : l ≠ []) : RowB w base v l := by
  have hlen : n = l.length := by have := h.1; simp at this; omega
  subst hlen
  have hb := BytesV.of_own h
  rcases h.2 with ⟨rfl, hn⟩ | ⟨g, cap, cur, rfl, hb0, hg, hnc, hcm, hcs, htake⟩
  · exact absurd (List.eq_nil_of_length_eq_zero hn) hl
  · refine ⟨g, cap, rfl, hb0, (Array.getElem?_eq_some_iff.1 hg).1, hnc, hcm, fun k hk => ⟨?_, by simp [World.frozen?, hg]⟩⟩
    have := h.cells (g := g) rfl k _ (bc_get l k hk)
    simpa [Addr.add_lit] using this
end Go.Proofs.Ytaobfidjnnhniaa
