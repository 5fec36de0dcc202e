/- append behind a row of the call's own, or behind one that is full. -/
import Derived.Test.YtaobfidjnnhniaaXdrWrite3
namespace Go.Proofs.Ytaobfidjnnhniaa
set_option linter.unusedVariables false
set_option linter.unusedSimpArgs false
open Go.ChangeShapes Go.WideShapes Go.ChangeAt Go.RowKit Pl

/-- v is full, or a row of the call's own. -/
def RoomB (w : World) (base : Nat) (v : Value) (l : List UInt8) : Prop := (∃ A, v = .slice A l.length l.length) ∨ w.ownsRow base 5 1 v l.length (bc l)

theorem RoomB.mono {w : World} {B B' : Nat} {v : Value} {l : List UInt8} (h : RoomB w B v l) (hb : B' ≤ B) : RoomB w B' v l :=
  h.imp id (fun h => ⟨h.1, h.2.elim Or.inl (fun ⟨g, cap, cur, hv, hg, r⟩ => Or.inr ⟨g, cap, cur, hv, Nat.le_trans hb hg, r⟩)⟩)
theorem RoomB.full {w : World} {base : Nat} (A : Option Addr) (l : List UInt8) : RoomB w base (.slice A l.length l.length) l := .inl ⟨A, rfl⟩
theorem RoomB.below {w w' : World} {base : Nat} {v : Value} {l : List UInt8} (h : RoomB w base v l) (hb : Below w.heap.size w w') : RoomB w' base v l := by
  refine h.imp id (fun h => h.kept (row := none) ⟨hb.os, hb.tape, hb.output, hb.size, fun k hk _ => hb.block k hk⟩ ?_)
  cases v.ownBlock with
  | none => exact .inl rfl
  | some k => exact .inr (by simp)

theorem run_append_cat2 {P : Program} {w : World} (t tx ty : TypeId) {i : TypeInfo} (ht : P.underlying t = some (.slice 5)) (htx : P.underlying tx = some (.slice 5)) (hi : P.info? 5 = some i) (hz : i.zero = some (.int .u8 0)) (hs : i.size = 1) (hby : i.bytes = 1)
    {A B : Option Addr} {c : Nat} {l k : List UInt8} (hl : BytesV w (.slice A l.length l.length) l) (hk : BytesV w (.slice B k.length c) k) (hsum : l.length + k.length ≤ 140737488355328) :
    ∃ v' w', (Builtin.append_ #[t, tx] ty #[.slice A l.length l.length, .slice B k.length c]).run P w = .ok v' w' ∧ BytesV w' v' (l ++ k) ∧ Below w.heap.size w w' ∧ RoomB w' w.heap.size v' (l ++ k) := by
  have hsrc : Src P i.size tx (.slice B k.length c) k.length (bc k) w := by rw [hs]; exact Src.ofBytes htx hk
  by_cases h0 : k = []
  · subst h0
    refine ⟨.slice A l.length l.length, w, ?_, by simpa using hl, Below.refl _ _, .inl ⟨A, by simp⟩⟩
    have h1 : (Builtin.firstCells i.size 0 (.slice B 0 c)).run P w = .ok #[] w := hsrc.cells
    cases A with
    | none => simp [Builtin.append_, run_underlying ht, run_underlying htx, sizeOf, typeInfo, hi, Builtin.lenOf, h1]
    | some a => simp [Builtin.append_, run_underlying ht, run_underlying htx, sizeOf, typeInfo, hi, Builtin.lenOf, h1, storeCells]
  · have hkl : 0 < k.length := List.length_pos_iff.2 h0
    have hgr := run_append_grow_src (P := P) w t tx ty 5 i (.int .u8 0) ht hi hz A l.length l.length (bc l) (by rw [hs]; exact firstCells_bytes (w := w.drew) hl) (.slice B k.length c) k.length (bc k) hsrc (by omega) (by omega)
      (growslice_fits (by omega) (by rw [hby]; omega))
    have hge := grownCap_ge w (l.length + k.length) l.length 5
    have hown : (w.drew.alloc (.cells ((bc l ++ bc k).toArray ++ Builtin.zeroCells (Value.int .u8 0).cells (grownCap w (l.length + k.length) l.length 5 - (l.length + k.length))) 5)).ownsRow w.heap.size 5 1
        (.slice (some ⟨w.heap.size, 0, none⟩) (l ++ k).length (grownCap w (l.length + k.length) l.length 5)) (l ++ k).length (bc (l ++ k)) := by
      refine ⟨by simp, .inr ⟨_, _, _, rfl, Nat.le_refl _, heap_alloc_new w.drew _, by rw [List.length_append]; exact hge, grownCap_le_maxLen _ _ _ _ (by unfold maxLen; omega), ?_, ?_⟩⟩
      · have h1 : (Value.int .u8 0).cells.size = 1 := rfl
        simp [Builtin.zeroCells, h1]
        omega
      · rw [bc_append, Array.toList_append]
        exact List.take_left' (by simp)
    rw [List.length_append] at hown
    refine ⟨_, _, hgr, ?_, (Below.refl _ _).drew.alloc (Nat.le_refl _) _, .inr (by rw [List.length_append]; exact hown)⟩
    exact BytesV.of_own hown

theorem run_append_own_bytes {P : Program} {w : World} (t ty : TypeId) {i : TypeInfo} (ht : P.underlying t = some (.slice 5)) (hi : P.info? 5 = some i) (hz : i.zero = some (.int .u8 0)) (hs : i.size = 1) (hby : i.bytes = 1)
    {base : Nat} {v x : Value} {l k : List UInt8} (hl : w.ownsRow base 5 1 v l.length (bc l)) (hk : BytesV w x k) (hsum : l.length + k.length ≤ 140737488355328) (hbase : base ≤ w.heap.size) :
    ∃ v' w', (Builtin.append_ #[t, t] ty #[v, x]).run P w = .ok v' w' ∧ w'.ownsRow base 5 1 v' (l ++ k).length (bc (l ++ k)) ∧ Below base w w' := by
  have hk0 := hk
  obtain ⟨A, c, rfl, hkl, hkc, hkn, hkr⟩ := hk
  cases A with
  | none =>
    have hc := hkn rfl
    subst hc
    have : k = [] := List.eq_nil_of_length_eq_zero (by omega)
    subst this
    have hsrc : Src P i.size t (.slice none 0 0) 0 [] w := by rw [hs]; exact Src.ofBytes ht hk0
    refine ⟨v, w, ?_, by simpa using hl, Below.refl _ _⟩
    have h1 : (Builtin.firstCells i.size 0 (.slice none 0 0)).run P w = .ok #[] w := hsrc.cells
    rcases hl.2 with ⟨rfl, _⟩ | ⟨g, cap, cur, rfl, _, _, h3, _⟩
    · simp [Builtin.append_, run_underlying ht, sizeOf, typeInfo, hi, Builtin.lenOf, h1]
    · simp [Builtin.append_, run_underlying ht, sizeOf, typeInfo, hi, Builtin.lenOf, h1, storeCells, h3]
  | some a =>
    obtain ⟨v', w', h1, h2, h3, _⟩ := run_append_own (P := P) w base t ty 5 i (.int .u8 0) 1 1 ht hi hz hs hby rfl (by decide) v l.length (bc l) hl a k.length c (bc k) (by simp) (fun j u hj => by
        have hj' : j < k.length := by have := (List.getElem?_eq_some_iff.1 hj).1; simpa using this
        obtain ⟨b, off, e, hb, hcell⟩ := hkr (by omega)
        injection e with e
        subst e
        rw [Addr.add_lit, hcell j hj', ← hj, bc_get k j hj']) (bc_one _) (by unfold maxLen; omega) (by omega) hbase
    rw [← bc_append, ← List.length_append] at h2
    exact ⟨v', w', h1, h2, (Below.refl _ _).grown h3 hbase (fun k e => (hl.lt k e).1)⟩

/-- 'append(b, more...)'. -/
theorem wpList_append_room {P : Program} {ops : Array Oper} {rest : List Oper} {o : Oper} {a : Act} {Q : Exit → Act → World → Prop} {w : World} (hgd : o.guard = none) (s x : Operand) {t : TypeId}
    (ho : o.op = .call { callee := .builtin .append, args := #[s, x], argTypes := #[t, t] }) {i : TypeInfo} (ht : P.underlying t = some (.slice 5)) (hi : P.info? 5 = some i) (hz : i.zero = some (.int .u8 0)) (hs : i.size = 1) (hby : i.bytes = 1)
    {base : Nat} {v y : Value} {l k : List UInt8}
    (hl : BytesV w v l) (hr : RoomB w base v l) (hk : BytesV w y k) (hes : a.eval s = v) (hex : a.eval x = y) (hsum : l.length + k.length ≤ 140737488355328) (hbase : base ≤ w.heap.size)
    (h : ∀ v' w', BytesV w' v' (l ++ k) → Below base w w' → RoomB w' base v' (l ++ k) → wpList P ops Q rest (a.put o.dst v') w') : wpList P ops Q (o :: rest) a w := by
  refine wpList_plain hgd fun K hK => ?_
  obtain ⟨v', w', hr, h1, h2, h3⟩ : ∃ v' w', (Builtin.append_ #[t, t] o.type #[v, y]).run P w = .ok v' w' ∧ BytesV w' v' (l ++ k) ∧ Below base w w' ∧ RoomB w' base v' (l ++ k) := by
    rcases hr with ⟨A, rfl⟩ | hown
    · obtain ⟨B, c, rfl, r⟩ := id hk
      obtain ⟨v', w', g1, g2, g3, g4⟩ := run_append_cat2 (P := P) t t o.type ht ht hi hz hs hby hl hk hsum
      exact ⟨v', w', g1, g2, g3.mono hbase, g4.mono hbase⟩
    · obtain ⟨v', w', g1, g2, g3⟩ := run_append_own_bytes (P := P) t o.type ht hi hz hs hby hown hk hsum hbase
      exact ⟨v', w', g1, BytesV.of_own g2, g3, .inr g2⟩
  unfold Oper.wp execOp
  simp only [ho, resolve, invoke, builtin, Sem.run_bind, Sem.run_pure, Result.andThen_ok, List.map_toArray, List.map_cons, List.map_nil, hes, hex, hr]
  exact hK _ _ (h v' w' h1 h2 h3)

set_option maxHeartbeats 400000 in
theorem put_room (v m : Value) (l k : List UInt8) (w : World) (hl : BytesV w v l) (hk : BytesV w m k) (hsum : l.length + k.length ≤ 140737488355328) :
    Calls Try.prog 36 #[v, m] w fun e w' => ∃ v', e = .returned v' ∧ BytesV w' v' (l ++ k) ∧ Below w.heap.size w w' ∧ RoomB w' w.heap.size v' (l ++ k) := by
  obtain ⟨i0, hi, hz0, hz1, hz2⟩ := info_parts info_u8
  have hk0 := hk
  obtain ⟨A, c, rfl, hl1, hl2, hl3, hl4⟩ := hl
  have hl' : BytesV w (.slice A l.length l.length) l := ⟨A, l.length, rfl, Nat.le_refl _, by unfold maxLen; omega, fun h => by have := hl3 h; omega, hl4⟩
  have HL := Lib.hid hl'
  have HK := Lib.hid hk0
  obtain ⟨B, d, rfl, hk1, hk2, hk3, hk4⟩ := hk
  unfold maxLen at hl2
  clear hl' hk0 hl3 hl4 hk3 hk4
  go_enter Try.func36, Try.ntmps36
  go_wp2_with (with_reducible refine wpList_append_room (base := w.heap.size) rfl _ _ rfl Try.underlying58 hi hz0 hz1 hz2 HL.out (RoomB.full _ _) HK.out rfl rfl hsum (Nat.le_refl _) ?_)
  intro v' w' h1 h2 h3
  have H3 := Lib.hid h3
  clear h3
  go_wp2_with fail
  go_ret
  exact ⟨_, rfl, h1, h2, H3.out⟩

theorem Fixed_room (v : Value) (l k : List UInt8) (w : World) (hl : BytesV w v l) (hsum : l.length + k.length + 8 ≤ 140737488355328) :
    Calls Try.prog 23 #[v, sv k] w fun e w' => ∃ v', e = .returned v' ∧ BytesV w' v' (l ++ fixB k) ∧ Below w.heap.size w w' ∧ RoomB w' w.heap.size v' (l ++ fixB k) := by
  have hkm : k.length ≤ 9223372036854775807 := by omega
  go_enter Try.func23, Try.ntmps23
  go_wp2_with (with_reducible refine wpList_bytes_of_string rfl _ rfl Try.underlying9 Try.underlying58 Try.underlying5 rfl ?_ ?_)
  · unfold maxLen; omega
  intro v1 w1 hr1 hw1 hz1
  have b1 : Below w.heap.size w w1 := Below.trans (by repeat' (first | (with_reducible exact Below.refl _ _) | (with_reducible assumption) | (with_reducible refine below_drewN ?_ _) | (with_reducible refine Below.alloc ?_ ?_ _) | (with_reducible refine Below.drew ?_) | (with_reducible refine Below.setCell ?_ ?_ _) | go_size)) (hw1.mono (by omega))
  have hbox : ∀ j, j < 4 → w1.cell? ⟨w.heap.size, j, none⟩ = some (.int .u8 0) := by
    intro j hj
    rw [hw1.cell (p := ⟨w.heap.size, j, none⟩) (by simp)]
    obtain rfl | rfl | rfl | rfl : j = 0 ∨ j = 1 ∨ j = 2 ∨ j = 3 := by omega
    all_goals simp
  have hwz : w.heap.size < w1.heap.size := by omega
  clear hz1
  go_wp2_with fail
  refine (put_room _ _ l k _ (hl.below b1) hr1.bytes (by omega)).mono ?_; rintro e w2 ⟨v2, rfl, hv2, hw2, hrow2⟩
  go_wp2_with fail
  refine (pad_any k.length _ hkm).mono ?_; rintro e w3 ⟨rfl, rfl⟩
  have hpl := padN_lt k.length
  have hpl' : (padN k.length : Int) ≤ 4 := by omega
  go_wp2_with fail
  have hz : BytesV w2 (.slice (some ⟨w.heap.size, 0, none⟩) (padN k.length) 4) (zeros (padN k.length)) := by
    refine ⟨_, 4, by rw [zeros_length], by rw [zeros_length]; omega, by unfold maxLen; omega, (fun h => by cases h), fun _ => ⟨w.heap.size, 0, rfl, Nat.lt_of_lt_of_le hwz hw2.size, fun j hj => ?_⟩⟩
    rw [zeros_length] at hj
    rw [Nat.zero_add, hw2.cell (p := ⟨w.heap.size, j, none⟩) hwz, hbox j (by omega)]
    simp [zeros]
  refine (put_room _ _ (l ++ k) (zeros (padN k.length)) _ hv2 hz (by simp; omega)).mono ?_; rintro e w4 ⟨v4, rfl, hv4, hw4, hrow4⟩
  have b2 : Below w.heap.size w w2 := chain b1 hw2
  have b4 : Below w.heap.size w w4 := chain b2 hw4
  have H4 := Lib.hid hrow4
  have H2 := Lib.hid hrow2
  have HZ := Lib.hid hz
  clear hrow4 hrow2 hz hbox
  go_wp2_with fail
  go_ret
  rw [List.append_assoc] at hv4
  refine ⟨_, rfl, hv4, b4, ?_⟩
  have := H4.out.mono b2.size
  rw [List.append_assoc] at this
  exact this
end Go.Proofs.Ytaobfidjnnhniaa
