/- A disk's Write. Conditions: none. -/
import Derived.Test.YteoomhkdffnkkaaDskFlush
namespace Go.Proofs.Yteoomhkdffnkkaa
set_option linter.unusedVariables false
set_option linter.unusedSimpArgs false
open Go.ChangeShapes Go.WideShapes Go.ChangeAt Go.RowKit
set_option maxRecDepth 100000

def putAt (cells : Array Value) (off : Nat) (l : List Value) : Array Value := (l.zipIdx 0).foldl (fun cs (x : Value × Nat) => cs.setIfInBounds (off + x.2) x.1) cells
theorem GrownIn.byO {w w' : World} {fp : Nat → Prop} {r : Option Nat} (h : w.grownBy w' r) (hr : ∀ k, r = some k → fp k) : GrownIn w w' fp := ⟨h.os, h.tape, h.output, h.size, fun k hk hn => h.block k hk (fun e => hn (hr k e.symm))⟩
theorem putAt_size (cells : Array Value) (off : Nat) (l : List Value) : (putAt cells off l).size = cells.size := (Great.foldl_set off l 0 cells).1
theorem putAt_get (cells : Array Value) (off : Nat) (l : List Value) (k : Nat) : (putAt cells off l)[k]? = if off ≤ k ∧ k < off + l.length ∧ k < cells.size then l[k - off]? else cells[k]? := by
  have := (Great.foldl_set off l 0 cells).2 k
  unfold putAt
  simpa using this
theorem fill_step (place : Nat → Option (Nat × Nat)) (cells : Array Value) (i : Nat) (v : Value) (off size : Nat) (rest : List (Nat × Value)) (hp : place i = some (off, size)) (hv : v.cells.size = size) (hle : off + size ≤ cells.size) :
    Instr.fill place cells ((i, v) :: rest) = Instr.fill place (putAt cells off v.cells.toList) rest := by
  conv => lhs; unfold Instr.fill
  simp only [hp, hv]
  rw [if_neg (by simp; omega)]
  unfold putAt
  congr 1
  rw [← Array.foldl_toList, Array.toList_zipIdx]
theorem built_wr (n : Int) (l : List UInt8) (hl : l.length = 512) : Try.prog.built 90 [(0, .int .i64 n), (1, blk l)] = some (wa (n, l)) := by
  obtain ⟨i0, hi, hz0, hz1, hz2⟩ := info_parts info_wr
  have h2 : ((match Try.prog.underlying 90 with | some (.struct fs) => fs.toList.mapM (fun f => (Try.prog.info? f.type).map fun i => (f.offset, i.size)) | _ => none)) = some [(0, 1), (1, 512)] := by kernel_rfl
  unfold Program.built
  rw [hi]
  cases hu : Try.prog.underlying 90 with
  | none => rw [hu] at h2; cases h2
  | some d =>
    cases d <;> rw [hu] at h2 <;> try (cases h2; done)
    case struct fs =>
      simp only [hz0] at h2 ⊢
      rw [h2]
      have hz : (wv (0, zs 512)).cells.size = 513 := wa_size (zs_len 512)
      have h1 : (Value.int .i64 n).cells.size = 1 := rfl
      have h5 : (blk l).cells.size = 512 := by show (ac l).size = 512; rw [ac_size, hl]
      show Instr.fill _ _ _ = _
      rw [fill_step _ _ 0 _ 0 1 _ rfl h1 (by omega), fill_step _ _ 1 _ 1 512 _ rfl h5 (by rw [putAt_size]; omega)]
      show some _ = _
      congr 1
      apply Array.ext_getElem?
      intro k
      rw [putAt_get, putAt_get, putAt_size, hz]
      have e1 : (Value.int .i64 n).cells.toList = [.int .i64 n] := rfl
      have e5 : (blk l).cells.toList = bc l := by show (ac l).toList = bc l; simp [ac]
      rw [e1, e5, bc_length, hl]
      have ew : (wa (n, l))[k]? = (wcell (n, l))[k]? := by unfold wa; rw [List.getElem?_toArray]
      rw [ew]
      unfold wcell
      by_cases h : 1 ≤ k ∧ k < 1 + 512 ∧ k < 513
      · rw [if_pos h]
        obtain ⟨j, rfl⟩ : ∃ j, k = j + 1 := ⟨k - 1, by omega⟩
        simp
      · rw [if_neg h]
        by_cases h0 : k = 0
        · subst h0
          simp
        · rw [if_neg (by simp; omega), List.getElem?_eq_none (by simp [hl]; omega), Array.getElem?_eq_none (by rw [hz]; omega)]
theorem run_build_wr (w : World) (n : Int) (l : List UInt8) (hl : l.length = 512) : (Instr.build 90 #[(0, .int .i64 n), (1, blk l)]).run Try.prog w = .ok (wv (n, l)) w := run_build w _ _ _ (built_wr n l hl)
theorem fill_wr (p : Wr) (hp : p.2.length = 512) (z : Array Value) (hz : z.size = 513) : Instr.fill (fun i => some (i * 513, 513)) z [(0, wv p)] = some (wa p) := by
  rw [fill_step _ _ 0 (wv p) 0 513 _ (by simp) (show (wa p).size = 513 from wa_size hp) (by omega)]
  show some _ = _
  congr 1
  apply Array.ext_getElem?
  intro k
  have e : (wv p).cells.toList = wcell p := by show (wa p).toList = _; simp [wa]
  rw [putAt_get, e, wcell_len hp, hz]
  have ew : (wa p)[k]? = (wcell p)[k]? := by unfold wa; rw [List.getElem?_toArray]
  rw [ew]
  by_cases h : k < 513
  · rw [if_pos (by omega), Nat.sub_zero]
  · rw [if_neg (by omega), List.getElem?_eq_none (by rw [wcell_len hp]; omega), Array.getElem?_eq_none (by omega)]

theorem append_block {P : Program} {w w' : World} (t ty e : TypeId) (i : TypeInfo) (z : Value) (ht : P.underlying t = some (.slice e)) (hi : P.info? e = some i) (hz : i.zero = some z)
    {B n m c : Nat} {v v' : Value} {xs news : List Value} {a : Addr} (hown : w.ownsRow B e i.size v n xs) (hl : news.length = m * i.size) (hnews : ∀ j u, news[j]? = some u → w.cell? (a.add j) = some u) (h1 : ∀ u ∈ news, u.oneCell' = true) (h0 : 0 < m)
    (h63 : n + m ≤ maxLen) (hbytes : (n + m) * i.bytes ≤ 140737488355328) (hr : (Builtin.append_ #[t, t] ty #[v, .slice (some a) m c]).run P w = .ok v' w') : v'.ownBlock = v.ownBlock ∨ v'.ownBlock = some w.heap.size := by
  have h63' : n + m ≤ 9223372036854775807 := by unfold maxLen at h63; omega
  rcases hown.2 with ⟨rfl, rfl⟩ | ⟨g, cap, cur, rfl, hbg, hg, hnc, hcm, hcs, htake⟩
  · rw [run_append_nil (P := P) w t ty e i z ht hi hz a m c news hl hnews h0 (by omega) (by have hb := hbytes; simp only [Nat.zero_add] at hb; omega)] at hr
    injection hr with hr _
    subst hr
    exact .inr rfl
  · by_cases hroom : n + m ≤ cap
    · have hfit : n * i.size + news.length ≤ cur.size := by rw [hl, hcs, ← Nat.add_mul]; exact Nat.mul_le_mul_right _ hroom
      rw [run_append_room (P := P) w t ty e i ht hi g n cap cur hg a m c news hl hnews h1 hroom hfit] at hr
      injection hr with hr _
      subst hr
      exact .inl rfl
    · have holds : ∀ j u, xs[j]? = some u → w.cell? ((⟨g, 0, none⟩ : Addr).add j) = some u := hown.cells (g := g) rfl
      rw [run_append_grow (P := P) w t ty e i z ht hi hz ⟨g, 0, none⟩ n cap xs hown.1 holds a m c news hl hnews (by omega) (by omega) (growslice_fits (by omega) hbytes)] at hr
      injection hr with hr _
      subst hr
      exact .inr rfl
theorem wp_append_wr {o : Oper} {a : Act} {K : Act → World → Prop} {Q : Exit → Act → World → Prop} {w : World} (s x : Operand) (ho : o.op = .call { callee := .builtin .append, args := #[s, x], argTypes := #[85, 85] })
    {v : Value} {l : List Wr} {p : Wr} {q : Nat} (hs : a.eval s = v) (hx : a.eval x = .slice (some ⟨q, 0, none⟩) 1 1) (hrow : w.ownsRow 0 90 513 v l.length (wcells l)) (hq : LiesW w q p) (hp : p.2.length = 512) (hll : l.length ≤ 1073741824)
    (h : ∀ A c w', w'.ownsRow 0 90 513 (.slice A (l.length + 1) c) (l.length + 1) (wcells (l ++ [p])) → w.grownBy w' v.ownBlock → ((Value.slice A (l.length + 1) c).ownBlock = v.ownBlock ∨ (Value.slice A (l.length + 1) c).ownBlock = some w.heap.size) → K (a.put o.dst (.slice A (l.length + 1) c)) w') : o.wp Try.prog a w K Q := by
  obtain ⟨i0, hi, hz0, hz1, hz2⟩ := info_parts info_wr
  have hnews : ∀ j u, (wcell p)[j]? = some u → w.cell? ((⟨q, 0, none⟩ : Addr).add j) = some u := fun j u hu => by
    rw [Addr.add_mid, Nat.zero_add, cell_of_row w q j _ _ _ hq]
    unfold wa
    rw [List.getElem?_toArray]
    exact hu
  have hz : (wv (0, zs 512)).cells.size = 513 := wa_size (zs_len 512)
  obtain ⟨v', w', hr, h2, h3, h4⟩ := run_append_own (P := Try.prog) w 0 85 o.type 90 i0 _ 513 520 Try.underlying85 hi hz0 hz1 hz2 hz (by decide) v l.length (wcells l) hrow ⟨q, 0, none⟩ 1 1 (wcell p) (by rw [wcell_len hp]) hnews (wcell_one p) (by unfold maxLen; omega) (by omega) (Nat.zero_le _)
  have hb := append_block (P := Try.prog) (w' := w') (v' := v') 85 o.type 90 i0 _ Try.underlying85 hi hz0 (B := 0) (n := l.length) (m := 1) (c := 1) (xs := wcells l) (news := wcell p) (a := ⟨q, 0, none⟩) (by rw [hz1]; exact hrow) (by rw [hz1, wcell_len hp]) hnews (wcell_one p) (by decide) (by unfold maxLen; omega) (by rw [hz2]; omega) hr
  obtain ⟨A, c, rfl, _⟩ := row_form h2
  unfold Oper.wp execOp
  simp only [ho, resolve, invoke, builtin, Sem.run_bind, Sem.run_pure, Result.andThen_ok, List.map_toArray, List.map_cons, List.map_nil, hs, hx, hr]
  rw [← wcells_snoc] at h2
  exact h A c w' h2 h3 hb
theorem Lies.range0 {w : World} {g : Nat} {l : List UInt8} (h : Lies w g l) : w.rangeAt g 0 (bc l) := fun j v hv => by
  rw [Nat.zero_add, cell_of_row w g j _ _ _ h]
  unfold ac
  rw [List.getElem?_toArray]
  exact hv
theorem yieldsIf_build_wr {ops : Array Oper} {S : World → Prop} {op : Oper} {a : Act} (hw : Region.wanted op (yielded ops a.tmps) = true) (x y : Operand) (ho : op.op = .build 90 #[(0, x), (1, y)]) {n : Int} {l : List UInt8}
    (hx : a.eval x = .int .i64 n) (hy : a.eval y = blk l) (hl : l.length = 512) : YieldsIf Try.prog ops S op (wv (n, l)) a :=
  .inl ⟨hw, fun w _ => by
    unfold execOp
    simp [ho, hx, hy, run_build_wr w n l hl]⟩
theorem wp_one_wr {o : Oper} {a : Act} {w : World} {K : Act → World → Prop} {Q : Exit → Act → World → Prop} (y : Operand) (ho : o.op = .buildSlice 85 1 #[(0, y)]) {p : Wr} (hy : a.eval y = wv p) (hp : p.2.length = 512)
    (h : K (a.put o.dst (.slice (some ⟨w.heap.size, 0, none⟩) 1 1)) (w.alloc (.cells (wa p) 90))) : o.wp Try.prog a w K Q := by
  obtain ⟨i0, hi, hz0, hz1, hz2⟩ := info_parts info_wr
  refine wp_buildSlice 85 90 1 #[(0, y)] ho (wa p) i0 _ Try.underlying85 hi hz0 (by rw [hz1]; decide) (by rw [hz1]; decide) ?_ h
  rw [hz1]
  have := fill_wr p hp ((Array.range (1 * 513)).map ((wv (0, zs 512)).cells[· % (wv (0, zs 512)).cells.size]!)) (by simp)
  simpa [hy] using this

theorem Write_nil (n : Int) (l : List UInt8) (w : World) : Calls Try.prog 23 #[.pointer none, .int .i64 n, blk l] w fun e w' => e = .returned (.int .i64 2) ∧ Below w.heap.size w w' := by
  go_enter Try.func23, Try.ntmps23
  go_wp2_with fail
  refine (bad_nil n _).mono ?_; rintro e w' ⟨rfl, rfl⟩
  go_wp2_with fail
  go_ret
  exact ⟨rfl, by repeat' (first | (with_reducible exact Below.refl _ _) | (with_reducible assumption) | (with_reducible refine below_drewN ?_ _) | (with_reducible refine Below.alloc ?_ ?_ _) | (with_reducible refine Below.drew ?_) | (with_reducible refine Below.setCell ?_ ?_ _) | go_size)⟩

set_option maxHeartbeats 3200000 in
theorem Write_any {fp rp : Nat → Prop} {g : Nat} {d : Dk} (n : Int) (l : List UInt8) (w : World) (h : DiskV w fp rp g d) (hl : l.length = 512) (hs : d.sum + 1 ≤ 1073741824) :
    Calls Try.prog 23 #[dptr g, .int .i64 n, blk l] w fun e w' => e = .returned (.int .i64 (d.writeE n)) ∧ DiskV w' (fun i => fp i ∨ w.heap.size ≤ i) rp g (d.write n l) ∧ GrownIn w w' fp := by
  obtain ⟨m, v, kv, D⟩ := h
  have hwa : Below w.heap.size w (w.alloc (.cells (ac l) 25)) := (Below.refl _ _).alloc (Nat.le_refl _) _
  have Da : DiskAt (w.alloc (.cells (ac l) 25)) fp rp g d m v kv := D.stay (fun k hk _ => hwa.block k hk)
  have hla : Lies (w.alloc (.cells (ac l) 25)) w.heap.size l := Lies.new _ _ _ rfl
  have BD := Lib.hid (bad_cell n _ Da.box.cells.1 Da.box.cells.2.2.2.2.2)
  have HB := Lib.hid hwa
  have HL := Lib.hid hl
  unfold Dk.writeE Dk.write
  by_cases hb : d.bad n = 0
  · have hok := D.ok.add hb hl hs
    have hdd : d.dead = false := by
      cases hx : d.dead
      · rfl
      · unfold Dk.bad at hb
        rw [hx, if_pos rfl] at hb
        omega
    rw [if_pos hb, if_pos hb]
    rw [hb] at BD
    obtain ⟨E, hE⟩ : ∃ E : Int, E = (if d.cut = 1 then 51 else 0) := ⟨_, rfl⟩
    obtain ⟨R, hR⟩ : ∃ R : Dk, R = (if d.cut = 1 then ((d.add (n, l)).tick).fail d.keep else (d.add (n, l)).tick) := ⟨_, rfl⟩
    rw [← hE, ← hR]
    have HE := Lib.hid hE
    have HR := Lib.hid hR
    clear hE hR
    obtain ⟨A, cap, hvv, hcap, hcm, _⟩ := row_form D.row
    subst hvv
    obtain ⟨A1, cap1, hkv, _, _, _⟩ := row_form D.keep
    subst hkv
    have c2 := Da.box.cells.2.2.1
    have HA := Lib.hid Da
    have HLA := Lib.hid hla
    have OK1 := Lib.hid hok
    have hglt := D.box.lt
    clear D Da hla hwa
    go_enter Try.func23, Try.ntmps23
    go_wp2_with fail
    refine (BD.out).mono ?_; rintro e w' ⟨rfl, rfl⟩
    go_wp2_with fail
    have hX : Below w.heap.size w (w.alloc (.cells (ac l) 25)).drew := HB.out.drew
    have hld : Lies (w.alloc (.cells (ac l) 25)).drew w.heap.size l := HLA.out
    have hDd : DiskAt (w.alloc (.cells (ac l) 25)).drew fp rp g d m (.slice A d.wait.length cap) (.slice A1 d.keep.length cap1) := HA.out.stay (fun k hk _ => rfl)
    have hsz : (w.alloc (.cells (ac l) 25)).drew.heap.size = w.heap.size + 1 := by simp [World.drew]
    have c2d : (w.alloc (.cells (ac l) 25)).drew.cell? ⟨g, 2, none⟩ = some (.slice A d.wait.length cap) := c2
    refine wp_region_held_drew (S := fun W => Lies W w.heap.size l) (by kernel_rfl) hld (fun hHeld => ?_)
    generalize (w.alloc (.cells (ac l) 25)).drew = V0 at *
    clear c2 HA HLA HB BD
    refine wpAnyH_take (i := 0) (oi := _) (v := ?_) rfl (by kernel_rfl) (by kernel_rfl) (by kernel_rfl) (fun _ _ _ h => h) (Or.inl ⟨by rfl, ?_⟩) (by assumption) ?_
    rotate_left
    · (intro w hSw; (try dsimp only at hSw); (try go_split_ands); go_simp; (try with_reducible rfl))
    (try simp only [List.getElem_toArray, List.getElem_cons_zero, List.getElem_cons_succ, Act.put, List.setIfInBounds_toArray, List.set_cons_zero, List.set_cons_succ])
    refine wpAnyH_take (i := 1) (oi := _) (v := ?_) rfl (by kernel_rfl) (by kernel_rfl) (by kernel_rfl) (fun _ _ _ h => h) (Or.inl ⟨by rfl, ?_⟩) (by assumption) ?_
    rotate_left
    · (intro w hSw; (try dsimp only at hSw); (try go_split_ands); go_simp; (try with_reducible rfl))
    (try simp only [List.getElem_toArray, List.getElem_cons_zero, List.getElem_cons_succ, Act.put, List.setIfInBounds_toArray, List.set_cons_zero, List.set_cons_succ])
    refine wpAnyH_take (i := 2) (oi := _) (v := ?_) rfl (by kernel_rfl) (by kernel_rfl) (by kernel_rfl) (fun _ _ _ h => h) (Or.inl ⟨by rfl, ?_⟩) (by assumption) ?_
    rotate_left
    · (intro w hSw; (try dsimp only at hSw); (try go_split_ands); go_simp; (try with_reducible rfl))
    (try simp only [List.getElem_toArray, List.getElem_cons_zero, List.getElem_cons_succ, Act.put, List.setIfInBounds_toArray, List.set_cons_zero, List.set_cons_succ])
    refine wpAnyH_take (i := 3) (oi := _) (v := ?_) rfl (by kernel_rfl) (by kernel_rfl) (by kernel_rfl) (fun _ _ _ h => h) (Or.inl ⟨by rfl, ?_⟩) (by assumption) ?_
    rotate_left
    · (intro w hSw; (try dsimp only at hSw); (try go_split_ands); go_simp; (try with_reducible rfl))
    (try simp only [List.getElem_toArray, List.getElem_cons_zero, List.getElem_cons_succ, Act.put, List.setIfInBounds_toArray, List.set_cons_zero, List.set_cons_succ])
    refine wpAnyH_take (i := 5) (oi := _) (v := ?_) rfl (by kernel_rfl) (by kernel_rfl) (by kernel_rfl) (fun _ _ _ h => h) (Or.inl ⟨by rfl, ?_⟩) (by assumption) ?_
    rotate_left
    · (intro w hSw; (try dsimp only at hSw); (try go_split_ands); go_simp; (try with_reducible rfl))
    (try simp only [List.getElem_toArray, List.getElem_cons_zero, List.getElem_cons_succ, Act.put, List.setIfInBounds_toArray, List.set_cons_zero, List.set_cons_succ])
    refine wpAnyH_take (i := 6) (oi := _) (v := blk l) rfl (by kernel_rfl) (by kernel_rfl) (by kernel_rfl) (fun _ _ _ h => h) (yieldsIf_load_mid (by rfl) 25 _ rfl w.heap.size 0 rfl (bc l) _ (fun W hW => Lies.range0 hW) Try.underlying25 rfl (by rw [info_blk, bc_length, HL.out])) (by assumption) ?_
    (try simp only [List.getElem_toArray, List.getElem_cons_zero, List.getElem_cons_succ, Act.put, List.setIfInBounds_toArray, List.set_cons_zero, List.set_cons_succ])
    refine wpAnyH_take (i := 7) (oi := _) (v := wv (n, l)) rfl (by kernel_rfl) (by kernel_rfl) (by kernel_rfl) (fun _ _ _ h => h) (yieldsIf_build_wr (by rfl) _ _ rfl rfl rfl HL.out) (by assumption) ?_
    (try simp only [List.getElem_toArray, List.getElem_cons_zero, List.getElem_cons_succ, Act.put, List.setIfInBounds_toArray, List.set_cons_zero, List.set_cons_succ])
    have V1h : Below V0.heap.size V0 (V0.alloc (.cells (wa (n, l)) 90)) := (Below.refl _ _).alloc (Nat.le_refl _) _
    have hlw : LiesW (V0.alloc (.cells (wa (n, l)) 90)) V0.heap.size (n, l) := LiesW.new _ _
    have hD1 : DiskAt (V0.alloc (.cells (wa (n, l)) 90)) fp rp g d m (.slice A d.wait.length cap) (.slice A1 d.keep.length cap1) := hDd.stay (fun k hk _ => V1h.block k hk)
    have c21 := hD1.box.cells.2.2.1
    have hL1 : Lies (V0.alloc (.cells (wa (n, l)) 90)) w.heap.size l := hld.alloc _
    have h1sz : (V0.alloc (.cells (wa (n, l)) 90)).heap.size = w.heap.size + 2 := by simp [hsz]
    have hV1 : Below w.heap.size w (V0.alloc (.cells (wa (n, l)) 90)) := hX.trans (V1h.mono (by omega))
    refine wpAnyH_ready (rs := [4, 8]) (by kernel_rfl) (by simp) ?_
    refine AllReadyH.cons (o := _) rfl (fun K hK => ?_) (AllReadyH.cons (o := _) rfl (fun K hK => ?_) AllReadyH.nil)
    all_goals (try simp only [List.getElem_toArray, List.getElem_cons_zero, List.getElem_cons_succ])
    go_simp
    refine hK.out _ _ (hld) (fun hHeld => ?_)
    clear hK K
    (try simp only [List.getElem_toArray, List.getElem_cons_zero, List.getElem_cons_succ, Act.put, List.setIfInBounds_toArray, List.set_cons_zero, List.set_cons_succ])
    refine wpAnyH_ready (rs := [8]) (by kernel_rfl) (by simp) ?_
    refine AllReadyH.cons (o := _) rfl (fun K hK => ?_) AllReadyH.nil
    (try simp only [List.getElem_toArray, List.getElem_cons_zero, List.getElem_cons_succ])
    rw [if_pos (by rfl)]
    refine wp_one_wr _ rfl rfl HL.out ?_
    refine hK.out _ _ (hL1) (fun hHeld => ?_)
    clear hK K
    (try simp only [List.getElem_toArray, List.getElem_cons_zero, List.getElem_cons_succ, Act.put, List.setIfInBounds_toArray, List.set_cons_zero, List.set_cons_succ])
    rotate_left
    rw [if_pos (by rfl)]
    refine wp_one_wr _ rfl rfl HL.out ?_
    refine hK.out _ _ (hL1) (fun hHeld => ?_)
    clear hK K
    (try simp only [List.getElem_toArray, List.getElem_cons_zero, List.getElem_cons_succ, Act.put, List.setIfInBounds_toArray, List.set_cons_zero, List.set_cons_succ])
    refine wpAnyH_ready (rs := [4]) (by kernel_rfl) (by simp) ?_
    refine AllReadyH.cons (o := _) rfl (fun K hK => ?_) AllReadyH.nil
    (try simp only [List.getElem_toArray, List.getElem_cons_zero, List.getElem_cons_succ])
    go_simp
    refine hK.out _ _ (hL1) (fun hHeld => ?_)
    clear hK K
    (try simp only [List.getElem_toArray, List.getElem_cons_zero, List.getElem_cons_succ, Act.put, List.setIfInBounds_toArray, List.set_cons_zero, List.set_cons_succ])
    all_goals
      have hV0s := hsz
      generalize V0.alloc (.cells (wa (n, l)) 90) = V1 at *
      clear V1h hld c2d hDd hX
      refine wpAnyH_ready (rs := [9]) (by kernel_rfl) (by simp) ?_
      refine AllReadyH.cons (o := _) rfl (fun K hK => ?_) AllReadyH.nil
      (try simp only [List.getElem_toArray, List.getElem_cons_zero, List.getElem_cons_succ])
      rw [if_pos (by rfl)]
      have hlw' : LiesW V1 (w.heap.size + 1) (n, l) := by rw [← hsz]; exact hlw
      first
        | refine wp_append_wr _ _ rfl rfl rfl hD1.row hlw' HL.out (by have := hD1.ok.sum; unfold Dk.sum at this; omega) ?_
        | refine wp_append_wr _ _ rfl rfl rfl hD1.row hlw HL.out (by have := hD1.ok.sum; unfold Dk.sum at this; omega) ?_
      intro A' c' w2 hr2 hg2 hbk
      have hL2 := hL1.but hg2 (Ne.symm (row_off hD1.row hL1 (by decide)))
      have hB2 := hD1.box.but hg2 (Ne.symm (row_off hD1.row hD1.box (by decide)))
      have hm2 := hD1.map.block (hg2.block _ hD1.map.lt (by obtain ⟨es, c, he⟩ := hD1.map.is; exact Ne.symm (row_off_map hD1.row he)))
      have hk2 := row_stay hD1.keep (fun k hk => hg2.block k (hD1.keep.lt k hk).2 (fun e => by
        obtain ⟨cu, h1⟩ := row_type hD1.keep hk
        obtain ⟨cu', h2⟩ := row_type hD1.row e.symm
        rw [h1] at h2
        injection h2 with h2
        injection h2 with _ h2
        exact absurd h2 (by decide)))
      refine hK.out _ _ (hL2) (fun hHeld => ?_)
      clear hK K
      (try simp only [List.getElem_toArray, List.getElem_cons_zero, List.getElem_cons_succ, Act.put, List.setIfInBounds_toArray, List.set_cons_zero, List.set_cons_succ])
      refine wpAnyH_take (i := 10) (oi := _) (v := ?_) rfl (by kernel_rfl) (by kernel_rfl) (by kernel_rfl) (fun _ _ _ h => h) (Or.inl ⟨by rfl, ?_⟩) (by assumption) ?_
      rotate_left
      · (intro w hSw; (try dsimp only at hSw); (try go_split_ands); go_simp; (try with_reducible rfl))
      (try simp only [List.getElem_toArray, List.getElem_cons_zero, List.getElem_cons_succ, Act.put, List.setIfInBounds_toArray, List.set_cons_zero, List.set_cons_succ])
      refine wpAnyH_take (i := 11) (oi := _) (v := ?_) rfl (by kernel_rfl) (by kernel_rfl) (by kernel_rfl) (fun _ _ _ h => h) (Or.inl ⟨by rfl, ?_⟩) (by assumption) ?_
      rotate_left
      · (intro w hSw; (try dsimp only at hSw); (try go_split_ands); go_simp; (try with_reducible rfl))
      (try simp only [List.getElem_toArray, List.getElem_cons_zero, List.getElem_cons_succ, Act.put, List.setIfInBounds_toArray, List.set_cons_zero, List.set_cons_succ])
      refine wpAnyH_ready (rs := [12]) (by kernel_rfl) (by simp) ?_
      refine AllReadyH.cons (o := _) rfl (fun K hK => ?_) AllReadyH.nil
      (try simp only [List.getElem_toArray, List.getElem_cons_zero, List.getElem_cons_succ])
      have e2 := hB2.cells.2.2.1
      have f2 := hB2.free 2
      go_simp
      have hgn : w.heap.size ≠ g := Nat.ne_of_gt hglt
      refine hK.out _ _ ((hL2.setOther ⟨g, 2, none⟩ _ hgn)) (fun hHeld => ?_)
      clear hK K
      (try simp only [List.getElem_toArray, List.getElem_cons_zero, List.getElem_cons_succ, Act.put, List.setIfInBounds_toArray, List.set_cons_zero, List.set_cons_succ])
      refine wpAnyH_done (by kernel_rfl) ?_ _
      have D3 : DiskAt (w2.setCell ⟨g, 2, none⟩ (.slice A' (d.wait.length + 1) c')) (fun i => fp i ∨ w.heap.size ≤ i) rp g (d.add (n, l)) m (.slice A' (d.wait.length + 1) c') (.slice A1 d.keep.length cap1) := by
        refine ⟨OK1.out, hB2.set2 _, hm2.block (heap_setCell_other _ _ _ _ hD1.ne_map.symm), ?_, fun e => by simp [Dk.add] at e, ?_, .inl hD1.fg, .inl hD1.fm, ?_, hD1.fk⟩
        · have e : (d.add (n, l)).wait = d.wait ++ [(n, l)] := rfl
          rw [e, List.length_append, List.length_singleton]
          exact row_stay hr2 (fun k hk => heap_setCell_other _ _ _ _ (fun e => row_off hr2 hB2 (by decide) (hk.trans (congrArg some e))))
        · exact row_stay hk2 (fun k hk => heap_setCell_other _ _ _ _ (fun e => row_off hk2 hB2 (by decide) (hk.trans (congrArg some e))))
        · intro k hk
          rcases hbk with hbk | hbk
          · exact .inl (hD1.fv k (hbk.symm.trans hk))
          · rw [hbk] at hk
            injection hk with hk
            exact .inr (by omega)
      have G3 : GrownIn w (w2.setCell ⟨g, 2, none⟩ (.slice A' (d.wait.length + 1) c')) fp :=
        ((GrownIn.of hV1).trans (GrownIn.byO hg2 (fun k hk => .inl (hD1.fv k hk)))).trans (GrownIn.set (a := ⟨g, 2, none⟩) _ (.inl hD1.fg))
      generalize w2.setCell ⟨g, 2, none⟩ (.slice A' (d.wait.length + 1) c') = w3 at *
      have NW := Lib.hid (now_box w3 D3.box D3.ok.cut)
      have TK := Lib.hid OK1.out.tick
      have HD3 := Lib.hid D3
      have HG3 := Lib.hid G3
      have hcc : (d.add (n, l)).cut = d.cut ∧ (d.add (n, l)).dead = false ∧ (d.add (n, l)).keep = d.keep ∧ (d.add (n, l)).blocks = d.blocks := ⟨rfl, hdd, rfl, rfl⟩
      rw [hcc.1, hcc.2.1] at NW
      clear D3 G3 hL2 hB2 hm2 hk2 e2 f2 hr2 hg2 hbk hL1 hD1 hlw hlw' c21 hV1
      by_cases hc : d.cut = 1
      · have HE1 := Lib.hid (HE.out.trans (if_pos hc))
        have HR1 := Lib.hid (HR.out.trans (if_pos hc))
        rw [show decide (d.cut = 1) = true from by simp [hc]] at NW
        have hkd : (d.add (n, l)).tick.failD d.keep = (d.add (n, l)).tick.fail d.keep ∧ (d.add (n, l)).tick.failE = 0 := by
          have : (d.add (n, l)).tick.dead = false := hdd
          unfold Dk.failD Dk.failE
          rw [this]
          exact ⟨rfl, rfl⟩
        go_wp2_with fail
        refine NW.out.mono ?_; rintro e w4 ⟨rfl, hb4, hg4⟩
        have D4 : DiskAt w4 (fun i => fp i ∨ w.heap.size ≤ i) rp g (d.add (n, l)).tick m (.slice A' (d.wait.length + 1) c') (.slice A1 d.keep.length cap1) := HD3.out.rebox rfl rfl rfl rfl TK.out (by show Box w4 g _ m _ (d.cut - 1) _ (d.add (n, l)).dead; rw [hcc.2.1]; exact hb4) hg4
        have e4 := hb4.cells.2.2.2.2.1
        have CF := Fail_any (.slice A1 d.keep.length cap1) d.keep w4 ⟨m, _, _, D4⟩ (BoolsV.of_row D4.keep)
        rw [hkd.1, hkd.2] at CF
        have GF := Lib.hid CF
        have HG4 := Lib.hid hg4
        clear CF D4 hb4 hg4
        go_wp2_with fail
        refine GF.out.mono ?_; rintro e w5 ⟨rfl, hd5, hg5⟩
        have H5 := Lib.hid hd5
        have G5 := Lib.hid hg5
        clear hd5 hg5
        go_wp2_with fail
        go_ret
        exact ⟨by rw [HE1.out]; rfl, by rw [HR1.out]; exact H5.out, (HG3.out.trans (GrownIn.by HG4.out HD3.out.fg)).trans (G5.out.mono (fun k _ h => h))⟩
      · have HE1 := Lib.hid (HE.out.trans (if_neg hc))
        have HR1 := Lib.hid (HR.out.trans (if_neg hc))
        rw [show decide (d.cut = 1) = false from by simp [hc]] at NW
        go_wp2_with fail
        refine NW.out.mono ?_; rintro e w4 ⟨rfl, hb4, hg4⟩
        have D4 : DiskAt w4 (fun i => fp i ∨ w.heap.size ≤ i) rp g (d.add (n, l)).tick m (.slice A' (d.wait.length + 1) c') (.slice A1 d.keep.length cap1) := HD3.out.rebox rfl rfl rfl rfl TK.out (by show Box w4 g _ m _ (d.cut - 1) _ (d.add (n, l)).dead; rw [hcc.2.1]; exact hb4) hg4
        have H4 := Lib.hid D4
        have HG4 := Lib.hid hg4
        clear D4 hb4 hg4
        go_wp2_with fail
        go_ret
        exact ⟨by rw [HE1.out]; rfl, by rw [HR1.out]; exact ⟨m, _, _, H4.out⟩, HG3.out.trans (GrownIn.by HG4.out HD3.out.fg)⟩
  · rw [if_neg hb, if_neg hb]
    have hb' : (d.bad n == 0) = false := by simp [hb]
    have DV : DiskV (w.alloc (.cells (ac l) 25)) (fun i => fp i ∨ w.heap.size ≤ i) rp g d := ⟨m, v, kv, Da.mono (fun k _ h => .inl h) (fun _ _ h => h)⟩
    have HD := Lib.hid DV
    generalize d.bad n = E at *
    clear D Da DV hla hwa
    go_enter Try.func23, Try.ntmps23
    go_wp2_with fail
    refine (BD.out).mono ?_; rintro e w' ⟨rfl, rfl⟩
    go_wp2_with fail
    go_ret
    exact ⟨rfl, HD.out, GrownIn.of HB.out⟩
end Go.Proofs.Yteoomhkdffnkkaa
