/- A disk's Fail and Flush. Conditions: none. -/
import Derived.Test.YteoomhkdffnkkaaDskCut
namespace Go.Proofs.Yteoomhkdffnkkaa
set_option linter.unusedVariables false
set_option linter.unusedSimpArgs false
open Go.ChangeShapes Go.WideShapes Go.ChangeAt Go.RowKit
set_option maxRecDepth 100000

theorem zeroValueW : Try.zeroCells90 = wa (0, zs 512) := by kernel_rfl
attribute [local go_sem] zeroValueW
theorem wz_ne : ¬ wa (0, zs 512) = #[] := by
  intro h
  have := congrArg Array.size h
  rw [wa_size (zs_len 512)] at this
  simp at this
attribute [local simp, local go_sem] wz_ne
/-- In block q lies a write. -/
def LiesW (w : World) (q : Nat) (p : Wr) : Prop := w.heap[q]? = some (.cells (wa p) 90 (0, 0))
theorem LiesW.new (w : World) (p : Wr) : LiesW (w.alloc (.cells (wa p) 90)) w.heap.size p := heap_alloc_new w _
theorem LiesW.c0 {w : World} {q : Nat} {p : Wr} (h : LiesW w q p) : w.cell? ⟨q, 0, none⟩ = some (.int .i64 p.1) := (cell_of_row w q 0 _ _ _ h).trans rfl
theorem LiesW.range {w : World} {q : Nat} {p : Wr} (h : LiesW w q p) : w.rangeAt q 1 (bc p.2) := fun j v hv => by
  rw [cell_of_row w q (1 + j) _ _ _ h]
  unfold wa
  rw [List.getElem?_toArray, Nat.add_comm]
  exact hv
theorem LiesW.lt {w : World} {q : Nat} {p : Wr} (h : LiesW w q p) : q < w.heap.size := (Array.getElem?_eq_some_iff.1 h).1
theorem LiesW.stay {w w' : World} {q : Nat} {p : Wr} (h : LiesW w q p) (hb : w'.heap[q]? = w.heap[q]?) : LiesW w' q p := hb.trans h
theorem size_wr : (Try.prog.info? 90).map (·.size) = some 513 := by kernel_rfl
section
variable {ops : Array Oper} {rest : List Oper} {o : Oper} {a : Act} {Q : Exit → Act → World → Prop} {w : World} {g : Nat} {p q : Wr}
theorem wpList_store_wr (hgd : o.guard = none) (x y : Operand) (ho : o.op = .store 90 x y) (hx : a.eval x = .pointer (some ⟨g, 0, none⟩)) (hy : a.eval y = wv q) (hl : LiesW w g p) (h5 : p.2.length = 512) (hm : q.2.length = 512)
    (h : ∀ w', LiesW w' g q → w.grownBy w' (some g) → wpList Try.prog ops Q rest (a.put o.dst undef) w') : wpList Try.prog ops Q (o :: rest) a w := by
  have hr : (Instr.storeAt 90 (.pointer (some ⟨g, 0, none⟩)) (wv q)).run Try.prog w = .ok () (w.setRow g (wa q)) := by
    have := run_storeVar_row (P := Try.prog) w g _ 90 _ (wa q) hl (by rw [size_wr, wa_size hm]) (by rw [wa_size h5, wa_size hm])
      (by rw [Array.all_eq_true_iff_forall_mem]; intro v hv; exact wcell_one q v (by unfold wa at hv; simpa using hv))
    simp only [Instr.storeAt, Instr.sureAddr, Sem.run_bind, Sem.run_pure, Result.andThen_ok, this]
  refine wpList_plain hgd fun K hK => ?_
  unfold Oper.wp execOp
  simp only [ho, hx, hy, Sem.run_bind, hr, Sem.run_pure, Result.andThen_ok]
  exact hK _ _ (h _ (setRow_heap w g _ _ _ _ hl) (wb_row g _))
theorem wpList_load_wr (hgd : o.guard = none) (x : Operand) (ho : o.op = .load 90 x) {b k : Nat} (hx : a.eval x = .pointer (some ⟨b, k, none⟩)) (hc : w.rangeAt b k (wcell p)) (h5 : p.2.length = 512)
    (h : wpList Try.prog ops Q rest (a.put o.dst (wv p)) w) : wpList Try.prog ops Q (o :: rest) a w :=
  wpList_load_mid hgd 90 x ho b k hx (wcell p) _ hc Try.underlying90 rfl (by rw [size_wr, wcell_len h5]) h
end

theorem wp_update_on {o : Oper} {a : Act} {K : Act → World → Prop} {Q : Exit → Act → World → Prop} {w : World} (x y z : Operand) (hop : o.op = .mapUpdate 84 x y z) {b N : Nat} {n : Int} {l : List UInt8} {f : Int → List UInt8}
    (hx : a.eval x = .map (some b)) (hy : a.eval y = .int .i64 n) (hz : a.eval z = blk l) (hm : MapOn w b f N) (hN : N < maxLen) (hn : (Lit.int .i64 n).wf = true) (hl : l.length = 512)
    (h : ∀ w', MapOn w' b (Dk.put f (n, l)) (N + 1) → w.grownBy w' (some b) → K (a.put o.dst undef) w') : o.wp Try.prog a w K Q := by
  obtain ⟨w', hr, h1, h2⟩ := hm.run_update hN hn hl
  unfold Oper.wp
  simp [execOp, hop, hx, hy, hz, hr, Result.andThen]
  exact h _ h1 h2

/-- What the loops keep of a disk: its own cells and its row of writes stand in W. -/
structure LoopK (w : World) (g : Nat) (d : Dk) (m : Nat) (v kv : Value) (W : World) : Prop where
  size : w.heap.size ≤ W.heap.size
  os : W.os = w.os
  tape : W.tape = w.tape
  output : W.output = w.output
  block : ∀ k, k < w.heap.size → k ≠ m → W.heap[k]? = w.heap[k]?
section
variable {w W W' : World} {fp rp : Nat → Prop} {g m : Nat} {d : Dk} {v kv : Value}
theorem LoopK.refl : LoopK w g d m v kv w := ⟨Nat.le_refl _, rfl, rfl, rfl, fun _ _ _ => rfl⟩
theorem LoopK.below (h : LoopK w g d m v kv W) (hb : Below w.heap.size W W') : LoopK w g d m v kv W' :=
  ⟨Nat.le_trans h.size hb.size, hb.os.trans h.os, hb.tape.trans h.tape, hb.output.trans h.output, fun k hk hn => (hb.block k hk).trans (h.block k hk hn)⟩
theorem LoopK.by (h : LoopK w g d m v kv W) (hb : W.grownBy W' (some m)) : LoopK w g d m v kv W' :=
  ⟨Nat.le_trans h.size hb.size, hb.os.trans h.os, hb.tape.trans h.tape, hb.output.trans h.output, fun k hk hn => (hb.block k (Nat.lt_of_lt_of_le hk h.size) (fun e => hn (Option.some.inj e))).trans (h.block k hk hn)⟩
theorem DiskAt.ne_map (D : DiskAt w fp rp g d m v kv) : g ≠ m := by
  intro e
  subst e
  obtain ⟨es, c, he⟩ := D.map.is
  have := D.box
  unfold Box at this
  rw [he] at this
  cases this
theorem LoopK.box (h : LoopK w g d m v kv W) (D : DiskAt w fp rp g d m v kv) : Box W g d.blocks m v d.cut kv d.dead := D.box.stay (h.block g D.box.lt D.ne_map)
theorem LoopK.row (h : LoopK w g d m v kv W) (D : DiskAt w fp rp g d m v kv) : W.ownsRow 0 90 513 v d.wait.length (wcells d.wait) := row_stay D.row (fun k hk => h.block k (D.row.lt k hk).2 (fun e => by
  obtain ⟨es, c, he⟩ := D.map.is
  exact row_off_map D.row he (hk.trans (congrArg some e))))
theorem LoopK.keep (h : LoopK w g d m v kv W) (D : DiskAt w fp rp g d m v kv) : W.ownsRow 0 4 1 kv d.keep.length (d.keep.map Value.bool) := row_stay D.keep (fun k hk => h.block k (D.keep.lt k hk).2 (fun e => by
  obtain ⟨es, c, he⟩ := D.map.is
  exact row_off_map D.keep he (hk.trans (congrArg some e))))
theorem LoopK.bools (h : LoopK w g d m v kv W) (D : DiskAt w fp rp g d m v kv) {x : Value} {k : List Bool} (hx : BoolsV w x k) : BoolsV W x k := by
  obtain ⟨A, c, rfl, h1, h2, h3, h4⟩ := hx
  refine ⟨A, c, rfl, h1, h2, h3, fun h0 => ?_⟩
  obtain ⟨b, off, rfl, h5, h6⟩ := h4 h0
  have hbm : b ≠ m := by
    intro e
    subst e
    obtain ⟨es, c', he⟩ := D.map.is
    have := h6 0 h0
    simp [World.cell?, he] at this
  exact ⟨b, off, rfl, Nat.lt_of_lt_of_le h5 h.size, fun j hj => (World.cell?_of_block (a := ⟨b, off + j, none⟩) (h.block b h5 hbm)).trans (h6 j hj)⟩
theorem LoopK.grown (h : LoopK w g d m v kv W) (hm : fp m) : GrownIn w W fp := ⟨h.os, h.tape, h.output, h.size, fun k hk hn => h.block k hk (fun e => hn (e ▸ hm))⟩
end

theorem wf_i64 {n : Int} (h0 : 0 ≤ n) (h1 : n < 9223372036854775808) : (Lit.int .i64 n).wf = true := by
  have h := wrap64_wf n
  rwa [IntWalk.wrap64_in _ (by omega)] at h
theorem kept_take (l : List Wr) (k : List Bool) (q : Nat) (hq : q < l.length) : Dk.kept (l.take (q + 1)) k = Dk.kept (l.take q) k ++ (if (k[q]?).getD false then [l[q]] else []) := by
  rw [List.take_succ_eq_append_getElem hq, Dk.kept_snoc, List.length_take, Nat.min_eq_left (by omega)]

theorem range_of_row {w : World} {B g n cap size : Nat} {e : TypeId} {xs : List Value} (h : w.ownsRow B e size (.slice (some ⟨g, 0, none⟩) n cap) n xs) : w.rangeAt g 0 xs := fun j u hu => by
  have := h.cells (g := g) rfl j u hu
  rwa [Addr.add_mid] at this
theorem range_mid {w : World} {q : Nat} {l : List Wr} (hl : ∀ p ∈ l, p.2.length = 512) (h : w.rangeAt q 0 (wcells l)) {k : Nat} (hk : k < l.length) : w.rangeAt q (k * 513) (wcell l[k]) := by
  intro j v hv
  have hj : j < 513 := by
    have := (List.getElem?_eq_some_iff.1 hv).1
    rwa [wcell_len (hl _ (List.getElem_mem hk))] at this
  have := h (k * 513 + j) v ((wcells_get hl (List.getElem?_eq_getElem hk) hj).trans hv)
  rwa [Nat.zero_add] at this

set_option maxHeartbeats 3200000 in
theorem Fail_any {fp rp : Nat → Prop} {g : Nat} {d : Dk} (x : Value) (k : List Bool) (w : World) (h : DiskV w fp rp g d) (hx : BoolsV w x k) :
    Calls Try.prog 25 #[dptr g, x] w fun e w' => e = .returned (.int .i64 d.failE) ∧ DiskV w' fp rp g (d.failD k) ∧ GrownIn w w' fp := by
  obtain ⟨m, v, kv, D⟩ := h
  have CK := Lib.hid (check_cell w D.box.cells.2.2.2.2.2)
  have HD := Lib.hid D
  unfold Dk.failE Dk.failD at *
  generalize hdd : d.dead = dd at *
  obtain ⟨_, c1, c2, _, _, _⟩ := D.box.cells
  have FK := Lib.hid (D.ok.fail k)
  cases dd with
  | true =>
    rw [if_pos rfl] at CK
    rw [if_pos rfl, if_pos rfl]
    clear D c1 c2 hx
    go_enter Try.func25, Try.ntmps25
    go_wp2_with fail
    refine (CK.out).mono ?_; rintro e w' ⟨rfl, rfl⟩
    go_wp2_with fail
    go_ret
    exact ⟨rfl, ⟨m, v, kv, HD.out⟩, GrownIn.refl _ _⟩
  | false =>
    rw [if_neg (by decide)] at CK
    rw [if_neg (by decide), if_neg (by decide)]
    have HX := Lib.hid hx
    obtain ⟨A, cap, rfl, hcap, hcm, hA⟩ := row_form D.row
    have HA := Lib.hid hA
    obtain ⟨XA, xc, rfl, hx1, hx2, hx3, hx4⟩ := hx
    have hws : d.wait.length ≤ 1073741824 := by have := D.ok.sum; unfold Dk.sum at this; omega
    have hms : d.many + d.wait.length ≤ 1073741824 := D.ok.sum
    have hwl := D.ok.wait
    have HWL := Lib.hid hwl
    have kb : k.length ≤ 9223372036854775807 := by unfold maxLen at hx2; omega
    clear hx2 hx3 hx4 hA hcm hwl D
    go_enter Try.func25, Try.ntmps25
    go_wp2_with fail
    refine (CK.out).mono ?_; rintro e w' ⟨rfl, rfl⟩
    go_wp2_with fail
    go_loopw [18] (fun i W => ∃ q : Nat, q ≤ d.wait.length ∧ i = .int .i64 q ∧ LoopK w g d m (.slice A d.wait.length cap) kv W ∧ MapOn W m (Dk.lay d.on (Dk.kept (d.wait.take q) k)) (d.many + q)) (fun i _ => d.wait.length - (intOf i).toNat)
    case atStart => exact ⟨0, by omega, rfl, LoopK.refl, by rw [List.take_zero]; exact HD.out.map⟩
    case round =>
      obtain ⟨q, hq, rfl, hlk, hmp⟩ := hrel
      by_cases hlt : q < d.wait.length
      · obtain ⟨Qb, rfl, _, _⟩ := HA.out (by omega)
        have hr' := range_of_row (hlk.row HD.out)
        have hpw := HWL.out _ (List.getElem_mem hlt)
        have hrx := range_mid (fun p hp => (HWL.out p hp).1) hr' hlt
        have hkt := kept_take d.wait k q hlt
        generalize d.wait[q] = p at *
        obtain ⟨hp5, hp0, hp1⟩ := hpw
        have RX := Lib.hid hrx
        have HP := Lib.hid hp5
        have HKT := Lib.hid hkt
        have HLK := Lib.hid hlk
        have HMP := Lib.hid hmp
        have HN := Lib.hid (LiesW.new wr (0, zs 512))
        clear hr' hrx hp5 hkt hlk hmp
        go_wp2_with (first | (with_reducible refine wpList_load_wr rfl _ rfl rfl RX.out HP.out ?_) | (with_reducible refine wpList_store_wr rfl _ _ rfl rfl rfl HN.out (zs_len 512) HP.out ?_))
        intro w1 hl1 g1
        have bl1 : Below wr.heap.size wr w1 := below_row ((Below.refl _ _).alloc (Nat.le_refl _) _) g1 (by simp) (Nat.le_refl _)
        have hlk1 := HLK.out.below (bl1.mono HLK.out.size)
        have hmp1 := HMP.out.block (bl1.block _ HMP.out.lt)
        have HL1 := Lib.hid hl1
        have HK1 := Lib.hid hlk1
        have HM1 := Lib.hid hmp1
        have e1 := (hlk1.box HD.out).cells.2.1
        have hsk : LoopK w g d m (.slice (some ⟨Qb, 0, none⟩) d.wait.length cap) kv w1 := hlk1
        clear HN g1 bl1
        have upd : ∀ W : World, (∃ W0, LoopK w g d m (.slice (some ⟨Qb, 0, none⟩) d.wait.length cap) kv W0 ∧ W = W0) → True := fun _ _ => trivial
        clear upd
        have tail : ∀ b : Bool, (k[q]?).getD false = b → Dk.kept (d.wait.take (q + 1)) k = Dk.kept (d.wait.take q) k ++ (if b then [p] else []) := fun b hb => by rw [HKT.out, hb]
        have TL := Lib.hid tail
        clear tail hlk1 hmp1 hl1
        by_cases hqk : q < k.length
        · have hqk' : (q : Int) < (k.length : Int) := by omega
          obtain ⟨_, _, hex, _, _, _, hx4⟩ := hsk.bools HD.out HX.out
          injection hex with hex1 _ hex2
          subst hex1 hex2
          obtain ⟨bx, ox, rfl, _, hxc⟩ := hx4 (by omega)
          have hxq := hxc q hqk
          have hkq : k[q]? = some k[q] := List.getElem?_eq_getElem hqk
          generalize hbv : k[q] = bv at *
          clear hxc hx4 hbv
          cases bv with
          | false =>
            go_wp2_with fail
            go_roundw
            case rel =>
              refine ⟨q + 1, by omega, by simp, HK1.out, ?_⟩
              rw [TL.out false (by rw [hkq]; rfl), if_neg (by decide), List.append_nil]
              exact HM1.out.mono (by omega)
            case measure => simp [intOf]; omega
          | true =>
            go_wp2_with fail
            have e1' : w1.drew.cell? ⟨g, 1, none⟩ = some (.map (some m)) := e1
            have hl1' : LiesW w1.drew wr.heap.size p := HL1.out
            have hk1' : LoopK w g d m (.slice (some ⟨Qb, 0, none⟩) d.wait.length cap) kv w1.drew := HK1.out.below ((Below.refl _ _).drew)
            have hm1' : MapOn w1.drew m (Dk.lay d.on (Dk.kept (d.wait.take q) k)) (d.many + q) := HM1.out.block rfl
            refine wp_region_held_drew (S := fun W => W.cell? ⟨g, 1, none⟩ = some (.map (some m)) ∧ LiesW W wr.heap.size p) (by kernel_rfl) ⟨e1', hl1'⟩ (fun hHeld => ?_)
            generalize w1.drew = V0 at *
            refine wpAnyH_take (i := 0) (oi := _) (v := ?_) rfl (by kernel_rfl) (by kernel_rfl) (by kernel_rfl) (fun _ _ _ h => h) (Or.inl ⟨by rfl, ?_⟩) (by assumption) ?_
            rotate_left
            · (intro w hSw; (try dsimp only at hSw); (try go_split_ands); go_simp; (try with_reducible rfl))
            (try simp only [List.getElem_toArray, List.getElem_cons_zero, List.getElem_cons_succ, Act.put, List.setIfInBounds_toArray, List.set_cons_zero, List.set_cons_succ])
            refine wpAnyH_take (i := 1) (oi := _) (v := ?_) rfl (by kernel_rfl) (by kernel_rfl) (by kernel_rfl) (fun _ _ _ h => h) (Or.inl ⟨by rfl, ?_⟩) (by assumption) ?_
            rotate_left
            · (intro w hSw; (try dsimp only at hSw); (try go_split_ands); go_simp; (try with_reducible rfl))
            (try simp only [List.getElem_toArray, List.getElem_cons_zero, List.getElem_cons_succ, Act.put, List.setIfInBounds_toArray, List.set_cons_zero, List.set_cons_succ])
            refine wpAnyH_take (i := 2) (oi := _) (v := ?_) rfl (by kernel_rfl) (by kernel_rfl) (by kernel_rfl) (fun _ _ _ h => h) (Or.inl ⟨by rfl, ?_⟩) (by assumption) ?_
            rotate_left
            · (intro w hSw; (try dsimp only at hSw); (try go_split_ands); go_simp; (try with_reducible rfl))
            (try simp only [List.getElem_toArray, List.getElem_cons_zero, List.getElem_cons_succ, Act.put, List.setIfInBounds_toArray, List.set_cons_zero, List.set_cons_succ])
            refine wpAnyH_take (i := 3) (oi := _) (v := ?_) rfl (by kernel_rfl) (by kernel_rfl) (by kernel_rfl) (fun _ _ _ h => h) (Or.inl ⟨by rfl, ?_⟩) (by assumption) ?_
            rotate_left
            · (intro w hSw; (try dsimp only at hSw); (try go_split_ands); go_simp; (try with_reducible rfl))
            (try simp only [List.getElem_toArray, List.getElem_cons_zero, List.getElem_cons_succ, Act.put, List.setIfInBounds_toArray, List.set_cons_zero, List.set_cons_succ])
            refine wpAnyH_take (i := 4) (oi := _) (v := ?_) rfl (by kernel_rfl) (by kernel_rfl) (by kernel_rfl) (fun _ _ _ h => h) (Or.inl ⟨by rfl, ?_⟩) (by assumption) ?_
            rotate_left
            · (intro w hSw; (try dsimp only at hSw); (try go_split_ands); go_simp; (try with_reducible rfl))
            (try simp only [List.getElem_toArray, List.getElem_cons_zero, List.getElem_cons_succ, Act.put, List.setIfInBounds_toArray, List.set_cons_zero, List.set_cons_succ])
            refine wpAnyH_take (i := 5) (oi := _) (v := ?_) rfl (by kernel_rfl) (by kernel_rfl) (by kernel_rfl) (fun _ _ _ h => h) (Or.inl ⟨by rfl, ?_⟩) (by assumption) ?_
            rotate_left
            · (intro W hW; have h0 := hW.2.c0; go_simp; rfl)
            (try simp only [List.getElem_toArray, List.getElem_cons_zero, List.getElem_cons_succ, Act.put, List.setIfInBounds_toArray, List.set_cons_zero, List.set_cons_succ])
            refine wpAnyH_take (i := 6) (oi := _) (v := ?_) rfl (by kernel_rfl) (by kernel_rfl) (by kernel_rfl) (fun _ _ _ h => h) (Or.inl ⟨by rfl, ?_⟩) (by assumption) ?_
            rotate_left
            · (intro w hSw; (try dsimp only at hSw); (try go_split_ands); go_simp; (try with_reducible rfl))
            (try simp only [List.getElem_toArray, List.getElem_cons_zero, List.getElem_cons_succ, Act.put, List.setIfInBounds_toArray, List.set_cons_zero, List.set_cons_succ])
            refine wpAnyH_take (i := 7) (oi := _) (v := blk p.2) rfl (by kernel_rfl) (by kernel_rfl) (by kernel_rfl) (fun _ _ _ h => h) (yieldsIf_load_mid (by rfl) 25 _ rfl wr.heap.size 1 rfl (bc p.2) _ (fun W hW => hW.2.range) Try.underlying25 rfl (by rw [info_blk, bc_length, HP.out])) (by assumption) ?_
            (try simp only [List.getElem_toArray, List.getElem_cons_zero, List.getElem_cons_succ, Act.put, List.setIfInBounds_toArray, List.set_cons_zero, List.set_cons_succ])
            refine wpAnyH_ready (rs := [8]) (by kernel_rfl) (by simp) ?_
            refine AllReadyH.cons (o := _) rfl (fun K hK => ?_) AllReadyH.nil
            (try simp only [List.getElem_toArray, List.getElem_cons_zero, List.getElem_cons_succ])
            rw [if_pos (by rfl)]
            refine wp_update_on _ _ _ rfl rfl rfl rfl hm1' (by unfold maxLen; omega) (wf_i64 hp0 hp1) HP.out ?_
            intro w2 hm2 hg2
            have hne : some wr.heap.size ≠ some m := fun e => by injection e with e; have := HMP.out.lt; omega
            refine hK.out _ _ (⟨(hg2.cell (a := ⟨g, 1, none⟩) hHeld.1 (fun e => HD.out.ne_map (Option.some.inj e))), hl1'.stay (hg2.block _ hl1'.lt hne)⟩) (fun hHeld => ?_)
            clear hK K
            (try simp only [List.getElem_toArray, List.getElem_cons_zero, List.getElem_cons_succ, Act.put, List.setIfInBounds_toArray, List.set_cons_zero, List.set_cons_succ])
            refine wpAnyH_done (by kernel_rfl) ?_ _
            have hk2 := hk1'.by hg2
            have HK2 := Lib.hid hk2
            have HM2 := Lib.hid hm2
            clear hk2 hm2 hg2 hk1' hm1' hl1' e1'
            go_wp2_with fail
            go_roundw
            case rel =>
              refine ⟨q + 1, by omega, by simp, HK2.out, ?_⟩
              rw [TL.out true (by rw [hkq]; rfl), if_pos rfl, Dk.lay_snoc]
              exact HM2.out
            case measure => simp [intOf]; omega
        · have hqk' : (k.length : Int) ≤ (q : Int) := by omega
          go_wp2_with fail
          go_roundw
          case rel =>
            refine ⟨q + 1, by omega, by simp, HK1.out, ?_⟩
            rw [TL.out false (by rw [List.getElem?_eq_none (by omega)]; rfl), if_neg (by decide), List.append_nil]
            exact HM1.out.mono (by omega)
          case measure => simp [intOf]; omega
      · obtain rfl : q = d.wait.length := by omega
        have HB := Lib.hid (hlk.box HD.out)
        obtain ⟨_, _, e2, e3, e4, e5⟩ := HB.out.cells
        have f2 := HB.out.free 2
        have f3 := HB.out.free 3
        have f4 := HB.out.free 4
        have f5 := HB.out.free 5
        obtain ⟨A1, cap1, hkv, _, _, _⟩ := row_form HD.out.keep
        rw [hkv] at e4
        have HLK := Lib.hid hlk
        have HMP := Lib.hid hmp
        clear hlk hmp
        go_wp2_with fail
        go_ret
        have b5 := (((HB.out.set2 (.slice none 0 0)).set3 0).set4 (.slice none 0 0)).set5 true
        have D := HD.out
        have hk' : ∀ i, i ≠ g → i ≠ m → i < w.heap.size → ((((wr.setCell ⟨g, 2, none⟩ (.slice none 0 0)).setCell ⟨g, 3, none⟩ (.int .i64 0)).setCell ⟨g, 4, none⟩ (.slice none 0 0)).setCell ⟨g, 5, none⟩ (.bool true)).heap[i]? = w.heap[i]? := fun i hi hm hl => by
          rw [heap_setCell_other _ _ _ _ hi, heap_setCell_other _ _ _ _ hi, heap_setCell_other _ _ _ _ hi, heap_setCell_other _ _ _ _ hi]
          exact HLK.out.block i hl hm
        have hmm := HMP.out
        rw [List.take_length] at hmm
        refine ⟨rfl, ⟨m, .slice none 0 0, .slice none 0 0, FK.out, b5, ?_, World.ownsRow_nil _ _ _ _, fun _ => rfl, World.ownsRow_nil _ _ _ _, D.fg, D.fm, fun i hi => (by cases hi), fun i hi => (by cases hi)⟩, ?_⟩
        · refine hmm.block ?_
          have hi := D.ne_map.symm
          rw [heap_setCell_other _ _ _ _ hi, heap_setCell_other _ _ _ _ hi, heap_setCell_other _ _ _ _ hi, heap_setCell_other _ _ _ _ hi]
        · have g0 := HLK.out.grown (fp := fp) D.fm
          exact (((g0.trans (GrownIn.set (a := ⟨g, 2, none⟩) _ (.inl D.fg))).trans (GrownIn.set (a := ⟨g, 3, none⟩) _ (.inl D.fg))).trans (GrownIn.set (a := ⟨g, 4, none⟩) _ (.inl D.fg))).trans (GrownIn.set (a := ⟨g, 5, none⟩) _ (.inl D.fg))
end Go.Proofs.Yteoomhkdffnkkaa
