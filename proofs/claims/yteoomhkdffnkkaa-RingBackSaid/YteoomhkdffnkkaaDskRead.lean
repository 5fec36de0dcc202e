/- A disk's Read. Conditions: none. -/
import Derived.Test.YteoomhkdffnkkaaDskIter
import Derived.RangeFuncBound
import Derived.RangeFuncCalls
namespace Go.Proofs.Yteoomhkdffnkkaa
set_option linter.unusedVariables false
set_option linter.unusedSimpArgs false
open Go.ChangeShapes Go.WideShapes Go.ChangeAt Go.RowKit Go.Shelf
set_option maxRecDepth 100000

attribute [local go_sem] zeroValueB zeroValueW
attribute [local simp, local go_sem] wz_ne
attribute [local go_sem] Oper.semAt_some

theorem built_none : (Try.prog.built 25 []) = some (ac (zs 512)) := by kernel_rfl
theorem run_build_none (w : World) : (Instr.build 25 #[]).run Try.prog w = .ok (blk (zs 512)) w := run_build w _ _ _ built_none
attribute [local go_sem] run_build_none
theorem lies_own {β : Type} (B : Nat) (f : β → List UInt8) : Own (fun s W => Lies W B (f s)) := fun s X Y row hs hg hrow =>
  hs.but hg (fun e => by
    obtain ⟨o, ho, hc⟩ := hrow B e.symm
    rw [show X.heap[B]? = _ from hs] at ho
    cases ho
    cases hc)
theorem liesW_own {β : Type} (B : Nat) (f : β → Wr) : Own (fun s W => LiesW W B (f s)) := fun s X Y row hs hg hrow =>
  hs.stay (hg.block B hs.lt (fun e => by
    obtain ⟨o, ho, hc⟩ := hrow B e.symm
    rw [show X.heap[B]? = _ from hs] at ho
    cases ho
    cases hc))

theorem results_read {tmps : Array Value} {w : World} {b c : Nat} {l : List UInt8} {E : Int} (h4 : tmps.getD 4 undef = .pointer (some ⟨b, 0, none⟩)) (h5 : tmps.getD 5 undef = .pointer (some ⟨c, 0, none⟩)) (hl : Lies w b l) (hl5 : l.length = 512) (hb : Boxed w c 26 (.int .i64 E)) :
    (results Try.f51 tmps).run Try.prog w = .ok (.tuple #[blk l, .int .i64 E]) w := by
  have h4' : tmps[4]?.getD undef = .pointer (some ⟨b, 0, none⟩) := by simpa using h4
  have h5' : tmps[5]?.getD undef = .pointer (some ⟨c, 0, none⟩) := by simpa using h5
  have hc := hb.cell
  have hv : (loadVar 26 ⟨c, 0, none⟩).run Try.prog w = .ok (.int .i64 E) w := by
    unfold loadVar
    rw [Sem.run_bind]
    unfold isAgg
    rw [Sem.run_bind, run_underlying Try.underlying26 w]
    simp [go_sem, hc]
  simp [results, Try.results51, h4', h5', asAddr, run_loadVar_blk hl hl5, hv]
set_option maxRecDepth 100000 in
set_option maxHeartbeats 800000 in
theorem Read_bad (p : Value) (n E : Int) (w : World) (hE : (E == 0) = false) (hc : ∀ W, Below w.heap.size w W → Calls Try.prog 49 #[p, .int .i64 n] W fun e w' => e = .returned (.int .i64 E) ∧ W = w') :
    Calls Try.prog 51 #[p, .int .i64 n] w fun e w' => e = .returned (.tuple #[blk (zs 512), .int .i64 E]) ∧ Below w.heap.size w w' := by
  have HC := Lib.hid hc
  have L0 : Lies (((w.alloc (.cells #[.int .i64 n] 3)).alloc (.cells (ac (zs 512)) 25)).alloc (.cells #[.int .i64 0] 26)) (w.heap.size + 1) (zs 512) := (Lies.new _ _ _ (by simp)).alloc _
  have HL := Lib.hid L0
  have B0 : Boxed (((w.alloc (.cells #[.int .i64 n] 3)).alloc (.cells (ac (zs 512)) 25)).alloc (.cells #[.int .i64 0] 26)) (w.heap.size + 1 + 1) 26 (.int .i64 0) := by
    have := Boxed.new ((w.alloc (.cells #[.int .i64 n] 3)).alloc (.cells (ac (zs 512)) 25)) 26 (.int .i64 0)
    simpa using this
  have HB := Lib.hid B0
  clear hc L0 B0
  go_enter Try.func51, Try.ntmps51
  go_wp2_with fail
  refine (HC.out _ (by repeat' (first | (with_reducible exact Below.refl _ _) | (with_reducible assumption) | (with_reducible refine below_drewN ?_ _) | (with_reducible refine Below.alloc ?_ ?_ _) | (with_reducible refine Below.drew ?_) | (with_reducible refine Below.setCell ?_ ?_ _) | go_size))).mono ?_; rintro e w' ⟨rfl, rfl⟩
  go_wp2_with (with_reducible refine wpList_store_blk (m := zs 512) rfl _ _ rfl rfl rfl HL.out (zs_len 512) (zs_len 512) ?_)
  intro w1 h1 g1
  have B1 := HB.out.kept g1 (by intro e; injection e with e; omega)
  have b1 : Below w.heap.size w w1 := below_row (by repeat' (first | (with_reducible exact Below.refl _ _) | (with_reducible assumption) | (with_reducible refine below_drewN ?_ _) | (with_reducible refine Below.alloc ?_ ?_ _) | (with_reducible refine Below.drew ?_) | (with_reducible refine Below.setCell ?_ ?_ _) | go_size)) g1 (by go_size) (by omega)
  have c5 := B1.cell
  have f5 := B1.frozen
  have H1 := Lib.hid h1
  have HB1 := Lib.hid B1
  clear h1 g1 B1
  go_wp2_with fail
  ((try simp only [Exit.inBlock, Exit.then]); refine bodyPost_ret (results_read rfl rfl (H1.out.setOther _ _ (by show w.heap.size + 1 ≠ w.heap.size + 1 + 1; omega)) (zs_len 512) (HB1.out.set _)) rfl ?_)
  exact ⟨rfl, b1.setCell (p := ⟨w.heap.size + 1 + 1, 0, none⟩) (by show w.heap.size ≤ w.heap.size + 1 + 1; omega) _⟩
theorem Read_nil (n : Int) (w : World) : Calls Try.prog 51 #[.pointer none, .int .i64 n] w fun e w' => e = .returned (.tuple #[blk (zs 512), .int .i64 2]) ∧ Below w.heap.size w w' :=
  Read_bad _ n 2 w rfl (fun W _ => bad_nil n W)

theorem lay_find (n : Int) : ∀ (r : List Wr) (f : Int → List UInt8), Dk.lay f r.reverse n = ((r.find? (fun p => p.1 == n)).map (·.2)).getD (f n)
  | [], f => rfl
  | p :: r, f => by
    rw [List.reverse_cons, Dk.lay_snoc, List.find?_cons]
    unfold Dk.put
    by_cases h : p.1 = n
    · rw [if_pos h.symm, show (p.1 == n) = true from by simp [h]]
      rfl
    · rw [if_neg (fun e => h e.symm), lay_find n r f, show (p.1 == n) = false from by simp [h]]
def bwd (ws : List Wr) (h : ∀ p ∈ ws, p.2.length = 512) : List (Nat × W5) := List.ofFn (fun k : Fin ws.length => (ws.length - 1 - k.1, ⟨ws[ws.length - 1 - k.1]'(by omega), h _ (List.getElem_mem _)⟩))
theorem bwd_len (ws : List Wr) (h : ∀ p ∈ ws, p.2.length = 512) : (bwd ws h).length = ws.length := by simp [bwd]
theorem bwd_get (ws : List Wr) (h : ∀ p ∈ ws, p.2.length = 512) (k : Nat) (hk : k < (bwd ws h).length) : (bwd ws h)[k].1 = ws.length - 1 - k ∧ (bwd ws h)[k].2.1 = ws[ws.length - 1 - k]'(by have := bwd_len ws h; omega) := by simp [bwd]
theorem bwd_map (ws : List Wr) (h : ∀ p ∈ ws, p.2.length = 512) : (bwd ws h).map (fun x => x.2.1) = ws.reverse := by
  apply List.ext_getElem
  · simp [bwd]
  · intro k h1 h2
    simp [bwd]
theorem look_none (d : Dk) (n : Int) (h : ∀ p ∈ d.wait, p.2.length = 512) (hn : ∀ x ∈ bwd d.wait h, x.2.1.1 ≠ n) : d.look n = d.on n := by
  unfold Dk.look
  have := lay_find n d.wait.reverse d.on
  rw [List.reverse_reverse] at this
  rw [this, List.find?_eq_none.2]
  · rfl
  · intro p hp
    rw [← bwd_map d.wait h] at hp
    obtain ⟨x, hx, rfl⟩ := List.mem_map.1 hp
    simpa using hn x hx
theorem look_some (d : Dk) (n : Int) (h : ∀ p ∈ d.wait, p.2.length = 512) (pre : List (Nat × W5)) (x : Nat × W5) (hp : (pre ++ [x]) <+: bwd d.wait h) (hx : x.2.1.1 = n) (hn : ∀ y ∈ pre, y.2.1.1 ≠ n) : d.look n = x.2.1.2 := by
  unfold Dk.look
  have := lay_find n d.wait.reverse d.on
  rw [List.reverse_reverse] at this
  obtain ⟨s, hs⟩ := hp
  have h1 : d.wait.reverse = (pre.map (fun x => x.2.1)) ++ (x.2.1 :: s.map (fun x => x.2.1)) := by
    rw [← bwd_map d.wait h, ← hs]
    simp
  have h2 : (pre.map (fun x => x.2.1)).find? (fun p => p.1 == n) = none := by
    rw [List.find?_eq_none]
    intro p hp
    obtain ⟨y, hy, rfl⟩ := List.mem_map.1 hp
    simpa using hn y hy
  rw [this, h1, List.find?_append, h2, List.find?_cons]
  simp [hx]
section
variable {F : Fence} {nF : Nat} {ops : Array Oper} {rest : List Oper} {o : Oper} {a : Act} {Q : Exit → Act → World → Prop} {w : World}
theorem wpListIn_store_blk (hg : o.guard = none) (x y : Operand) (ho : o.op = .store 25 x y) {g : Nat} {l m : List UInt8} (hl : Lies w g l) (h5 : l.length = 512) (hm : m.length = 512) (hx : a.eval x = .pointer (some ⟨g, 0, none⟩)) (hy : a.eval y = blk m)
    (h : ∀ w', Lies w' g m → w.grownBy w' (some g) → wpListIn F nF Try.prog ops Q rest (a.put o.dst undef) w') : wpListIn F nF Try.prog ops Q (o :: rest) a w :=
  wpListIn_store_at hg x y ho (run_store_blk hl h5 hm) hx hy (h _ (setRow_heap w g _ _ _ _ hl) (wb_row g _))
theorem wpListIn_store_wr (hg : o.guard = none) (x y : Operand) (ho : o.op = .store 90 x y) {g : Nat} {p q : Wr} (hl : LiesW w g p) (h5 : p.2.length = 512) (hm : q.2.length = 512) (hx : a.eval x = .pointer (some ⟨g, 0, none⟩)) (hy : a.eval y = wv q)
    (h : ∀ w', LiesW w' g q → w.grownBy w' (some g) → wpListIn F nF Try.prog ops Q rest (a.put o.dst undef) w') : wpListIn F nF Try.prog ops Q (o :: rest) a w := by
  have hr : (Instr.storeAt 90 (.pointer (some ⟨g, 0, none⟩)) (wv q)).run Try.prog w = .ok () (w.setRow g (wa q)) := by
    have := run_storeVar_row (P := Try.prog) w g _ 90 _ (wa q) hl (by rw [size_wr, wa_size hm]) (by rw [wa_size h5, wa_size hm])
      (by rw [Array.all_eq_true_iff_forall_mem]; intro v hv; exact wcell_one q v (by unfold wa at hv; simpa using hv))
    simp only [Instr.storeAt, Instr.sureAddr, Sem.run_bind, Sem.run_pure, Result.andThen_ok, this]
  exact wpListIn_store_at hg x y ho hr hx hy (h _ (setRow_heap w g _ _ _ _ hl) (wb_row g _))
end
theorem yieldsIf_lookup {ops : Array Oper} {S : World → Prop} {op : Oper} {a : Act} (hw : Region.wanted op (yielded ops a.tmps) = true) (x y : Operand) (ho : op.op = .lookup 84 x y false) {m N : Nat} {n : Int} {f : Int → List UInt8}
    (hx : a.eval x = .map (some m)) (hy : a.eval y = .int .i64 n) (hn : (Lit.int .i64 n).wf = true) (hS : ∀ w, S w → MapOn w m f N) : YieldsIf Try.prog ops S op (blk (f n)) a :=
  .inl ⟨hw, fun w hs => by
    unfold execOp
    simp [ho, hx, hy, ((hS w hs).run_lookup hn).1]⟩
theorem wp_store_blkD {o : Oper} {a : Act} {w : World} {K : Act → World → Prop} {Q : Exit → Act → World → Prop} {x y : Operand} (ho : o.op = .store 25 x y) {g : Nat} {l m : List UInt8}
    (hx : a.eval x = .pointer (some ⟨g, 0, none⟩)) (hy : a.eval y = blk m) (hl : Lies w g l) (h5 : l.length = 512) (hm : m.length = 512)
    (h : K (a.put o.dst undef) (w.setRow g (ac m))) : o.wp Try.prog a w K Q := by
  unfold Oper.wp execOp
  simp only [ho, hx, hy, Sem.run_bind, run_store_blk hl h5 hm, Sem.run_pure, Result.andThen_ok]
  exact h
/-- It ends as it should, and in no other way. -/
def onlyNormal (Q : Exit → Act → World → Prop) : Exit → Act → World → Prop
  | .normal, a, w => Q .normal a w
  | _, _, _ => False
theorem only_mono {Q : Exit → Act → World → Prop} : ∀ e a w, onlyNormal Q e a w → Q e a w
  | .normal, _, _, h => h
theorem keeps_row {w w' : World} {g B : Nat} {cs : Array Value} {t : TypeId} {fr : Nat × Nat} (hg : w.grownBy w' (some g)) (hc : w.heap[g]? = some (.cells cs t fr)) : KeepsFrom B w w' :=
  (KeepsOthers.of_grownBy hg (fun j o e ho => by injection e with e; subst e; rw [hc] at ho; cases ho; rfl)).from _

/-- What Read's loop holds between two rounds. -/
def ReadI (w : World) (n : Int) (pre : List (Nat × W5)) (W : World) : Prop :=
  (Lies W (w.heap.size + 1) (zs 512) ∧ Boxed W w.heap.size 3 (.int .i64 n) ∧ Boxed W (w.heap.size + 1 + 1) 26 (.int .i64 0)) ∧ Below w.heap.size w W ∧ w.heap.size + 1 + 1 + 1 + 1 ≤ W.heap.size ∧ ∀ x ∈ pre, x.2.1.1 ≠ n
def ReadX (w : World) (n : Int) (c : Code) (pre : List (Nat × W5)) (W : World) : Prop :=
  ∃ p x, pre = p ++ [x] ∧ c = .ret ∧ x.2.1.1 = n ∧ (∀ y ∈ p, y.2.1.1 ≠ n) ∧ Lies W (w.heap.size + 1) x.2.1.2 ∧ Boxed W (w.heap.size + 1 + 1) 26 (.int .i64 0) ∧ Below w.heap.size w W
theorem readI_own (w : World) (n : Int) (B : Nat) (hB : w.heap.size ≤ B) : OwnFrom B (ReadI w n) := fun s X Y row hs hg hr => by
  obtain ⟨⟨h1, h2, h3⟩, h4, h6, h5⟩ := hs
  have hr' : ∀ r, row = some r → ∃ o : Obj, X.heap[r]? = some o ∧ o.isCells = false := fun r e => (hr r e).2
  exact ⟨⟨lies_own _ (fun (_ : Unit) => zs 512) () X Y row h1 hg hr', boxed_own _ _ (fun (_ : Unit) => _) () X Y row h2 hg hr', boxed_own _ _ (fun (_ : Unit) => _) () X Y row h3 hg hr'⟩, ownFrom_below (β := Unit) (Nat.le_refl _) hB () X Y row h4 hg hr, Nat.le_trans h6 hg.size, h5⟩
theorem readX_own (w : World) (n : Int) (B : Nat) (hB : w.heap.size ≤ B) (c : Code) : OwnFrom B (ReadX w n c) := fun s X Y row hs hg hr => by
  obtain ⟨p, x, e1, e2, e3, e4, h1, h3, h4⟩ := hs
  have hr' : ∀ r, row = some r → ∃ o : Obj, X.heap[r]? = some o ∧ o.isCells = false := fun r e => (hr r e).2
  exact ⟨p, x, e1, e2, e3, e4, lies_own _ (fun (_ : Unit) => _) () X Y row h1 hg hr', boxed_own _ _ (fun (_ : Unit) => _) () X Y row h3 hg hr', ownFrom_below (β := Unit) (Nat.le_refl _) hB () X Y row h4 hg hr⟩

set_option maxRecDepth 100000 in
set_option maxHeartbeats 3200000 in
theorem Read_ok {fp rp : Nat → Prop} {g : Nat} {d : Dk} (n : Int) (w : World) (h : DiskV w fp rp g d) (hb : d.bad n = 0) (hn0 : (Lit.int .i64 n).wf = true) :
    Calls Try.prog 51 #[dptr g, .int .i64 n] w fun e w' => e = .returned (.tuple #[blk (d.look n), .int .i64 0]) ∧ Below w.heap.size w w' := by
  obtain ⟨m, v, kv, D⟩ := h
  obtain ⟨A, cap, rfl, hcap, hcm, hA⟩ := row_form D.row
  have L0 : Lies (((w.alloc (.cells #[.int .i64 n] 3)).alloc (.cells (ac (zs 512)) 25)).alloc (.cells #[.int .i64 0] 26)) (w.heap.size + 1) (zs 512) := (Lies.new _ _ _ (by simp)).alloc _
  have B5 : Boxed (((w.alloc (.cells #[.int .i64 n] 3)).alloc (.cells (ac (zs 512)) 25)).alloc (.cells #[.int .i64 0] 26)) (w.heap.size + 1 + 1) 26 (.int .i64 0) := by
    have := Boxed.new ((w.alloc (.cells #[.int .i64 n] 3)).alloc (.cells (ac (zs 512)) 25)) 26 (.int .i64 0)
    simpa using this
  have B3 : Boxed (((w.alloc (.cells #[.int .i64 n] 3)).alloc (.cells (ac (zs 512)) 25)).alloc (.cells #[.int .i64 0] 26)) w.heap.size 3 (.int .i64 n) := ((Boxed.new w 3 (.int .i64 n)).alloc _).alloc _
  have bl : Below w.heap.size w (((w.alloc (.cells #[.int .i64 n] 3)).alloc (.cells (ac (zs 512)) 25)).alloc (.cells #[.int .i64 0] 26)) := by repeat' (first | (with_reducible exact Below.refl _ _) | (with_reducible assumption) | (with_reducible refine below_drewN ?_ _) | (with_reducible refine Below.alloc ?_ ?_ _) | (with_reducible refine Below.drew ?_) | (with_reducible refine Below.setCell ?_ ?_ _) | go_size)
  have DX := D.stay (fun k hk _ => bl.block k hk)
  have BC := Lib.hid (bad_cell n _ DX.box.cells.1 DX.box.cells.2.2.2.2.2)
  rw [hb] at BC
  have c2 := DX.box.cells.2.2.1
  have HD := Lib.hid DX
  have HD0 := Lib.hid D
  have HA := Lib.hid hA
  clear hA D DX hcm
  refine (callsIn_wide (n := 6)).1 ?_
  have hF : Fence.wide.fn 51 := trivial
  refine callsIn_of_wp_marks Try.func51 rfl hF ?_ rfl
  simp only [Try.ntmps51, List.size_toArray, List.length_cons, List.length_nil, Nat.reduceAdd, Nat.reduceSub, Array.replicate_succ, Array.replicate_zero, List.push_toArray, List.append_toArray, List.nil_append, List.cons_append]
  gi_wp2_with (first | (refine ⟨trivial, ?_⟩; gi_at_call 49; refine (callsIn_wide.2 BC.out).mono ?_; rintro e w' ⟨rfl, rfl⟩) | (refine ⟨trivial, ?_⟩; gi_at_call 68; refine (back_in Fence.wide _ trivial rfl _ _ _ _).mono ?_; rintro e w' ⟨rfl, rfl⟩))
  have hs3 : (((w.alloc (.cells #[.int .i64 n] 3)).alloc (.cells (ac (zs 512)) 25)).alloc (.cells #[.int .i64 0] 26)).heap.size = w.heap.size + 1 + 1 + 1 := by simp
  generalize ((w.alloc (.cells #[.int .i64 n] 3)).alloc (.cells (ac (zs 512)) 25)).alloc (.cells #[.int .i64 0] 26) = W3 at *
  have L4 := L0.alloc (.cells #[.slice A d.wait.length cap] 85)
  have B54 := B5.alloc (.cells #[.slice A d.wait.length cap] 85)
  have B34 := B3.alloc (.cells #[.slice A d.wait.length cap] 85)
  have bX := bl.alloc (by rw [hs3]; omega) (.cells #[.slice A d.wait.length cap] 85)
  have BS := Boxed.new W3 85 (.slice A d.wait.length cap)
  rw [hs3] at BS
  have hsX : (W3.alloc (.cells #[.slice A d.wait.length cap] 85)).heap.size = w.heap.size + 1 + 1 + 1 + 1 := by simp [hs3]
  generalize W3.alloc (.cells #[.slice A d.wait.length cap] 85) = X at *
  have hrg : ∀ W', Below X.heap.size X W' → 0 < d.wait.length → ∃ q, A = some ⟨q, 0, none⟩ ∧ W'.rangeAt q 0 (wcells d.wait) := fun W' hW' h0 => by
    obtain ⟨q, h1, h2, h3⟩ := HA.out h0
    have hq := (HD0.out.row.lt q h3).2
    exact ⟨q, h1, fun j u hu => ((bX.trans (hW'.mono (by omega))).cell (p := ⟨q, 0 + j, none⟩) hq).trans (h2 j u hu)⟩
  have hw5 : ∀ p ∈ d.wait, p.2.length = 512 := fun p hp => (HD0.out.ok.wait p hp).1
  have hbs := back_stops Fence.wide 5 trivial rfl (by decide) (w.heap.size + 1 + 1 + 1) X.heap.size d.wait.length cap A (bwd d.wait hw5) (bwd_len _ _) (by have := HD0.out.ok.sum; unfold Dk.sum at this; omega) X (by omega) (Nat.le_refl _) BS.cell hcap
    (fun k hk => by
      have hk' : k < d.wait.length := by rwa [bwd_len] at hk
      obtain ⟨e1, e2⟩ := bwd_get d.wait hw5 k hk
      obtain ⟨q, hq, _⟩ := hrg X (Below.refl _ _) (by omega)
      refine ⟨e1, q, hq, fun W' hW' => ?_⟩
      obtain ⟨q', hq', hr'⟩ := hrg W' hW' (by omega)
      rw [hq] at hq'
      injection hq' with hq'
      injection hq' with hq'
      subst hq'
      rw [e2]
      exact range_mid hw5 hr' (by omega))
  have HRG := Lib.hid hrg
  clear hrg L0 B5 B3 bl c2 HD BC hs3
  have HW5 := Lib.hid hw5
  refine wpIn_rangeFunc_ownH rfl (by decide) (gf := 75) (lb := #[.pointer (some ⟨w.heap.size + 1 + 1 + 1, 0, none⟩)]) rfl trivial (enters_of Try.func75 (by kernel_rfl) rfl)
    hbs belowK_t (belowK_b (Nat.le_refl _)) (Below.refl _ _) (fun _ => rfl)
    (ReadI w n) (ReadX w n) (readI_own w n _ (by omega)) (readX_own w n _ (by omega)) ⟨⟨L4, B34, B54⟩, bX, by omega, by simp⟩
    (fun x a' W => ∃ Bx, X.heap.size ≤ Bx ∧ LiesW W Bx x.2.1 ∧ a' = { tmps := #[dptr g, .int .i64 n, undef, .pointer (some ⟨w.heap.size, 0, none⟩), .pointer (some ⟨w.heap.size + 1, 0, none⟩), .pointer (some ⟨w.heap.size + 1 + 1, 0, none⟩), .int .i64 0, undef, .pointer (some ⟨Bx, 0, none⟩), dptr g, .int .i64 n, .int .i64 0, .int .i64 0, .bool false, undef, undef, dptr g, .pointer (some ⟨g, 0, none⟩), .pointer (some ⟨g, 2, none⟩), .slice A d.wait.length cap, .func (.func 75) #[] #[.pointer (some ⟨w.heap.size + 1 + 1 + 1, 0, none⟩)], .int .i64 (x.1 : Int), wv x.2.1, undef, undef, undef, undef, undef, undef, undef, undef, undef, undef, undef, undef], defers := [] })
    (fun x a' _ Y Z row hs hg hr => by obtain ⟨Bx, h1, h2, h3⟩ := hs; exact ⟨Bx, h1, liesW_own Bx (fun (_ : Unit) => x.2.1) () Y Z row h2 hg (fun r e => (hr r e).2), h3⟩)
    ?assign ?body ?done ?stop
  case assign =>
    rintro l pre x W K ⟨⟨h1, h2, h3⟩, h4, h6, h5⟩ hK
    have HN := Lib.hid (LiesW.new W (0, zs 512))
    gi_wp2_with (with_reducible refine wpListIn_store_wr rfl _ _ rfl HN.out (zs_len 512) x.2.2 rfl rfl ?_)
    intro w1 hl1 g1
    have bw : Below X.heap.size W w1 := below_row ((Below.refl _ _).alloc (by omega) _) g1 (by simp; omega) (by omega)
    gi_wp2
    exact hK _ _ (((KeepsOthers.alloc _ _).from _).trans (keeps_row g1 HN.out)) bw
      ⟨⟨(h1.alloc _).but g1 (fun e => by injection e with e; omega), (h2.alloc _).kept g1 (fun e => by injection e with e; omega), (h3.alloc _).kept g1 (fun e => by injection e with e; omega)⟩, h4.trans (bw.mono (by omega)), Nat.le_trans h6 bw.size, h5⟩
      ⟨W.heap.size, by omega, hl1, rfl⟩
  case body =>
    rintro l pre ⟨xi, ⟨xn, xb⟩, x5⟩ a' W hl ⟨r, hr⟩ ⟨⟨h1, h2, h3⟩, h4, h6, h5⟩ ⟨Bx, hBx, hlx, rfl⟩ hlt
    have c0 := hlx.c0
    have c3 := h2.cell
    dsimp only at c0
    by_cases hm : xn = n
    · subst hm
      have HR := Lib.hid (run_loadAt_mid (P := Try.prog) W Bx 1 25 (bc xb) _ hlx.range Try.underlying25 rfl (by rw [info_blk, bc_length, x5]))
      have H1 := Lib.hid h1
      have B5 := Lib.hid h3
      have B4 := Lib.hid h4
      have hne5 : some (w.heap.size + 1 + 1) ≠ some (w.heap.size + 1) := fun e => by injection e with e; omega
      clear hlx h1 h2 h3 h4
      gi_wp2_with (first | (with_reducible refine wpListIn_load_at (v := blk xb) rfl _ rfl HR.out rfl ?_) | (with_reducible refine wpListIn_store_blk (m := xb) rfl _ _ rfl H1.out (zs_len 512) x5 rfl rfl ?_; intro w1 hl1 g1; have hb5 := B5.out.kept g1 hne5; have c5 := hb5.cell; have f5 := hb5.frozen))
      have hkr := keeps_row (B := X.heap.size) g1 H1.out
      exact ⟨hkr.trans ((KeepsOthers.setCell _ _ _).from _), pre, (xi, ⟨(xn, xb), x5⟩), rfl, rfl, rfl, h5, hl1.setOther _ _ (by show w.heap.size + 1 ≠ w.heap.size + 1 + 1; omega), hb5.set _, (below_row B4.out g1 B4.out.size (by omega)).setCell (p := ⟨w.heap.size + 1 + 1, 0, none⟩) (by show w.heap.size ≤ w.heap.size + 1 + 1; omega) _⟩
    · gi_wp2
      refine ⟨KeepsFrom.refl _ _, Below.refl _ _, ⟨h1, h2, h3⟩, h4, h6, fun y hy => ?_⟩
      rcases List.mem_append.1 hy with hy | hy
      · exact h5 y hy
      · obtain rfl := List.mem_singleton.1 hy
        exact hm
  case done =>
    rintro D ys W hD rfl ⟨⟨h1, h2, h3⟩, h4, h6, h5⟩ hK
    have D1 := HD0.out.stay (w' := W) (fun k hk _ => h4.block k hk)
    have c1 := D1.box.cells.2.1
    have c3 := h2.cell
    have hlk := (D1.map.run_lookup hn0).1
    have H1 := Lib.hid h1
    have HB5 := Lib.hid h3
    have HB4 := Lib.hid h4
    have HM := Lib.hid D1.map
    clear h1 h2 h3 h4 D1
    gi_wp2
    refine wpIn_wide.2 ?_
    refine Code.wp_mono (only_mono) ?_
    have hX' : W.drew.cell? ⟨g, 1, none⟩ = some (.map (some m)) ∧ W.drew.cell? ⟨w.heap.size, 0, none⟩ = some (.int .i64 n) ∧ MapOn W.drew m d.on d.many := ⟨c1, c3, HM.out.block rfl⟩
    have hgl := HD0.out.box.lt
    have hml := HD0.out.map.lt
    have hLd : Lies W.drew (w.heap.size + 1) (zs 512) := H1.out
    have hBd : Boxed W.drew (w.heap.size + 1 + 1) 26 (.int .i64 0) := HB5.out
    have hbd : Below w.heap.size w W.drew := HB4.out.drew
    have hKd : W.drew.heap[D]? = some (.deferred (some [])) := hK
    refine wp_region_held_drew (S := fun W => W.cell? ⟨g, 1, none⟩ = some (.map (some m)) ∧ W.cell? ⟨w.heap.size, 0, none⟩ = some (.int .i64 n) ∧ MapOn W m d.on d.many) (by kernel_rfl) hX' (fun hHeld => ?_)
    generalize W.drew = V0 at *
    clear c1 c3 hlk HM H1 HB5 HB4
    refine wpAnyH_take (i := 0) (oi := _) (v := ?_) rfl (by kernel_rfl) (by kernel_rfl) (by kernel_rfl) (fun _ _ _ h => h) (Or.inl ⟨by rfl, ?_⟩) (by assumption) ?_
    rotate_left
    · (intro w hSw; (try dsimp only at hSw); (try go_split_ands); go_simp; (try with_reducible rfl))
    (try simp only [List.getElem_toArray, List.getElem_cons_zero, List.getElem_cons_succ, Act.put, List.setIfInBounds_toArray, List.set_cons_zero, List.set_cons_succ])
    refine wpAnyH_take (i := 1) (oi := _) (v := ?_) rfl (by kernel_rfl) (by kernel_rfl) (by kernel_rfl) (fun _ _ _ h => h) (Or.inl ⟨by rfl, ?_⟩) (by assumption) ?_
    rotate_left
    · (intro w hSw; (try dsimp only at hSw); (try go_split_ands); go_simp; (try with_reducible rfl))
    (try simp only [List.getElem_toArray, List.getElem_cons_zero, List.getElem_cons_succ, Act.put, List.setIfInBounds_toArray, List.set_cons_zero, List.set_cons_succ])
    refine wpAnyH_take (i := 2) (oi := _) (v := ?_) rfl (by kernel_rfl) (by kernel_rfl) (by kernel_rfl) (fun _ _ _ h => h) (Or.inl ⟨by rfl, ?_⟩) (by assumption) ?_
    rotate_left
    · (intro w hSw; (try dsimp only at hSw); (try go_split_ands); go_simp; (try with_reducible rfl))
    (try simp only [List.getElem_toArray, List.getElem_cons_zero, List.getElem_cons_succ, Act.put, List.setIfInBounds_toArray, List.set_cons_zero, List.set_cons_succ])
    refine wpAnyH_take (i := 3) (oi := _) (v := ?_) rfl (by kernel_rfl) (by kernel_rfl) (by kernel_rfl) (fun _ _ _ h => h) (Or.inl ⟨by rfl, ?_⟩) (by assumption) ?_
    rotate_left
    · (intro w hSw; (try dsimp only at hSw); (try go_split_ands); go_simp; (try with_reducible rfl))
    (try simp only [List.getElem_toArray, List.getElem_cons_zero, List.getElem_cons_succ, Act.put, List.setIfInBounds_toArray, List.set_cons_zero, List.set_cons_succ])
    refine wpAnyH_take (i := 4) (oi := _) (v := ?_) rfl (by kernel_rfl) (by kernel_rfl) (by kernel_rfl) (fun _ _ _ h => h) (Or.inl ⟨by rfl, ?_⟩) (by assumption) ?_
    rotate_left
    · (intro w hSw; (try dsimp only at hSw); (try go_split_ands); go_simp; (try with_reducible rfl))
    (try simp only [List.getElem_toArray, List.getElem_cons_zero, List.getElem_cons_succ, Act.put, List.setIfInBounds_toArray, List.set_cons_zero, List.set_cons_succ])
    refine wpAnyH_take (i := 5) (oi := _) (v := blk (d.on n)) rfl (by kernel_rfl) (by kernel_rfl) (by kernel_rfl) (fun _ _ _ h => h) (yieldsIf_lookup (by rfl) _ _ rfl rfl rfl hn0 (fun W hW => hW.2.2)) (by assumption) ?_
    (try simp only [List.getElem_toArray, List.getElem_cons_zero, List.getElem_cons_succ, Act.put, List.setIfInBounds_toArray, List.set_cons_zero, List.set_cons_succ])
    refine wpAnyH_ready (rs := [6]) (by kernel_rfl) (by simp) ?_
    refine AllReadyH.cons (o := _) rfl (fun K hK => ?_) AllReadyH.nil
    (try simp only [List.getElem_toArray, List.getElem_cons_zero, List.getElem_cons_succ])
    rw [if_pos (by rfl)]
    refine wp_store_blkD (m := d.on n) rfl rfl rfl hLd (zs_len 512) (HD0.out.ok.on n) ?_
    have hL1 : Lies (V0.setRow (w.heap.size + 1) (ac (d.on n))) (w.heap.size + 1) (d.on n) := setRow_heap V0 _ _ _ _ _ hLd
    have g1 := wb_row (w := V0) (w.heap.size + 1) (ac (d.on n))
    generalize V0.setRow (w.heap.size + 1) (ac (d.on n)) = V1 at *
    have hS1 : V1.cell? ⟨g, 1, none⟩ = some (.map (some m)) ∧ V1.cell? ⟨w.heap.size, 0, none⟩ = some (.int .i64 n) ∧ MapOn V1 m d.on d.many :=
      ⟨g1.cell (a := ⟨g, 1, none⟩) hHeld.1 (fun e => by have e : g = w.heap.size + 1 := Option.some.inj e; omega), g1.cell (a := ⟨w.heap.size, 0, none⟩) hHeld.2.1 (fun e => by have e : w.heap.size = w.heap.size + 1 := Option.some.inj e; omega), hHeld.2.2.block (g1.block m (by have := hbd.size; omega) (fun e => by injection e with e; omega))⟩
    have hB1 := hBd.kept g1 (fun e => by injection e with e; omega)
    have hK1 := (g1.block D (Array.getElem?_eq_some_iff.1 hKd).1 (fun e => by injection e with e; omega)).trans hKd
    have hb1 := below_row hbd g1 hbd.size (by omega)
    refine hK.out _ _ (hS1) (fun hHeld => ?_)
    clear hK K
    (try simp only [List.getElem_toArray, List.getElem_cons_zero, List.getElem_cons_succ, Act.put, List.setIfInBounds_toArray, List.set_cons_zero, List.set_cons_succ])
    refine wpAnyH_ready (rs := [7]) (by kernel_rfl) (by simp) ?_
    refine AllReadyH.cons (o := _) rfl (fun K hK => ?_) AllReadyH.nil
    (try simp only [List.getElem_toArray, List.getElem_cons_zero, List.getElem_cons_succ])
    have c5 := hB1.cell
    have f5 := hB1.frozen
    go_simp
    have hS2 : (V1.setCell ⟨w.heap.size + 1 + 1, 0, none⟩ (.int .i64 0)).cell? ⟨g, 1, none⟩ = some (.map (some m)) ∧ (V1.setCell ⟨w.heap.size + 1 + 1, 0, none⟩ (.int .i64 0)).cell? ⟨w.heap.size, 0, none⟩ = some (.int .i64 n) ∧ MapOn (V1.setCell ⟨w.heap.size + 1 + 1, 0, none⟩ (.int .i64 0)) m d.on d.many := by
      refine ⟨?_, ?_, hS1.2.2.block (heap_setCell_other _ _ _ _ (by show m ≠ w.heap.size + 1 + 1; omega))⟩
      · rw [World.cell?_of_block (heap_setCell_other _ _ _ _ (by show g ≠ w.heap.size + 1 + 1; omega))]
        exact hS1.1
      · rw [World.cell?_of_block (heap_setCell_other _ _ _ _ (by show w.heap.size ≠ w.heap.size + 1 + 1; omega))]
        exact hS1.2.1
    refine hK.out _ _ (hS2) (fun hHeld => ?_)
    clear hK K
    (try simp only [List.getElem_toArray, List.getElem_cons_zero, List.getElem_cons_succ, Act.put, List.setIfInBounds_toArray, List.set_cons_zero, List.set_cons_succ])
    refine wpAnyH_done (by kernel_rfl) ?_ _
    have hB2 := hB1.set (.int .i64 0)
    have hL2 := hL1.setOther ⟨w.heap.size + 1 + 1, 0, none⟩ (.int .i64 0) (by show w.heap.size + 1 ≠ w.heap.size + 1 + 1; omega)
    have hK2 := (heap_setCell_other V1 ⟨w.heap.size + 1 + 1, 0, none⟩ D (.int .i64 0) (by show D ≠ w.heap.size + 1 + 1; omega)).trans hK1
    have hb2 := hb1.setCell (p := ⟨w.heap.size + 1 + 1, 0, none⟩) (by show w.heap.size ≤ w.heap.size + 1 + 1; omega) (.int .i64 0)
    generalize V1.setCell ⟨w.heap.size + 1 + 1, 0, none⟩ (.int .i64 0) = V2 at *
    clear hS1 hS2 hB1 hL1 hK1 hb1 c5 f5
    unfold onlyNormal
    gi_wp2
    refine ⟨by simp, .inl ⟨_, _, rfl, run_takeDeferred hK2, ?_⟩⟩
    have hgp := grownBy_putObj' V2 D (.deferred none)
    refine ⟨_, results_read rfl rfl (hL2.but hgp (fun e => by injection e with e; omega)) (HD0.out.ok.on n) (hB2.kept hgp (fun e => by injection e with e; omega)), ?_, hb2.trans (belowK_b (w := w) (Nat.le_refl _) V2 D _ _ (by omega) hK2 rfl rfl)⟩
    rw [look_none d n hw5 h5]
  case stop =>
    rintro D c pre W hD hp ⟨p, x, rfl, rfl, e1, e2, h1, h3, h4⟩ hK
    gi_wp2
    refine ⟨by simp, .inl ⟨_, _, rfl, run_takeDeferred hK, ?_⟩⟩
    have hgp := grownBy_putObj' W D (.deferred none)
    refine ⟨_, results_read rfl rfl (h1.but hgp (fun e => by injection e with e; omega)) x.2.2 (h3.kept hgp (fun e => by injection e with e; omega)), ?_, h4.trans (belowK_b (w := w) (Nat.le_refl _) W D _ _ (by omega) hK rfl rfl)⟩
    rw [look_some d n hw5 p x hp e1 e2]
end Go.Proofs.Yteoomhkdffnkkaa
