/- A disk's New, Cut, Boot. Conditions: none. -/
import Derived.Test.YteoomhkdffnkkaaDskClone
namespace Go.Proofs.Yteoomhkdffnkkaa
set_option linter.unusedVariables false
set_option linter.unusedSimpArgs false
open Go.ChangeShapes Go.WideShapes Go.ChangeAt Go.RowKit
set_option maxRecDepth 100000

theorem New_bad (n : Int) (w : World) (hn : n < 64 ∨ 8192 < n) : Calls Try.prog 20 #[.int .i64 n] w fun e w' => e = .returned (.tuple #[.pointer none, .int .i64 1]) ∧ w = w' := by
  by_cases h1 : n < 64
  · clear hn
    go_enter Try.func20, Try.ntmps20
    go_wp2_with fail
    go_returns
    exact ⟨rfl, rfl⟩
  · have h2 : 8192 < n := hn.resolve_left h1
    clear hn
    go_enter Try.func20, Try.ntmps20
    go_wp2_with fail
    go_returns
    exact ⟨rfl, rfl⟩
theorem New_any (rp : Nat → Prop) (n : Int) (w : World) (h1 : 64 ≤ n) (h2 : n ≤ 8192) :
    Calls Try.prog 20 #[.int .i64 n] w fun e w' => e = .returned (.tuple #[dptr (w.heap.size + 1), .int .i64 0]) ∧ DiskV w' (fun k => w.heap.size ≤ k) rp (w.heap.size + 1) (Dk.new n.toNat) ∧ Below w.heap.size w w' := by
  have e1 : ¬ n < 64 := by omega
  have e2 : ¬ 8192 < n := by omega
  have hmm := @run_makeMap Try.prog
  go_enter Try.func20, Try.ntmps20
  go_wp2_with fail
  go_returns
  have hn : ((n.toNat : Nat) : Int) = n := Int.toNat_of_nonneg (by omega)
  have hm := (MapOn.new w)
  refine ⟨rfl, ⟨w.heap.size, .slice none 0 0, .slice none 0 0, Dk.Ok.new (by omega), ?_, hm.block (heap_alloc_old _ _ (by simp)), World.ownsRow_nil _ _ _ _, fun _ => rfl, World.ownsRow_nil _ _ _ _, Nat.le_succ _, Nat.le_refl _, fun k hk => (by cases hk), fun k hk => (by cases hk)⟩, by repeat' (first | (with_reducible exact Below.refl _ _) | (with_reducible assumption) | (with_reducible refine below_drewN ?_ _) | (with_reducible refine Below.alloc ?_ ?_ _) | (with_reducible refine Below.drew ?_) | (with_reducible refine Below.setCell ?_ ?_ _) | go_size)⟩
  unfold Box Dk.new
  rw [hn]
  have := heap_alloc_new (w.alloc (.map #[] 0)) (.cells #[.int .i64 n, .map (some w.heap.size), .slice none 0 0, .int .i64 0, .slice none 0 0, .bool false] 87)
  simpa using this

set_option maxHeartbeats 800000 in
theorem Cut_any {fp rp : Nat → Prop} {g : Nat} {d : Dk} (n : Int) (v : Value) (k : List Bool) (w : World) (h : DiskV w fp rp g d) (hk : BoolsV w v k) (hk5 : k.length ≤ 140737488355328) (hn : n < 9223372036854775808) :
    Calls Try.prog 31 #[dptr g, .int .i64 n, v] w fun e w' => e = .returned (.int .i64 (d.sayCutE n)) ∧ DiskV w' fp (fun i => rp i ∨ w.heap.size ≤ i) g (d.sayCut n k) ∧ GrownIn w w' fp := by
  obtain ⟨m, vs, kv, D⟩ := h
  have HK := Lib.hid (D.ok.sayCut hn (k := k) (by omega))
  have CK := Lib.hid (check_cell w D.box.cells.2.2.2.2.2)
  have HD := Lib.hid D
  have CC := Lib.hid (cloneB_any w v k hk hk5)
  have keep : DiskV w fp (fun i => rp i ∨ w.heap.size ≤ i) g d := ⟨m, vs, kv, D.mono (fun _ _ h => h) (fun k _ h => .inl h)⟩
  have HKP := Lib.hid keep
  unfold Dk.sayCutE Dk.sayCut at *
  generalize hdd : d.dead = dd at *
  clear D keep hk
  cases dd with
  | true =>
    rw [if_pos rfl] at CK
    rw [if_pos rfl, if_pos rfl]
    go_enter Try.func31, Try.ntmps31
    go_wp2_with fail
    refine (CK.out).mono ?_; rintro e w' ⟨rfl, rfl⟩
    go_wp2_with fail
    go_ret
    exact ⟨rfl, HKP.out, GrownIn.refl _ _⟩
  | false =>
    by_cases h0 : n < 0
    · rw [if_pos h0, if_pos h0]
      rw [if_neg (by decide)] at CK
      rw [if_neg (by decide), if_neg (by decide)]
      go_enter Try.func31, Try.ntmps31
      go_wp2_with fail
      refine (CK.out).mono ?_; rintro e w' ⟨rfl, rfl⟩
      go_wp2_with fail
      go_ret
      exact ⟨rfl, HKP.out, GrownIn.refl _ _⟩
    · rw [if_neg h0] at HK
      rw [if_neg h0, if_neg h0]
      rw [if_neg (by decide)] at HK
      rw [if_neg (by decide)] at CK
      rw [if_neg (by decide), if_neg (by decide)]
      go_enter Try.func31, Try.ntmps31
      go_wp2_with fail
      refine (CK.out).mono ?_; rintro e w' ⟨rfl, rfl⟩
      go_wp2_with fail
      refine CC.out.mono ?_; rintro e w1 ⟨v', rfl, hr, hw⟩
      obtain ⟨A', c', rfl, _, _, _⟩ := row_form hr
      have D1 := HD.out.box.below hw
      obtain ⟨_, _, _, c3, c4, _⟩ := D1.cells
      have f3 := D1.free 3
      have f4 := D1.free 4
      have HB := Lib.hid D1
      have HR := Lib.hid hr
      have HW := Lib.hid hw
      have hnn : ((n.toNat : Nat) : Int) = n := Int.toNat_of_nonneg (by omega)
      have HNN := Lib.hid hnn
      clear hr hw D1 hnn
      go_wp2_with fail
      go_ret
      have D := HD.out
      have b1 : Box ((w1.setCell ⟨g, 3, none⟩ (.int .i64 n)).setCell ⟨g, 4, none⟩ (.slice A' k.length c')) g d.blocks m vs n.toNat (.slice A' k.length c') d.dead := by
        have := (HB.out.set3 n.toNat).set4 (.slice A' k.length c')
        rwa [HNN.out] at this
      rw [hdd] at b1
      have gr : GrownIn w ((w1.setCell ⟨g, 3, none⟩ (.int .i64 n)).setCell ⟨g, 4, none⟩ (.slice A' k.length c')) fp :=
        ((GrownIn.of HW.out).trans (GrownIn.set (a := ⟨g, 3, none⟩) _ (.inl D.fg))).trans (GrownIn.set (a := ⟨g, 4, none⟩) _ (.inl D.fg))
      have hk' : ∀ q, q ≠ g → q < w.heap.size → ((w1.setCell ⟨g, 3, none⟩ (.int .i64 n)).setCell ⟨g, 4, none⟩ (.slice A' k.length c')).heap[q]? = w.heap[q]? := fun q hq hl => by
        rw [heap_setCell_other _ _ _ _ hq, heap_setCell_other _ _ _ _ hq]
        exact HW.out.block q hl
      have mg : m ≠ g := by
        intro e
        subst e
        obtain ⟨es, c, he⟩ := D.map.is
        have := D.box
        unfold Box at this
        rw [he] at this
        cases this
      refine ⟨rfl, ⟨m, vs, (.slice A' k.length c'), HK.out, b1, D.map.block (hk' m mg D.map.lt), row_stay D.row (fun q hq => hk' q (fun e => row_off D.row D.box (by decide) (hq.trans (congrArg some e))) (D.row.lt q hq).2), D.none, ?_, D.fg, D.fm, D.fv, fun q hq => .inr (HR.out.lt q hq).1⟩, gr⟩
      refine row_stay (row_base HR.out (Nat.zero_le _)) (fun q hq => ?_)
      have hq' : q ≠ g := fun e => by have := (HR.out.lt q hq).1; have := D.box.lt; omega
      rw [heap_setCell_other _ _ _ _ hq', heap_setCell_other _ _ _ _ hq']

theorem Cut_nil (n : Int) (v : Value) (w : World) : Calls Try.prog 31 #[.pointer none, .int .i64 n, v] w fun e w' => e = .returned (.int .i64 2) ∧ w = w' := by
  go_enter Try.func31, Try.ntmps31
  go_wp2_with fail
  refine (check_nil w).mono ?_; rintro e w' ⟨rfl, rfl⟩
  go_wp2_with fail
  go_ret
  exact ⟨rfl, rfl⟩
theorem Boot_nil (w : World) : Calls Try.prog 34 #[.pointer none] w fun e w' => e = .returned (.tuple #[.pointer none, .int .i64 2]) ∧ w = w' := by
  go_enter Try.func34, Try.ntmps34
  go_wp2_with fail
  go_returns
  exact ⟨rfl, rfl⟩
theorem Boot_not {fp rp : Nat → Prop} {g : Nat} {d : Dk} (w : World) (h : DiskV w fp rp g d) (hd : d.dead = false) : Calls Try.prog 34 #[dptr g] w fun e w' => e = .returned (.tuple #[.pointer none, .int .i64 50]) ∧ w = w' := by
  obtain ⟨m, v, kv, D⟩ := h
  obtain ⟨_, _, _, _, _, c5⟩ := D.box.cells
  rw [hd] at c5
  go_enter Try.func34, Try.ntmps34
  go_wp2_with fail
  go_returns
  exact ⟨rfl, rfl⟩
set_option maxHeartbeats 3200000 in
theorem Boot_any (rq : Nat → Prop) {fp rp : Nat → Prop} {g : Nat} {d : Dk} (w : World) (h : DiskV w fp rp g d) (hd : d.dead = true) :
    Calls Try.prog 34 #[dptr g] w fun e w' => ∃ c, e = .returned (.tuple #[dptr c, .int .i64 0]) ∧ DiskV w' (fun k => w.heap.size ≤ k) rq c d.boot ∧ Below w.heap.size w w' := by
  obtain ⟨m, v, kv, D⟩ := h
  obtain ⟨c0, c1, _, _, _, c5⟩ := D.box.cells
  rw [hd] at c5
  have glt := D.box.lt
  have old : ∀ W : World, Below w.heap.size w W → W.cell? ⟨g, 0, none⟩ = some (.int .i64 (d.blocks : Int)) ∧ W.cell? ⟨g, 1, none⟩ = some (.map (some m)) := fun W hW => ⟨(hW.cell (p := ⟨g, 0, none⟩) glt).trans c0, (hW.cell (p := ⟨g, 1, none⟩) glt).trans c1⟩
  have OLD := Lib.hid old
  have HO := Lib.hid D.ok.boot
  have CM := Lib.hid (cloneM_any w m d.many d.on D.map)
  have cm : ∀ W : World, Below w.heap.size w W → Calls Try.prog 55 #[.map (some m)] W fun e w' => e = .returned (.map (some W.heap.size)) ∧ MapOn w' W.heap.size d.on d.many ∧ Below W.heap.size W w' := fun W hW => cloneM_any W m d.many d.on (D.map.block (hW.block _ D.map.lt))
  have GM := Lib.hid cm
  have hbl : d.boot.blocks = d.blocks ∧ d.boot.on = d.on ∧ d.boot.many = d.many ∧ d.boot.wait = [] ∧ d.boot.cut = 0 ∧ d.boot.keep = [] ∧ d.boot.dead = false := ⟨rfl, rfl, rfl, rfl, rfl, rfl, rfl⟩
  have HBL := Lib.hid hbl
  generalize d.boot = d' at *
  generalize d.blocks = b at *
  clear hbl cm old D CM
  go_enter Try.func34, Try.ntmps34
  go_wp2_with fail
  have bb0 : Below w.heap.size w w.drew := (Below.refl _ _).drew
  clear c0 c1 c5
  refine wp_region_held_drew (S := fun W => Below w.heap.size w W ∧ W.cell? ⟨g, 0, none⟩ = some (.int .i64 (b : Int)) ∧ W.cell? ⟨g, 1, none⟩ = some (.map (some m))) (by kernel_rfl) ⟨bb0, OLD.out _ bb0⟩ (fun hHeld => ?_)
  generalize w.drew = W0 at *
  refine wpAnyH_take (i := 0) (oi := _) (v := ?_) rfl (by kernel_rfl) (by kernel_rfl) (by kernel_rfl) (fun _ _ _ h => h) (Or.inl ⟨by rfl, ?_⟩) (by assumption) ?_
  rotate_left
  · (intro w hSw; (try dsimp only at hSw); (try go_split_ands); go_simp; (try with_reducible rfl))
  (try simp only [List.getElem_toArray, List.getElem_cons_zero, List.getElem_cons_succ, Act.put, List.setIfInBounds_toArray, List.set_cons_zero, List.set_cons_succ])
  refine wpAnyH_take (i := 1) (oi := _) (v := ?_) rfl (by kernel_rfl) (by kernel_rfl) (by kernel_rfl) (fun _ _ _ h => h) (Or.inl ⟨by rfl, ?_⟩) (by assumption) ?_
  rotate_left
  · (intro w hSw; (try dsimp only at hSw); (try go_split_ands); go_simp; (try with_reducible rfl))
  (try simp only [List.getElem_toArray, List.getElem_cons_zero, List.getElem_cons_succ, Act.put, List.setIfInBounds_toArray, List.set_cons_zero, List.set_cons_succ])
  refine wpAnyH_take (i := 2) (oi := _) (v := ?_) rfl (by kernel_rfl) (by kernel_rfl) (by kernel_rfl) (fun _ _ _ h => h) (Or.inl ⟨by rfl, ?_⟩) (by assumption) ?_
  rotate_left
  · (intro w hSw; (try dsimp only at hSw); (try go_split_ands); go_simp; (try with_reducible rfl))
  (try simp only [List.getElem_toArray, List.getElem_cons_zero, List.getElem_cons_succ, Act.put, List.setIfInBounds_toArray, List.set_cons_zero, List.set_cons_succ])
  refine wpAnyH_take (i := 3) (oi := _) (v := ?_) rfl (by kernel_rfl) (by kernel_rfl) (by kernel_rfl) (fun _ _ _ h => h) (Or.inl ⟨by rfl, ?_⟩) (by assumption) ?_
  rotate_left
  · (intro w hSw; (try dsimp only at hSw); (try go_split_ands); go_simp; (try with_reducible rfl))
  (try simp only [List.getElem_toArray, List.getElem_cons_zero, List.getElem_cons_succ, Act.put, List.setIfInBounds_toArray, List.set_cons_zero, List.set_cons_succ])
  refine wpAnyH_take (i := 4) (oi := _) (v := ?_) rfl (by kernel_rfl) (by kernel_rfl) (by kernel_rfl) (fun _ _ _ h => h) (Or.inl ⟨by rfl, ?_⟩) (by assumption) ?_
  rotate_left
  · (intro w hSw; (try dsimp only at hSw); (try go_split_ands); go_simp; (try with_reducible rfl))
  (try simp only [List.getElem_toArray, List.getElem_cons_zero, List.getElem_cons_succ, Act.put, List.setIfInBounds_toArray, List.set_cons_zero, List.set_cons_succ])
  refine wpAnyH_take (i := 5) (oi := _) (v := ?_) rfl (by kernel_rfl) (by kernel_rfl) (by kernel_rfl) (fun _ _ _ h => h) (Or.inl ⟨by rfl, ?_⟩) (by assumption) ?_
  rotate_left
  · (intro w hSw; (try dsimp only at hSw); (try go_split_ands); go_simp; (try with_reducible rfl))
  (try simp only [List.getElem_toArray, List.getElem_cons_zero, List.getElem_cons_succ, Act.put, List.setIfInBounds_toArray, List.set_cons_zero, List.set_cons_succ])
  refine wpAnyH_take (i := 6) (oi := _) (v := ?_) rfl (by kernel_rfl) (by kernel_rfl) (by kernel_rfl) (fun _ _ _ h => h) (Or.inl ⟨by rfl, ?_⟩) (by assumption) ?_
  rotate_left
  · (intro w hSw; (try dsimp only at hSw); (try go_split_ands); go_simp; (try with_reducible rfl))
  (try simp only [List.getElem_toArray, List.getElem_cons_zero, List.getElem_cons_succ, Act.put, List.setIfInBounds_toArray, List.set_cons_zero, List.set_cons_succ])
  refine wpAnyH_take (i := 7) (oi := _) (v := ?_) rfl (by kernel_rfl) (by kernel_rfl) (by kernel_rfl) (fun _ _ _ h => h) (Or.inl ⟨by rfl, ?_⟩) (by assumption) ?_
  rotate_left
  · (intro w hSw; (try dsimp only at hSw); (try go_split_ands); go_simp; (try with_reducible rfl))
  (try simp only [List.getElem_toArray, List.getElem_cons_zero, List.getElem_cons_succ, Act.put, List.setIfInBounds_toArray, List.set_cons_zero, List.set_cons_succ])
  refine wpAnyH_ready (rs := [8]) (by kernel_rfl) (by simp) ?_
  refine AllReadyH.cons (o := _) rfl (fun K hK => ?_) AllReadyH.nil
  (try simp only [List.getElem_toArray, List.getElem_cons_zero, List.getElem_cons_succ])
  go_simp
  refine (GM.out _ bb0).mono ?_; rintro e w1 ⟨rfl, hm, hw⟩
  have bb1 : Below w.heap.size w w1 := bb0.trans (hw.mono bb0.size)
  refine hK.out _ _ (⟨bb1, OLD.out _ bb1⟩) (fun hHeld => ?_)
  clear hK K
  (try simp only [List.getElem_toArray, List.getElem_cons_zero, List.getElem_cons_succ, Act.put, List.setIfInBounds_toArray, List.set_cons_zero, List.set_cons_succ])
  refine wpAnyH_take (i := 9) (oi := _) (v := ?_) rfl (by kernel_rfl) (by kernel_rfl) (by kernel_rfl) (fun _ _ _ h => h) (Or.inl ⟨by rfl, ?_⟩) (by assumption) ?_
  rotate_left
  · (intro w hSw; (try dsimp only at hSw); (try go_split_ands); go_simp; (try with_reducible rfl))
  (try simp only [List.getElem_toArray, List.getElem_cons_zero, List.getElem_cons_succ, Act.put, List.setIfInBounds_toArray, List.set_cons_zero, List.set_cons_succ])
  refine wpAnyH_ready (rs := [10]) (by kernel_rfl) (by simp) ?_
  refine AllReadyH.cons (o := _) rfl (fun K hK => ?_) AllReadyH.nil
  (try simp only [List.getElem_toArray, List.getElem_cons_zero, List.getElem_cons_succ])
  go_simp
  have bb2 := bb1.alloc bb1.size (.cells #[.int .i64 (b : Int), .map (some W0.heap.size), .slice none 0 0, .int .i64 0, .slice none 0 0, .bool false] 87)
  refine hK.out _ _ (⟨bb2, OLD.out _ bb2⟩) (fun hHeld => ?_)
  clear hK K
  (try simp only [List.getElem_toArray, List.getElem_cons_zero, List.getElem_cons_succ, Act.put, List.setIfInBounds_toArray, List.set_cons_zero, List.set_cons_succ])
  refine wpAnyH_take (i := 11) (oi := _) (v := ?_) rfl (by kernel_rfl) (by kernel_rfl) (by kernel_rfl) (fun _ _ _ h => h) (Or.inl ⟨by rfl, ?_⟩) (by assumption) ?_
  rotate_left
  · (intro w hSw; (try dsimp only at hSw); (try go_split_ands); go_simp; (try with_reducible rfl))
  (try simp only [List.getElem_toArray, List.getElem_cons_zero, List.getElem_cons_succ, Act.put, List.setIfInBounds_toArray, List.set_cons_zero, List.set_cons_succ])
  refine wpAnyH_take (i := 12) (oi := _) (v := ?_) rfl (by kernel_rfl) (by kernel_rfl) (by kernel_rfl) (fun _ _ _ h => h) (Or.inl ⟨by rfl, ?_⟩) (by assumption) ?_
  rotate_left
  · (intro w hSw; (try dsimp only at hSw); (try go_split_ands); go_simp; (try with_reducible rfl))
  (try simp only [List.getElem_toArray, List.getElem_cons_zero, List.getElem_cons_succ, Act.put, List.setIfInBounds_toArray, List.set_cons_zero, List.set_cons_succ])
  refine wpAnyH_done (by kernel_rfl) ?_ _
  go_wp2_with fail
  go_returns
  obtain ⟨e1, e2, e3, e4, e5, e6, e7⟩ := HBL.out
  refine ⟨_, rfl, ⟨W0.heap.size, .slice none 0 0, .slice none 0 0, HO.out, ?_, ?_, ?_, fun _ => rfl, ?_, bb1.size, bb0.size, fun k hk => (by cases hk), fun k hk => (by cases hk)⟩, bb2⟩
  · rw [e1, e5, e7]
    exact heap_alloc_new w1 _
  · rw [e2, e3]
    exact hm.block (heap_alloc_old _ _ hm.lt)
  · rw [e4]
    exact World.ownsRow_nil _ _ _ _
  · rw [e6]
    exact World.ownsRow_nil _ _ _ _
end Go.Proofs.Yteoomhkdffnkkaa
