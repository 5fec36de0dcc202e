/- A disk's Copy. Conditions: none. -/
import Derived.Test.YteoomhkdffnkkaaDskCut
namespace Go.Proofs.Yteoomhkdffnkkaa
set_option linter.unusedVariables false
set_option linter.unusedSimpArgs false
open Go.ChangeShapes Go.WideShapes Go.ChangeAt Go.RowKit
set_option maxRecDepth 100000

theorem Box.set1 {w : World} {g b m c : Nat} {v kv : Value} {dd : Bool} (h : Box w g b m v c kv dd) (x : Nat) : Box (w.setCell ⟨g, 1, none⟩ (.map (some x))) g b x v c kv dd := (heap_setCell_same w g 1 _ _ _ h).trans rfl
theorem MapOn.below {w w' : World} {m N : Nat} {f : Int → List UInt8} (h : MapOn w m f N) (hb : Below w.heap.size w w') : MapOn w' m f N := h.block (hb.block _ h.lt)
theorem MapOn.set {w : World} {m N : Nat} {f : Int → List UInt8} (h : MapOn w m f N) (a : Addr) (v : Value) (hne : m ≠ a.block) : MapOn (w.setCell a v) m f N := h.block (heap_setCell_other w a m v hne)
theorem row_below {w w' : World} {B : Nat} {e : TypeId} {size n : Nat} {v : Value} {xs : List Value} (h : w.ownsRow B e size v n xs) (hb : Below w.heap.size w w') : w'.ownsRow B e size v n xs := row_stay h (fun k hk => hb.block k (h.lt k hk).2)
theorem row_set {w : World} {B : Nat} {e t : TypeId} {size n : Nat} {v : Value} {xs : List Value} (h : w.ownsRow B e size v n xs) {cs : Array Value} {fr : Nat × Nat} (a : Addr) (hg : w.heap[a.block]? = some (.cells cs t fr)) (ht : e ≠ t) (x : Value) : (w.setCell a x).ownsRow B e size v n xs :=
  row_stay h (fun k hk => heap_setCell_other w a k x (fun e => row_off h hg ht (hk.trans (congrArg some e))))
theorem ne_wd : (90 : TypeId) ≠ 87 := by decide
theorem ne_bd : (4 : TypeId) ≠ 87 := by decide

set_option maxHeartbeats 6400000 in
theorem Copy_any {fp rp : Nat → Prop} {g : Nat} {d : Dk} (w : World) (h : DiskV w fp rp g d) :
    Calls Try.prog 38 #[dptr g] w fun e w' => ∃ c, e = .returned (dptr c) ∧ w.heap.size ≤ c ∧ DiskV w' (fun k => w.heap.size ≤ k) rp c d ∧ Below w.heap.size w w' := by
  obtain ⟨m, v, kv, D⟩ := h
  obtain ⟨c0, c1, c2, c3, c4, c5⟩ := D.box.cells
  have HD := Lib.hid D
  have cm : ∀ W : World, Below w.heap.size w W → Calls Try.prog 55 #[.map (some m)] W fun e w' => e = .returned (.map (some W.heap.size)) ∧ MapOn w' W.heap.size d.on d.many ∧ Below W.heap.size W w' := fun W hW => cloneM_any W m d.many d.on (D.map.below hW)
  have cw : ∀ W : World, Below w.heap.size w W → Calls Try.prog 57 #[v] W fun e w' => ∃ v', e = .returned v' ∧ w'.ownsRow W.heap.size 90 513 v' d.wait.length (wcells d.wait) ∧ (d.wait = [] → v' = .slice none 0 0) ∧ Below W.heap.size W w' := fun W hW => cloneW_any W v d.wait (row_below D.row hW) D.none (fun p hp => (D.ok.wait p hp).1) (by have := D.ok.sum; unfold Dk.sum at this; omega)
  have GM := Lib.hid cm
  have GW := Lib.hid cw
  have glt := D.box.lt
  have old : ∀ W : World, Below w.heap.size w W → W.cell? ⟨g, 1, none⟩ = some (.map (some m)) ∧ W.cell? ⟨g, 2, none⟩ = some v := fun W hW => ⟨(hW.cell (p := ⟨g, 1, none⟩) glt).trans c1, (hW.cell (p := ⟨g, 2, none⟩) glt).trans c2⟩
  have OLD := Lib.hid old
  have fin : ∀ (W : World) (m' : Nat) (v' : Value), Below w.heap.size w W → Box W w.heap.size d.blocks m' v' d.cut kv d.dead → MapOn W m' d.on d.many → w.heap.size ≤ m' → W.ownsRow w.heap.size 90 513 v' d.wait.length (wcells d.wait) → (d.wait = [] → v' = .slice none 0 0) →
      DiskV W (fun k => w.heap.size ≤ k) rp w.heap.size d := fun W m' v' hB hb hm hm' hr hn =>
    ⟨m', v', kv, D.ok, hb, hm, row_base hr (Nat.zero_le _), hn, row_below D.keep hB, Nat.le_refl _, hm', fun k hk => (hr.lt k hk).1, D.fk⟩
  have FIN := Lib.hid fin
  have hK := D.keep
  obtain ⟨A0, cap0, rfl, _, _, _⟩ := row_form D.row
  obtain ⟨A1, cap1, rfl, _, _, _⟩ := row_form D.keep
  generalize d.blocks = b at *
  generalize d.cut = c at *
  generalize d.dead = dd at *
  clear cm cw old fin D hK
  go_enter Try.func38, Try.ntmps38
  go_wp2_with fail
  have hb0 : Box (w.alloc (.cells #[.int .i64 (b : Int), .map (some m), .slice A0 d.wait.length cap0, .int .i64 (c : Int), .slice A1 d.keep.length cap1, .bool dd] 87)) w.heap.size b m (.slice A0 d.wait.length cap0) c (.slice A1 d.keep.length cap1) dd := heap_alloc_new w _
  have bb0 : Below w.heap.size w (w.alloc (.cells #[.int .i64 (b : Int), .map (some m), .slice A0 d.wait.length cap0, .int .i64 (c : Int), .slice A1 d.keep.length cap1, .bool dd] 87)) := (Below.refl _ _).alloc (Nat.le_refl _) _
  generalize w.alloc (.cells #[.int .i64 (b : Int), .map (some m), .slice A0 d.wait.length cap0, .int .i64 (c : Int), .slice A1 d.keep.length cap1, .bool dd] 87) = X at *
  have hb1 : Box X.drew w.heap.size b m (.slice A0 d.wait.length cap0) c (.slice A1 d.keep.length cap1) dd := hb0
  have bb1 : Below w.heap.size w X.drew := bb0.drew
  have HB0 := Lib.hid hb1
  clear hb0 bb0 hb1 c0 c1 c2 c3 c4 c5
  refine wp_region_held_drew (S := fun W => Below w.heap.size w W ∧ W.cell? ⟨g, 1, none⟩ = some (.map (some m)) ∧ W.cell? ⟨g, 2, none⟩ = some (.slice A0 d.wait.length cap0)) (by kernel_rfl) ⟨bb1, OLD.out _ bb1⟩ (fun hHeld => ?_)
  generalize X.drew = W0 at *
  refine wpAnyH_take (i := 0) (oi := _) (v := ?_) rfl (by kernel_rfl) (by kernel_rfl) (by kernel_rfl) (fun _ _ _ h => h) (Or.inl ⟨by rfl, ?_⟩) (by assumption) ?_
  rotate_left
  · (intro w hSw; (try dsimp only at hSw); (try go_split_ands); go_simp; (try with_reducible rfl))
  (try simp only [List.getElem_toArray, List.getElem_cons_zero, List.getElem_cons_succ, Act.put, List.setIfInBounds_toArray, List.set_cons_zero, List.set_cons_succ])
  refine wpAnyH_take (i := 1) (oi := _) (v := ?_) rfl (by kernel_rfl) (by kernel_rfl) (by kernel_rfl) (fun _ _ _ h => h) (Or.inl ⟨by rfl, ?_⟩) (by assumption) ?_
  rotate_left
  · (intro w hSw; (try dsimp only at hSw); (try go_split_ands); go_simp; (try with_reducible rfl))
  (try simp only [List.getElem_toArray, List.getElem_cons_zero, List.getElem_cons_succ, Act.put, List.setIfInBounds_toArray, List.set_cons_zero, List.set_cons_succ])
  refine wpAnyH_take (i := 2) (oi := _) (v := ?_) rfl (by kernel_rfl) (by kernel_rfl) (by kernel_rfl) (fun _ _ _ h => h) (Or.inl ⟨by rfl, ?_⟩) (by assumption) ?_
  rotate_left
  · (intro w hSw; (try dsimp only at hSw); (try go_split_ands); go_simp; (try with_reducible rfl))
  (try simp only [List.getElem_toArray, List.getElem_cons_zero, List.getElem_cons_succ, Act.put, List.setIfInBounds_toArray, List.set_cons_zero, List.set_cons_succ])
  refine wpAnyH_take (i := 3) (oi := _) (v := ?_) rfl (by kernel_rfl) (by kernel_rfl) (by kernel_rfl) (fun _ _ _ h => h) (Or.inl ⟨by rfl, ?_⟩) (by assumption) ?_
  rotate_left
  · (intro w hSw; (try dsimp only at hSw); (try go_split_ands); go_simp; (try with_reducible rfl))
  (try simp only [List.getElem_toArray, List.getElem_cons_zero, List.getElem_cons_succ, Act.put, List.setIfInBounds_toArray, List.set_cons_zero, List.set_cons_succ])
  refine wpAnyH_take (i := 5) (oi := _) (v := ?_) rfl (by kernel_rfl) (by kernel_rfl) (by kernel_rfl) (fun _ _ _ h => h) (Or.inl ⟨by rfl, ?_⟩) (by assumption) ?_
  rotate_left
  · (intro w hSw; (try dsimp only at hSw); (try go_split_ands); go_simp; (try with_reducible rfl))
  (try simp only [List.getElem_toArray, List.getElem_cons_zero, List.getElem_cons_succ, Act.put, List.setIfInBounds_toArray, List.set_cons_zero, List.set_cons_succ])
  refine wpAnyH_take (i := 6) (oi := _) (v := ?_) rfl (by kernel_rfl) (by kernel_rfl) (by kernel_rfl) (fun _ _ _ h => h) (Or.inl ⟨by rfl, ?_⟩) (by assumption) ?_
  rotate_left
  · (intro w hSw; (try dsimp only at hSw); (try go_split_ands); go_simp; (try with_reducible rfl))
  (try simp only [List.getElem_toArray, List.getElem_cons_zero, List.getElem_cons_succ, Act.put, List.setIfInBounds_toArray, List.set_cons_zero, List.set_cons_succ])
  refine wpAnyH_take (i := 7) (oi := _) (v := ?_) rfl (by kernel_rfl) (by kernel_rfl) (by kernel_rfl) (fun _ _ _ h => h) (Or.inl ⟨by rfl, ?_⟩) (by assumption) ?_
  rotate_left
  · (intro w hSw; (try dsimp only at hSw); (try go_split_ands); go_simp; (try with_reducible rfl))
  (try simp only [List.getElem_toArray, List.getElem_cons_zero, List.getElem_cons_succ, Act.put, List.setIfInBounds_toArray, List.set_cons_zero, List.set_cons_succ])
  refine wpAnyH_take (i := 8) (oi := _) (v := ?_) rfl (by kernel_rfl) (by kernel_rfl) (by kernel_rfl) (fun _ _ _ h => h) (Or.inl ⟨by rfl, ?_⟩) (by assumption) ?_
  rotate_left
  · (intro w hSw; (try dsimp only at hSw); (try go_split_ands); go_simp; (try with_reducible rfl))
  (try simp only [List.getElem_toArray, List.getElem_cons_zero, List.getElem_cons_succ, Act.put, List.setIfInBounds_toArray, List.set_cons_zero, List.set_cons_succ])
  refine wpAnyH_ready (rs := [4]) (by kernel_rfl) (by simp) ?_
  refine AllReadyH.cons (o := _) rfl (fun K hK => ?_) AllReadyH.nil
  (try simp only [List.getElem_toArray, List.getElem_cons_zero, List.getElem_cons_succ])
  go_simp
  refine (GM.out _ bb1).mono ?_; rintro e w1 ⟨rfl, hm1, hw1⟩
  have bb101 : Below w.heap.size w w1 := bb1.trans (hw1.mono bb1.size)
  have BX1 := Lib.hid (HB0.out.below hw1)
  have MX1 := Lib.hid hm1
  have mb1 : w.heap.size < W0.heap.size := HB0.out.lt
  clear hm1 hw1
  refine hK.out _ _ (⟨bb101, OLD.out _ bb101⟩) (fun hHeld => ?_)
  clear hK K
  (try simp only [List.getElem_toArray, List.getElem_cons_zero, List.getElem_cons_succ, Act.put, List.setIfInBounds_toArray, List.set_cons_zero, List.set_cons_succ])
  refine wpAnyH_ready (rs := [9]) (by kernel_rfl) (by simp) ?_
  refine AllReadyH.cons (o := _) rfl (fun K hK => ?_) AllReadyH.nil
  (try simp only [List.getElem_toArray, List.getElem_cons_zero, List.getElem_cons_succ])
  go_simp
  refine (GW.out _ bb101).mono ?_; rintro e w2 ⟨_, rfl, hr2, hn2, hw2⟩
  obtain ⟨A2, c2, rfl, _, _, _⟩ := row_form hr2
  have bb102 : Below w.heap.size w w2 := bb101.trans (hw2.mono bb101.size)
  have BX2 := Lib.hid (BX1.out.below hw2)
  have RX2 := Lib.hid (row_base hr2 bb101.size)
  have NX2 := Lib.hid hn2
  have MX2 := Lib.hid (MX1.out.below hw2)
  clear hr2 hn2 hw2
  refine hK.out _ _ (⟨bb102, OLD.out _ bb102⟩) (fun hHeld => ?_)
  clear hK K
  (try simp only [List.getElem_toArray, List.getElem_cons_zero, List.getElem_cons_succ, Act.put, List.setIfInBounds_toArray, List.set_cons_zero, List.set_cons_succ])
  refine wpAnyH_take (i := 10) (oi := _) (v := ?_) rfl (by kernel_rfl) (by kernel_rfl) (by kernel_rfl) (fun _ _ _ h => h) (Or.inl ⟨by rfl, ?_⟩) (by assumption) ?_
  rotate_left
  · (intro w hSw; (try dsimp only at hSw); (try go_split_ands); go_simp; (try with_reducible rfl))
  (try simp only [List.getElem_toArray, List.getElem_cons_zero, List.getElem_cons_succ, Act.put, List.setIfInBounds_toArray, List.set_cons_zero, List.set_cons_succ])
  refine wpAnyH_ready (rs := [11]) (by kernel_rfl) (by simp) ?_
  refine AllReadyH.cons (o := _) rfl (fun K hK => ?_) AllReadyH.nil
  (try simp only [List.getElem_toArray, List.getElem_cons_zero, List.getElem_cons_succ])
  obtain ⟨_, q3a, q3b, _, _, _⟩ := BX2.out.cells
  have f3 := BX2.out.free 1
  go_simp
  have bb103 := bb102.setCell (p := ⟨w.heap.size, 1, none⟩) (Nat.le_refl _) (.map (some W0.heap.size))
  have BX3 := Lib.hid (BX2.out.set1 W0.heap.size)
  have MX3 := Lib.hid (MX2.out.set ⟨w.heap.size, 1, none⟩ (.map (some W0.heap.size)) (Nat.ne_of_gt mb1))
  have RX3 := Lib.hid (row_set RX2.out ⟨w.heap.size, 1, none⟩ BX2.out ne_wd (.map (some W0.heap.size)))
  clear q3a q3b f3
  refine hK.out _ _ (⟨bb103, OLD.out _ bb103⟩) (fun hHeld => ?_)
  clear hK K
  (try simp only [List.getElem_toArray, List.getElem_cons_zero, List.getElem_cons_succ, Act.put, List.setIfInBounds_toArray, List.set_cons_zero, List.set_cons_succ])
  generalize (w2.setCell ⟨w.heap.size, 1, none⟩ (.map (some W0.heap.size))) = w3 at *
  refine wpAnyH_take (i := 12) (oi := _) (v := ?_) rfl (by kernel_rfl) (by kernel_rfl) (by kernel_rfl) (fun _ _ _ h => h) (Or.inl ⟨by rfl, ?_⟩) (by assumption) ?_
  rotate_left
  · (intro w hSw; (try dsimp only at hSw); (try go_split_ands); go_simp; (try with_reducible rfl))
  (try simp only [List.getElem_toArray, List.getElem_cons_zero, List.getElem_cons_succ, Act.put, List.setIfInBounds_toArray, List.set_cons_zero, List.set_cons_succ])
  refine wpAnyH_ready (rs := [13]) (by kernel_rfl) (by simp) ?_
  refine AllReadyH.cons (o := _) rfl (fun K hK => ?_) AllReadyH.nil
  (try simp only [List.getElem_toArray, List.getElem_cons_zero, List.getElem_cons_succ])
  obtain ⟨_, q4a, q4b, _, _, _⟩ := BX3.out.cells
  have f4 := BX3.out.free 2
  go_simp
  have bb104 := bb103.setCell (p := ⟨w.heap.size, 2, none⟩) (Nat.le_refl _) (.slice A2 d.wait.length c2)
  have BX4 := Lib.hid (BX3.out.set2 (.slice A2 d.wait.length c2))
  have MX4 := Lib.hid (MX3.out.set ⟨w.heap.size, 2, none⟩ (.slice A2 d.wait.length c2) (Nat.ne_of_gt mb1))
  have RX4 := Lib.hid (row_set RX3.out ⟨w.heap.size, 2, none⟩ BX3.out ne_wd (.slice A2 d.wait.length c2))
  clear q4a q4b f4
  refine hK.out _ _ (⟨bb104, OLD.out _ bb104⟩) (fun hHeld => ?_)
  clear hK K
  (try simp only [List.getElem_toArray, List.getElem_cons_zero, List.getElem_cons_succ, Act.put, List.setIfInBounds_toArray, List.set_cons_zero, List.set_cons_succ])
  generalize (w3.setCell ⟨w.heap.size, 2, none⟩ (.slice A2 d.wait.length c2)) = w4 at *
  refine wpAnyH_done (by kernel_rfl) ?_ _
  go_wp2_with fail
  go_ret
  exact ⟨_, rfl, Nat.le_refl _, FIN.out _ _ _ bb104 BX4.out MX4.out (Nat.le_of_lt mb1) RX4.out NX2.out, bb104⟩
end Go.Proofs.Yteoomhkdffnkkaa
