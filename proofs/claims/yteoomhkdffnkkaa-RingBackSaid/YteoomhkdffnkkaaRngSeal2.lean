/- ring.Seal, jettyref09.Seal. Conditions: bounds of machine numbers. -/
import Derived.Test.YteoomhkdffnkkaaRngSeal
namespace Go.Proofs.Yteoomhkdffnkkaa
set_option linter.unusedVariables false
set_option linter.unusedSimpArgs false
open Go.ChangeShapes Go.WideShapes Go.ChangeAt Go.RowKit Pl
attribute [local go_sem] ba_toList ba_size zeroValueB
set_option maxRecDepth 100000

theorem wp_store_blk {o : Oper} {a : Act} {w : World} {K : Act → World → Prop} {Q : Exit → Act → World → Prop} {x y : Operand} (ho : o.op = .store 25 x y) {g : Nat} {l m : List UInt8}
    (hx : a.eval x = .pointer (some ⟨g, 0, none⟩)) (hy : a.eval y = blk m) (hl : Lies w g l) (h5 : l.length = 512) (hm : m.length = 512)
    (h : K (a.put o.dst undef) (w.setRow g (ac m))) : o.wp Try.prog a w K Q := by
  unfold Oper.wp execOp
  simp only [ho, hx, hy, Sem.run_bind, run_store_blk hl h5 hm, Sem.run_pure, Result.andThen_ok]
  exact h

set_option maxHeartbeats 6400000 in
theorem ringseal_any (t : Int) (l : List UInt8) (w : World) (hl : l.length ≤ 9223372036854775807) :
    Calls Try.prog 9 #[rootV t l] w fun r w' => r = .returned (.tuple #[blk (rsL t l), .int .i64 (rsE t l)]) ∧ Below w.heap.size w w' := by
  have L0 := Lies.new (w.alloc (.cells #[.int .i64 t, sv l] 29)) (zs 512) (w.heap.size + 1) (by simp)
  have H0 := Lib.hid L0
  clear L0
  by_cases hb : t < 1 ∨ 2147483647 < t
  · have hE : rsE t l = 1 := if_pos hb
    have hL : rsL t l = zs 512 := if_neg (by rw [hE]; decide)
    rw [hE, hL]
    clear hE hL
    by_cases h1 : t < 1
    all_goals
      try have h2 : 2147483647 < t := by omega
      clear hb
      go_enter Try.func9, Try.ntmps9
      go_wp2_with (with_reducible refine wpList_store_blk (m := zs 512) rfl _ _ rfl rfl rfl H0.out (zs_len 512) (zs_len 512) ?_)
      intro w1 h1 g1
      go_wp2_with fail
      have b1 : Below w.heap.size w w1 := below_row (by repeat' (first | (with_reducible exact Below.refl _ _) | (with_reducible assumption) | (with_reducible refine below_drewN ?_ _) | (with_reducible refine Below.alloc ?_ ?_ _) | (with_reducible refine Below.drew ?_) | (with_reducible refine Below.setCell ?_ ?_ _) | go_size)) g1 (by go_size) (by omega)
      refine bodyPost_ret (results_blk_tmp (p := 2) (q := 3) Try.results9 _ rfl h1 (zs_len 512)) rfl ?_
      exact ⟨rfl, b1⟩
  have hb1 : ¬ t < 1 := by omega
  have hb2 : ¬ 2147483647 < t := by omega
  by_cases h5 : (492 : Int) < (l.length : Int)
  · have hE : rsE t l = 40 := by
      unfold rsE
      rw [if_neg hb, if_pos (by omega)]
    have hL : rsL t l = zs 512 := if_neg (by rw [hE]; decide)
    rw [hE, hL]
    clear hE hL hb
    go_enter Try.func9, Try.ntmps9
    go_wp2_with (with_reducible refine wpList_store_blk (m := zs 512) rfl _ _ rfl rfl rfl H0.out (zs_len 512) (zs_len 512) ?_)
    intro w1 h1 g1
    go_wp2_with fail
    have b1 : Below w.heap.size w w1 := below_row (by repeat' (first | (with_reducible exact Below.refl _ _) | (with_reducible assumption) | (with_reducible refine below_drewN ?_ _) | (with_reducible refine Below.alloc ?_ ?_ _) | (with_reducible refine Below.drew ?_) | (with_reducible refine Below.setCell ?_ ?_ _) | go_size)) g1 (by go_size) (by omega)
    refine bodyPost_ret (results_blk_tmp (p := 2) (q := 3) Try.results9 _ rfl h1 (zs_len 512)) rfl ?_
    exact ⟨rfl, b1⟩
  have hE : rsE t l = 0 := by
    unfold rsE
    rw [if_neg hb, if_neg (by omega)]
  have hsE := sealE_of hE
  have hL : rsL t l = sealL 3 t (rSum l ++ l) := if_pos hE
  have hRl := rSum_len l
  have CS := fun W : World => seal_any 3 t (rSum l ++ l) W (by rw [List.length_append, hRl]; omega)
  have CD := fun W : World => dsum_any l W hl
  have hfl := fnv_lt l (u := fnv0) (by decide)
  have CL : ∀ W : World, Calls Try.prog 39 #[.slice none 0 0, .int .u64 ((fnv fnv0 l : Nat) : Int)] W fun e w' => ∃ v', e = .returned v' ∧ BytesV w' v' (rSum l) ∧ Below W.heap.size W w' := fun W =>
    (Long_any (.slice none 0 0) [] ((fnv fnv0 l : Nat) : Int) W (BytesV.nil W) (by omega) (by omega) (by simp)).mono fun e w' ⟨v', he, hr, hw⟩ => ⟨v', he, by have := hr.bytes; rwa [Int.toNat_natCast, List.nil_append] at this, hw⟩
  have hLl := sealL_len 3 t (rSum l ++ l)
  rw [hE, hL]
  rw [hsE] at CS
  have ad : ∀ W : World, (Op.stringOp .add ⟨(rSum l).toArray⟩ ⟨l.toArray⟩).run Try.prog W = .ok (sv (rSum l ++ l)) W := fun W => by
    have := run_string_add_sum (P := Try.prog) W ⟨(rSum l).toArray⟩ ⟨l.toArray⟩ (by rw [ba_size, ba_size]; omega)
    rwa [ba_app] at this
  generalize sealL 3 t (rSum l ++ l) = L at *
  generalize rSum l = R at *
  generalize fnv fnv0 l = N at *
  have GS := Lib.hid CS
  have GD := Lib.hid CD
  have GL := Lib.hid CL
  have HLl := Lib.hid hLl
  have hi : (Try.prog.info? 25).map (·.size) = some (bc L).length := by rw [info_blk, bc_length, hLl]
  have hc5 : (bc L).length = 512 := by rw [bc_length, hLl]
  have h1c := bc_one L
  have hn1 : (R.length : Int) + (l.length : Int) ≤ 9223372036854775807 := by omega
  have old : ∀ W : World, Below (w.alloc (.cells #[.int .i64 t, sv l] 29)).heap.size (w.alloc (.cells #[.int .i64 t, sv l] 29)) W → W.cell? ⟨w.heap.size, 0, none⟩ = some (.int .i64 t) ∧ W.cell? ⟨w.heap.size, 1, none⟩ = some (sv l) := fun W hW =>
    ⟨(hW.cell (p := ⟨w.heap.size, 0, none⟩) (by simp)).trans (by simp), (hW.cell (p := ⟨w.heap.size, 1, none⟩) (by simp)).trans (by simp)⟩
  have OLX := Lib.hid old
  clear CS CD CL hLl hE hL hsE hRl hb old hfl
  go_enter Try.func9, Try.ntmps9
  go_wp2_with fail
  obtain ⟨X, hX⟩ : ∃ X : World, X = (w.alloc (.cells #[.int .i64 t, sv l] 29)).alloc (.cells (ac (zs 512)) 25) := ⟨_, rfl⟩
  have lz : Lies X.drew (w.heap.size + 1) (zs 512) := by rw [hX]; exact H0.out
  have bX : Below (w.alloc (.cells #[.int .i64 t, sv l] 29)).heap.size (w.alloc (.cells #[.int .i64 t, sv l] 29)) X.drew := by rw [hX]; exact ((Below.refl _ _).alloc (Nat.le_refl _) _).drew
  rw [← hX]
  clear hX H0
  obtain ⟨W1, hW1⟩ : ∃ W1 : World, W1 = w.alloc (.cells #[.int .i64 t, sv l] 29) := ⟨_, rfl⟩
  have OLX' := OLX.out
  rw [← hW1] at bX OLX'
  have sW1 : W1.heap.size = w.heap.size + 1 := by rw [hW1]; simp
  have bW1 : Below w.heap.size w W1 := by rw [hW1]; exact (Below.refl _ _).alloc (Nat.le_refl _) _
  have HS1 := Lib.hid sW1
  have OLD := Lib.hid OLX'
  clear OLX OLX' hW1 sW1
  refine wp_region_held_drew (S := fun W => Below W1.heap.size W1 W ∧ W.cell? ⟨w.heap.size, 0, none⟩ = some (.int .i64 t) ∧ W.cell? ⟨w.heap.size, 1, none⟩ = some (sv l)) (by kernel_rfl) ⟨bX, OLD.out _ bX⟩ (fun hHeld => ?_)
  refine wpAnyH_take (i := 0) (oi := _) (v := ?_) rfl (by kernel_rfl) (by kernel_rfl) (by kernel_rfl) (fun _ _ _ h => h) (Or.inl ⟨by rfl, ?_⟩) (by assumption) ?_
  rotate_left
  · (intro w hSw; (try dsimp only at hSw); (try go_split_ands); go_simp; (try with_reducible rfl))
  (try simp only [List.getElem_toArray, List.getElem_cons_zero, List.getElem_cons_succ, Act.put, List.setIfInBounds_toArray, List.set_cons_zero, List.set_cons_succ])
  refine wpAnyH_take (i := 1) (oi := _) (v := ?_) rfl (by kernel_rfl) (by kernel_rfl) (by kernel_rfl) (fun _ _ _ h => h) (Or.inl ⟨by rfl, ?_⟩) (by assumption) ?_
  rotate_left
  · (intro w hSw; (try dsimp only at hSw); (try go_split_ands); go_simp; (try with_reducible rfl))
  (try simp only [List.getElem_toArray, List.getElem_cons_zero, List.getElem_cons_succ, Act.put, List.setIfInBounds_toArray, List.set_cons_zero, List.set_cons_succ])
  refine wpAnyH_take (i := 2) (oi := _) (v := ?_) rfl (by kernel_rfl) (by kernel_rfl) (by kernel_rfl) (fun _ _ _ h => h) (Or.inl ⟨by rfl, ?_⟩) (by assumption) ?_
  rotate_left
  · (intro w hSw; (try dsimp only at hSw); (try go_split_ands); go_simp; (try with_reducible rfl))
  (try simp only [List.getElem_toArray, List.getElem_cons_zero, List.getElem_cons_succ, Act.put, List.setIfInBounds_toArray, List.set_cons_zero, List.set_cons_succ])
  refine wpAnyH_take (i := 3) (oi := _) (v := ?_) rfl (by kernel_rfl) (by kernel_rfl) (by kernel_rfl) (fun _ _ _ h => h) (Or.inl ⟨by rfl, ?_⟩) (by assumption) ?_
  rotate_left
  · (intro w hSw; (try dsimp only at hSw); (try go_split_ands); go_simp; (try with_reducible rfl))
  (try simp only [List.getElem_toArray, List.getElem_cons_zero, List.getElem_cons_succ, Act.put, List.setIfInBounds_toArray, List.set_cons_zero, List.set_cons_succ])
  refine wpAnyH_take (i := 7) (oi := _) (v := ?_) rfl (by kernel_rfl) (by kernel_rfl) (by kernel_rfl) (fun _ _ _ h => h) (Or.inl ⟨by rfl, ?_⟩) (by assumption) ?_
  rotate_left
  · (intro w hSw; (try dsimp only at hSw); (try go_split_ands); go_simp; (try with_reducible rfl))
  (try simp only [List.getElem_toArray, List.getElem_cons_zero, List.getElem_cons_succ, Act.put, List.setIfInBounds_toArray, List.set_cons_zero, List.set_cons_succ])
  refine wpAnyH_take (i := 8) (oi := _) (v := ?_) rfl (by kernel_rfl) (by kernel_rfl) (by kernel_rfl) (fun _ _ _ h => h) (Or.inl ⟨by rfl, ?_⟩) (by assumption) ?_
  rotate_left
  · (intro w hSw; (try dsimp only at hSw); (try go_split_ands); go_simp; (try with_reducible rfl))
  (try simp only [List.getElem_toArray, List.getElem_cons_zero, List.getElem_cons_succ, Act.put, List.setIfInBounds_toArray, List.set_cons_zero, List.set_cons_succ])
  refine wpAnyH_ready (rs := [4]) (by kernel_rfl) (by simp) ?_
  refine AllReadyH.cons (o := _) rfl (fun K hK => ?_) AllReadyH.nil
  (try simp only [List.getElem_toArray, List.getElem_cons_zero, List.getElem_cons_succ])
  go_simp
  refine (GD.out _).mono ?_; rintro r w' ⟨rfl, rfl⟩
  refine hK.out _ _ (⟨bX, OLD.out _ bX⟩) (fun hHeld => ?_)
  clear hK K
  (try simp only [List.getElem_toArray, List.getElem_cons_zero, List.getElem_cons_succ, Act.put, List.setIfInBounds_toArray, List.set_cons_zero, List.set_cons_succ])
  refine wpAnyH_ready (rs := [5]) (by kernel_rfl) (by simp) ?_
  refine AllReadyH.cons (o := _) rfl (fun K hK => ?_) AllReadyH.nil
  (try simp only [List.getElem_toArray, List.getElem_cons_zero, List.getElem_cons_succ])
  go_simp
  refine (GL.out _).mono ?_; rintro r w2 ⟨v', rfl, hv', hw2⟩
  have b2 := bX.trans (hw2.mono bX.size)
  have hcv := hv'.string (P := Try.prog) Try.underlying54 Try.underlying5 Try.underlying9
  have lz2 := lz.below hw2
  refine hK.out _ _ (⟨b2, OLD.out _ b2⟩) (fun hHeld => ?_)
  clear hK K
  (try simp only [List.getElem_toArray, List.getElem_cons_zero, List.getElem_cons_succ, Act.put, List.setIfInBounds_toArray, List.set_cons_zero, List.set_cons_succ])
  refine wpAnyH_ready (rs := [6]) (by kernel_rfl) (by simp) ?_
  refine AllReadyH.cons (o := _) rfl (fun K hK => ?_) AllReadyH.nil
  (try simp only [List.getElem_toArray, List.getElem_cons_zero, List.getElem_cons_succ])
  go_simp
  refine hK.out _ _ (⟨b2, OLD.out _ b2⟩) (fun hHeld => ?_)
  clear hK K
  (try simp only [List.getElem_toArray, List.getElem_cons_zero, List.getElem_cons_succ, Act.put, List.setIfInBounds_toArray, List.set_cons_zero, List.set_cons_succ])
  refine wpAnyH_take (i := 9) (oi := _) (v := ?_) rfl (by kernel_rfl) (by kernel_rfl) (by kernel_rfl) (fun _ _ _ h => h) (Or.inl ⟨by rfl, ?_⟩) (by assumption) ?_
  rotate_left
  · (intro w hSw; (try dsimp only at hSw); (try go_split_ands); go_simp; (try with_reducible rfl))
  (try simp only [List.getElem_toArray, List.getElem_cons_zero, List.getElem_cons_succ, Act.put, List.setIfInBounds_toArray, List.set_cons_zero, List.set_cons_succ])
  refine wpAnyH_ready (rs := [10]) (by kernel_rfl) (by simp) ?_
  refine AllReadyH.cons (o := _) rfl (fun K hK => ?_) AllReadyH.nil
  (try simp only [List.getElem_toArray, List.getElem_cons_zero, List.getElem_cons_succ])
  go_simp
  refine (GS.out _).mono ?_; rintro r w3 ⟨rfl, hw3⟩
  have b3 := b2.trans (hw3.mono b2.size)
  have lz3 := lz2.below hw3
  refine hK.out _ _ (⟨b3, OLD.out _ b3⟩) (fun hHeld => ?_)
  clear hK K
  (try simp only [List.getElem_toArray, List.getElem_cons_zero, List.getElem_cons_succ, Act.put, List.setIfInBounds_toArray, List.set_cons_zero, List.set_cons_succ])
  refine wpAnyH_take (i := 11) (oi := _) (v := ?_) rfl (by kernel_rfl) (by kernel_rfl) (by kernel_rfl) (fun _ _ _ h => h) (Or.inl ⟨by rfl, ?_⟩) (by assumption) ?_
  rotate_left
  · (intro w hSw; (try dsimp only at hSw); (try go_split_ands); go_simp; (try with_reducible rfl))
  (try simp only [List.getElem_toArray, List.getElem_cons_zero, List.getElem_cons_succ, Act.put, List.setIfInBounds_toArray, List.set_cons_zero, List.set_cons_succ])
  refine wpAnyH_take (i := 12) (oi := _) (v := ?_) rfl (by kernel_rfl) (by kernel_rfl) (by kernel_rfl) (fun _ _ _ h => h) (Or.inl ⟨by rfl, ?_⟩) (by assumption) ?_
  rotate_left
  · (intro w hSw; (try dsimp only at hSw); (try go_split_ands); go_simp; (try with_reducible rfl))
  (try simp only [List.getElem_toArray, List.getElem_cons_zero, List.getElem_cons_succ, Act.put, List.setIfInBounds_toArray, List.set_cons_zero, List.set_cons_succ])
  refine wpAnyH_ready (rs := [13]) (by kernel_rfl) (by simp) ?_
  refine AllReadyH.cons (o := _) rfl (fun K hK => ?_) AllReadyH.nil
  (try simp only [List.getElem_toArray, List.getElem_cons_zero, List.getElem_cons_succ])
  rw [if_pos (by rfl)]
  refine wp_store_blk (m := L) rfl rfl rfl lz3 (zs_len 512) HLl.out ?_
  have lz4 : Lies (w3.setRow (w.heap.size + 1) (ac L)) (w.heap.size + 1) L := setRow_heap w3 _ _ _ _ _ lz3
  have b4 : Below W1.heap.size W1 (w3.setRow (w.heap.size + 1) (ac L)) := below_row b3 (wb_row _ _) b3.size (by rw [HS1.out]; exact Nat.le_refl _)
  refine hK.out _ _ (⟨b4, OLD.out _ b4⟩) (fun hHeld => ?_)
  clear hK K
  (try simp only [List.getElem_toArray, List.getElem_cons_zero, List.getElem_cons_succ, Act.put, List.setIfInBounds_toArray, List.set_cons_zero, List.set_cons_succ])
  refine wpAnyH_take (i := 14) (oi := _) (v := ?_) rfl (by kernel_rfl) (by kernel_rfl) (by kernel_rfl) (fun _ _ _ h => h) (Or.inl ⟨by rfl, ?_⟩) (by assumption) ?_
  rotate_left
  · (intro w hSw; (try dsimp only at hSw); (try go_split_ands); go_simp; (try with_reducible rfl))
  (try simp only [List.getElem_toArray, List.getElem_cons_zero, List.getElem_cons_succ, Act.put, List.setIfInBounds_toArray, List.set_cons_zero, List.set_cons_succ])
  refine wpAnyH_done (by kernel_rfl) ?_ _
  go_wp2_with fail
  have b5 := bW1.trans (b4.mono bW1.size)
  refine bodyPost_ret (results_blk_tmp (p := 2) (q := 3) Try.results9 _ rfl lz4 HLl.out) rfl ?_
  exact ⟨rfl, b5⟩

set_option maxHeartbeats 6400000 in
theorem rringseal_any (t : Int) (l : List UInt8) (w : World) (hl : l.length ≤ 9223372036854775807) :
    Calls Try.prog 10 #[rootV t l] w fun r w' => r = .returned (.tuple #[blk (rsL t l), .int .i64 (rsE t l)]) ∧ Below w.heap.size w w' := by
  have L0 := Lies.new (w.alloc (.cells #[.int .i64 t, sv l] 23)) (zs 512) (w.heap.size + 1) (by simp)
  have H0 := Lib.hid L0
  clear L0
  by_cases hb : t < 1 ∨ 2147483647 < t
  · have hE : rsE t l = 1 := if_pos hb
    have hL : rsL t l = zs 512 := if_neg (by rw [hE]; decide)
    rw [hE, hL]
    clear hE hL
    by_cases h1 : t < 1
    all_goals
      try have h2 : 2147483647 < t := by omega
      clear hb
      go_enter Try.func10, Try.ntmps10
      go_wp2_with (with_reducible refine wpList_store_blk (m := zs 512) rfl _ _ rfl rfl rfl H0.out (zs_len 512) (zs_len 512) ?_)
      intro w1 h1 g1
      go_wp2_with fail
      have b1 : Below w.heap.size w w1 := below_row (by repeat' (first | (with_reducible exact Below.refl _ _) | (with_reducible assumption) | (with_reducible refine below_drewN ?_ _) | (with_reducible refine Below.alloc ?_ ?_ _) | (with_reducible refine Below.drew ?_) | (with_reducible refine Below.setCell ?_ ?_ _) | go_size)) g1 (by go_size) (by omega)
      refine bodyPost_ret (results_blk_tmp (p := 2) (q := 3) Try.results10 _ rfl h1 (zs_len 512)) rfl ?_
      exact ⟨rfl, b1⟩
  have hb1 : ¬ t < 1 := by omega
  have hb2 : ¬ 2147483647 < t := by omega
  by_cases h5 : (492 : Int) < (l.length : Int)
  · have hE : rsE t l = 40 := by
      unfold rsE
      rw [if_neg hb, if_pos (by omega)]
    have hL : rsL t l = zs 512 := if_neg (by rw [hE]; decide)
    rw [hE, hL]
    clear hE hL hb
    go_enter Try.func10, Try.ntmps10
    go_wp2_with (with_reducible refine wpList_store_blk (m := zs 512) rfl _ _ rfl rfl rfl H0.out (zs_len 512) (zs_len 512) ?_)
    intro w1 h1 g1
    go_wp2_with fail
    have b1 : Below w.heap.size w w1 := below_row (by repeat' (first | (with_reducible exact Below.refl _ _) | (with_reducible assumption) | (with_reducible refine below_drewN ?_ _) | (with_reducible refine Below.alloc ?_ ?_ _) | (with_reducible refine Below.drew ?_) | (with_reducible refine Below.setCell ?_ ?_ _) | go_size)) g1 (by go_size) (by omega)
    refine bodyPost_ret (results_blk_tmp (p := 2) (q := 3) Try.results10 _ rfl h1 (zs_len 512)) rfl ?_
    exact ⟨rfl, b1⟩
  have hE : rsE t l = 0 := by
    unfold rsE
    rw [if_neg hb, if_neg (by omega)]
  have hsE := sealE_of hE
  have hL : rsL t l = sealL 3 t (rSum l ++ l) := if_pos hE
  have hRl := rSum_len l
  have CS := fun W : World => rseal_any 3 t (rSum l ++ l) W (by rw [List.length_append, hRl]; omega)
  have CD := fun W : World => rsum_any l W hl
  have hfl := fnv_lt l (u := fnv0) (by decide)
  have CL : ∀ W : World, Calls Try.prog 42 #[.int .u64 ((fnv fnv0 l : Nat) : Int)] W fun e w' => e = .returned (sv (rSum l)) ∧ Below W.heap.size W w' := fun W => flong_any _ W hfl
  have hLl := sealL_len 3 t (rSum l ++ l)
  rw [hE, hL]
  rw [hsE] at CS
  have ad : ∀ W : World, (Op.stringOp .add ⟨(rSum l).toArray⟩ ⟨l.toArray⟩).run Try.prog W = .ok (sv (rSum l ++ l)) W := fun W => by
    have := run_string_add_sum (P := Try.prog) W ⟨(rSum l).toArray⟩ ⟨l.toArray⟩ (by rw [ba_size, ba_size]; omega)
    rwa [ba_app] at this
  generalize sealL 3 t (rSum l ++ l) = L at *
  generalize rSum l = R at *
  generalize fnv fnv0 l = N at *
  have GS := Lib.hid CS
  have GD := Lib.hid CD
  have GL := Lib.hid CL
  have HLl := Lib.hid hLl
  have hi : (Try.prog.info? 25).map (·.size) = some (bc L).length := by rw [info_blk, bc_length, hLl]
  have hc5 : (bc L).length = 512 := by rw [bc_length, hLl]
  have h1c := bc_one L
  have hn1 : (R.length : Int) + (l.length : Int) ≤ 9223372036854775807 := by omega
  have old : ∀ W : World, Below (w.alloc (.cells #[.int .i64 t, sv l] 23)).heap.size (w.alloc (.cells #[.int .i64 t, sv l] 23)) W → W.cell? ⟨w.heap.size, 0, none⟩ = some (.int .i64 t) ∧ W.cell? ⟨w.heap.size, 1, none⟩ = some (sv l) := fun W hW =>
    ⟨(hW.cell (p := ⟨w.heap.size, 0, none⟩) (by simp)).trans (by simp), (hW.cell (p := ⟨w.heap.size, 1, none⟩) (by simp)).trans (by simp)⟩
  have OLX := Lib.hid old
  clear CS CD CL hLl hE hL hsE hRl hb old hfl
  go_enter Try.func10, Try.ntmps10
  go_wp2_with fail
  obtain ⟨X, hX⟩ : ∃ X : World, X = (w.alloc (.cells #[.int .i64 t, sv l] 23)).alloc (.cells (ac (zs 512)) 25) := ⟨_, rfl⟩
  have lz : Lies X.drew (w.heap.size + 1) (zs 512) := by rw [hX]; exact H0.out
  have bX : Below (w.alloc (.cells #[.int .i64 t, sv l] 23)).heap.size (w.alloc (.cells #[.int .i64 t, sv l] 23)) X.drew := by rw [hX]; exact ((Below.refl _ _).alloc (Nat.le_refl _) _).drew
  rw [← hX]
  clear hX H0
  obtain ⟨W1, hW1⟩ : ∃ W1 : World, W1 = w.alloc (.cells #[.int .i64 t, sv l] 23) := ⟨_, rfl⟩
  have OLX' := OLX.out
  rw [← hW1] at bX OLX'
  have sW1 : W1.heap.size = w.heap.size + 1 := by rw [hW1]; simp
  have bW1 : Below w.heap.size w W1 := by rw [hW1]; exact (Below.refl _ _).alloc (Nat.le_refl _) _
  have HS1 := Lib.hid sW1
  have OLD := Lib.hid OLX'
  clear OLX OLX' hW1 sW1
  refine wp_region_held_drew (S := fun W => Below W1.heap.size W1 W ∧ W.cell? ⟨w.heap.size, 0, none⟩ = some (.int .i64 t) ∧ W.cell? ⟨w.heap.size, 1, none⟩ = some (sv l)) (by kernel_rfl) ⟨bX, OLD.out _ bX⟩ (fun hHeld => ?_)
  refine wpAnyH_take (i := 0) (oi := _) (v := ?_) rfl (by kernel_rfl) (by kernel_rfl) (by kernel_rfl) (fun _ _ _ h => h) (Or.inl ⟨by rfl, ?_⟩) (by assumption) ?_
  rotate_left
  · (intro w hSw; (try dsimp only at hSw); (try go_split_ands); go_simp; (try with_reducible rfl))
  (try simp only [List.getElem_toArray, List.getElem_cons_zero, List.getElem_cons_succ, Act.put, List.setIfInBounds_toArray, List.set_cons_zero, List.set_cons_succ])
  refine wpAnyH_take (i := 1) (oi := _) (v := ?_) rfl (by kernel_rfl) (by kernel_rfl) (by kernel_rfl) (fun _ _ _ h => h) (Or.inl ⟨by rfl, ?_⟩) (by assumption) ?_
  rotate_left
  · (intro w hSw; (try dsimp only at hSw); (try go_split_ands); go_simp; (try with_reducible rfl))
  (try simp only [List.getElem_toArray, List.getElem_cons_zero, List.getElem_cons_succ, Act.put, List.setIfInBounds_toArray, List.set_cons_zero, List.set_cons_succ])
  refine wpAnyH_take (i := 2) (oi := _) (v := ?_) rfl (by kernel_rfl) (by kernel_rfl) (by kernel_rfl) (fun _ _ _ h => h) (Or.inl ⟨by rfl, ?_⟩) (by assumption) ?_
  rotate_left
  · (intro w hSw; (try dsimp only at hSw); (try go_split_ands); go_simp; (try with_reducible rfl))
  (try simp only [List.getElem_toArray, List.getElem_cons_zero, List.getElem_cons_succ, Act.put, List.setIfInBounds_toArray, List.set_cons_zero, List.set_cons_succ])
  refine wpAnyH_take (i := 3) (oi := _) (v := ?_) rfl (by kernel_rfl) (by kernel_rfl) (by kernel_rfl) (fun _ _ _ h => h) (Or.inl ⟨by rfl, ?_⟩) (by assumption) ?_
  rotate_left
  · (intro w hSw; (try dsimp only at hSw); (try go_split_ands); go_simp; (try with_reducible rfl))
  (try simp only [List.getElem_toArray, List.getElem_cons_zero, List.getElem_cons_succ, Act.put, List.setIfInBounds_toArray, List.set_cons_zero, List.set_cons_succ])
  refine wpAnyH_take (i := 6) (oi := _) (v := ?_) rfl (by kernel_rfl) (by kernel_rfl) (by kernel_rfl) (fun _ _ _ h => h) (Or.inl ⟨by rfl, ?_⟩) (by assumption) ?_
  rotate_left
  · (intro w hSw; (try dsimp only at hSw); (try go_split_ands); go_simp; (try with_reducible rfl))
  (try simp only [List.getElem_toArray, List.getElem_cons_zero, List.getElem_cons_succ, Act.put, List.setIfInBounds_toArray, List.set_cons_zero, List.set_cons_succ])
  refine wpAnyH_take (i := 7) (oi := _) (v := ?_) rfl (by kernel_rfl) (by kernel_rfl) (by kernel_rfl) (fun _ _ _ h => h) (Or.inl ⟨by rfl, ?_⟩) (by assumption) ?_
  rotate_left
  · (intro w hSw; (try dsimp only at hSw); (try go_split_ands); go_simp; (try with_reducible rfl))
  (try simp only [List.getElem_toArray, List.getElem_cons_zero, List.getElem_cons_succ, Act.put, List.setIfInBounds_toArray, List.set_cons_zero, List.set_cons_succ])
  refine wpAnyH_ready (rs := [4]) (by kernel_rfl) (by simp) ?_
  refine AllReadyH.cons (o := _) rfl (fun K hK => ?_) AllReadyH.nil
  (try simp only [List.getElem_toArray, List.getElem_cons_zero, List.getElem_cons_succ])
  go_simp
  refine (GD.out _).mono ?_; rintro r w' ⟨rfl, rfl⟩
  refine hK.out _ _ (⟨bX, OLD.out _ bX⟩) (fun hHeld => ?_)
  clear hK K
  (try simp only [List.getElem_toArray, List.getElem_cons_zero, List.getElem_cons_succ, Act.put, List.setIfInBounds_toArray, List.set_cons_zero, List.set_cons_succ])
  refine wpAnyH_ready (rs := [5]) (by kernel_rfl) (by simp) ?_
  refine AllReadyH.cons (o := _) rfl (fun K hK => ?_) AllReadyH.nil
  (try simp only [List.getElem_toArray, List.getElem_cons_zero, List.getElem_cons_succ])
  go_simp
  refine (GL.out _).mono ?_; rintro r w2 ⟨rfl, hw2⟩
  have b2 := bX.trans (hw2.mono bX.size)
  have lz2 := lz.below hw2
  refine hK.out _ _ (⟨b2, OLD.out _ b2⟩) (fun hHeld => ?_)
  clear hK K
  (try simp only [List.getElem_toArray, List.getElem_cons_zero, List.getElem_cons_succ, Act.put, List.setIfInBounds_toArray, List.set_cons_zero, List.set_cons_succ])
  refine wpAnyH_take (i := 8) (oi := _) (v := ?_) rfl (by kernel_rfl) (by kernel_rfl) (by kernel_rfl) (fun _ _ _ h => h) (Or.inl ⟨by rfl, ?_⟩) (by assumption) ?_
  rotate_left
  · (intro w hSw; (try dsimp only at hSw); (try go_split_ands); go_simp; (try with_reducible rfl))
  (try simp only [List.getElem_toArray, List.getElem_cons_zero, List.getElem_cons_succ, Act.put, List.setIfInBounds_toArray, List.set_cons_zero, List.set_cons_succ])
  refine wpAnyH_ready (rs := [9]) (by kernel_rfl) (by simp) ?_
  refine AllReadyH.cons (o := _) rfl (fun K hK => ?_) AllReadyH.nil
  (try simp only [List.getElem_toArray, List.getElem_cons_zero, List.getElem_cons_succ])
  go_simp
  refine (GS.out _).mono ?_; rintro r w3 ⟨rfl, hw3⟩
  have b3 := b2.trans (hw3.mono b2.size)
  have lz3 := lz2.below hw3
  refine hK.out _ _ (⟨b3, OLD.out _ b3⟩) (fun hHeld => ?_)
  clear hK K
  (try simp only [List.getElem_toArray, List.getElem_cons_zero, List.getElem_cons_succ, Act.put, List.setIfInBounds_toArray, List.set_cons_zero, List.set_cons_succ])
  refine wpAnyH_take (i := 10) (oi := _) (v := ?_) rfl (by kernel_rfl) (by kernel_rfl) (by kernel_rfl) (fun _ _ _ h => h) (Or.inl ⟨by rfl, ?_⟩) (by assumption) ?_
  rotate_left
  · (intro w hSw; (try dsimp only at hSw); (try go_split_ands); go_simp; (try with_reducible rfl))
  (try simp only [List.getElem_toArray, List.getElem_cons_zero, List.getElem_cons_succ, Act.put, List.setIfInBounds_toArray, List.set_cons_zero, List.set_cons_succ])
  refine wpAnyH_take (i := 11) (oi := _) (v := ?_) rfl (by kernel_rfl) (by kernel_rfl) (by kernel_rfl) (fun _ _ _ h => h) (Or.inl ⟨by rfl, ?_⟩) (by assumption) ?_
  rotate_left
  · (intro w hSw; (try dsimp only at hSw); (try go_split_ands); go_simp; (try with_reducible rfl))
  (try simp only [List.getElem_toArray, List.getElem_cons_zero, List.getElem_cons_succ, Act.put, List.setIfInBounds_toArray, List.set_cons_zero, List.set_cons_succ])
  refine wpAnyH_ready (rs := [12]) (by kernel_rfl) (by simp) ?_
  refine AllReadyH.cons (o := _) rfl (fun K hK => ?_) AllReadyH.nil
  (try simp only [List.getElem_toArray, List.getElem_cons_zero, List.getElem_cons_succ])
  rw [if_pos (by rfl)]
  refine wp_store_blk (m := L) rfl rfl rfl lz3 (zs_len 512) HLl.out ?_
  have lz4 : Lies (w3.setRow (w.heap.size + 1) (ac L)) (w.heap.size + 1) L := setRow_heap w3 _ _ _ _ _ lz3
  have b4 : Below W1.heap.size W1 (w3.setRow (w.heap.size + 1) (ac L)) := below_row b3 (wb_row _ _) b3.size (by rw [HS1.out]; exact Nat.le_refl _)
  refine hK.out _ _ (⟨b4, OLD.out _ b4⟩) (fun hHeld => ?_)
  clear hK K
  (try simp only [List.getElem_toArray, List.getElem_cons_zero, List.getElem_cons_succ, Act.put, List.setIfInBounds_toArray, List.set_cons_zero, List.set_cons_succ])
  refine wpAnyH_take (i := 13) (oi := _) (v := ?_) rfl (by kernel_rfl) (by kernel_rfl) (by kernel_rfl) (fun _ _ _ h => h) (Or.inl ⟨by rfl, ?_⟩) (by assumption) ?_
  rotate_left
  · (intro w hSw; (try dsimp only at hSw); (try go_split_ands); go_simp; (try with_reducible rfl))
  (try simp only [List.getElem_toArray, List.getElem_cons_zero, List.getElem_cons_succ, Act.put, List.setIfInBounds_toArray, List.set_cons_zero, List.set_cons_succ])
  refine wpAnyH_done (by kernel_rfl) ?_ _
  go_wp2_with fail
  have b5 := bW1.trans (b4.mono bW1.size)
  refine bodyPost_ret (results_blk_tmp (p := 2) (q := 3) Try.results10 _ rfl lz4 HLl.out) rfl ?_
  exact ⟨rfl, b5⟩
end Go.Proofs.Yteoomhkdffnkkaa
