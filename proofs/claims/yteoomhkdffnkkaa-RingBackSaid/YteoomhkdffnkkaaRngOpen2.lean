/- ring.Open, jettyref09.Open (walks). Conditions: bounds of machine numbers. -/
import Derived.Test.YteoomhkdffnkkaaRngOpen
namespace Go.Proofs.Yteoomhkdffnkkaa
set_option linter.unusedVariables false
set_option linter.unusedSimpArgs false
open Go.ChangeShapes Go.WideShapes Go.ChangeAt Go.RowKit Pl
attribute [local go_sem] ba_toList ba_size zeroValueB
set_option maxRecDepth 100000

/-- 's[i:]' of a string. -/
theorem slice_sv_l {P : Program} {t : TypeId} (ht : P.underlying t = some .string) (l : List UInt8) (i : Nat) (hi : i ≤ l.length) (w : World) :
    (Instr.slice t (.string ⟨l.toArray⟩) (some (.int .i64 (i : Int))) none none).run P w = .ok (.string ⟨(l.drop i).toArray⟩) w := by
  rw [run_slice_string_l w t ⟨l.toArray⟩ ht .i64 i (by omega) (by rw [ba_size]; omega), ba_size, ba_extract, List.take_of_length_le (by simp), Int.toNat_natCast]

set_option maxHeartbeats 6400000 in
theorem ringopen_any (l : List UInt8) (w : World) (hl : l.length = 512) : Calls Try.prog 11 #[blk l] w fun r w' => r = .returned (roV l) ∧ Below w.heap.size w w' := by
  have H0 := Lib.hid ((Lies.new w l _ rfl).alloc (.cells #[.int .i64 0, .string ⟨#[]⟩] 29))
  have HL := Lib.hid hl
  have hSl : (oS l).length ≤ 500 := by unfold oS; simp; omega
  have fin : ∀ W : World, Below ((w.alloc (.cells (ac l) 25)).alloc (.cells #[.int .i64 0, .string ⟨#[]⟩] 29)).heap.size ((w.alloc (.cells (ac l) 25)).alloc (.cells #[.int .i64 0, .string ⟨#[]⟩] 29)) W → (W.cell? ⟨w.heap.size + 1, 0, none⟩ = some (.int .i64 0) ∧ W.cell? ⟨w.heap.size + 1, 1, none⟩ = some (.string ⟨#[]⟩)) ∧
      (W.frozen? ⟨w.heap.size + 1, 0, none⟩ = false ∧ W.frozen? ⟨w.heap.size + 1, 1, none⟩ = false) ∧ w.heap.size + 1 < W.heap.size ∧ Below w.heap.size w W := by
    intro W h
    have hs := h.size
    simp only [World.size_alloc] at hs
    have hz : W.heap[w.heap.size + 1]? = some (.cells #[.int .i64 0, .string ⟨#[]⟩] 29 (0, 0)) := by
      rw [h.block (w.heap.size + 1) (by simp), show w.heap.size + 1 = (w.alloc (.cells (ac l) 25)).heap.size from by simp]
      exact heap_alloc_new _ _
    exact ⟨⟨cell_of_row _ _ 0 _ _ _ hz, cell_of_row _ _ 1 _ _ _ hz⟩, ⟨frozen_of_row _ _ 0 _ _ hz, frozen_of_row _ _ 1 _ _ hz⟩, by omega, chain (by repeat' (first | (with_reducible exact Below.refl _ _) | (with_reducible assumption) | (with_reducible refine below_drewN ?_ _) | (with_reducible refine Below.alloc ?_ ?_ _) | (with_reducible refine Below.drew ?_) | (with_reducible refine Below.setCell ?_ ?_ _) | go_size)) h⟩
  have FIN := Lib.hid fin
  have OA := fun W : World => open_any l W hl
  have hV : ∀ b c, roOK l = b → roSum l = c → roV l = (if b = true then (if c = true then .tuple #[rootV (oB l) ((oS l).drop 8), .int .i64 0] else .tuple #[rootV 0 [], .int .i64 52]) else .tuple #[rootV 0 [], .int .i64 4]) := by
    intro b c hb hc
    cases b
    · exact rov_no hb
    · cases c
      · exact rov_sum hb hc
      · exact rov_yes hb hc
  have HV := Lib.hid hV
  have hR : roOK l = (openOK l && (((oK l).toNat : Int) == 3) && decide (8 ≤ (oS l).length) && decide (1 ≤ oB l)) := rfl
  have HR := Lib.hid hR
  clear fin hl hV hR
  cases ho : openOK l
  · rw [openV_no ho] at OA
    have GA := Lib.hid OA
    have hro : roOK l = false := by rw [HR.out, ho]; rfl
    have hv := HV.out false _ hro rfl
    rw [if_neg (by decide)] at hv
    have HV2 := Lib.hid hv
    clear OA ho hro hv
    go_enter Try.func11, Try.ntmps11
    go_wp2_with (with_reducible refine wpList_load_blk rfl _ rfl rfl H0.out HL.out ?_)
    refine (GA.out _).mono ?_; rintro e w1 ⟨rfl, hw1⟩
    obtain ⟨⟨q0, q1⟩, ⟨f0, f1⟩, lt, b1⟩ := FIN.out w1 hw1
    go_wp2_with fail
    ((try simp only [Exit.inBlock, Exit.then]); refine bodyPost_ret (by simp [results, Try.results11, go_sem, q0, q1, lt]; try rfl) rfl ?_)
    exact ⟨HV2.out.symm ▸ rfl, by repeat' (first | (with_reducible exact Below.refl _ _) | (with_reducible assumption) | (with_reducible refine below_drewN ?_ _) | (with_reducible refine Below.alloc ?_ ?_ _) | (with_reducible refine Below.drew ?_) | (with_reducible refine Below.setCell ?_ ?_ _) | go_size)⟩
  rw [openV_yes ho] at OA
  have GA := Lib.hid OA
  have hsb := sum_bytes (l := l)
  have hRS : roSum l = (unbe 0 ((oS l).take 8) == fnv fnv0 ((oS l).drop 8)) := rfl
  have HRS := Lib.hid hRS
  rw [ho, Bool.true_and] at HR
  have HSB := Lib.hid hsb
  clear OA ho hsb hRS
  generalize oK l = K at *
  generalize oB l = B at *
  generalize oS l = S at *
  by_cases hK : (((K.toNat : Int)) == 3) = false
  · have hro : roOK l = false := by rw [HR.out]; rw [hK]; simp
    have hv := HV.out false _ hro rfl
    rw [if_neg (by decide)] at hv
    have HV2 := Lib.hid hv
    have hK' : ((K.toNat : Int) != 3) = true := by rw [bne, hK]; rfl
    clear hK
    clear hro hv
    go_enter Try.func11, Try.ntmps11
    go_wp2_with (with_reducible refine wpList_load_blk rfl _ rfl rfl H0.out HL.out ?_)
    refine (GA.out _).mono ?_; rintro e w1 ⟨rfl, hw1⟩
    obtain ⟨⟨q0, q1⟩, ⟨f0, f1⟩, lt, b1⟩ := FIN.out w1 hw1
    go_wp2_with fail
    ((try simp only [Exit.inBlock, Exit.then]); refine bodyPost_ret (by simp [results, Try.results11, go_sem, q0, q1, lt]; try rfl) rfl ?_)
    exact ⟨HV2.out.symm ▸ rfl, by repeat' (first | (with_reducible exact Below.refl _ _) | (with_reducible assumption) | (with_reducible refine below_drewN ?_ _) | (with_reducible refine Below.alloc ?_ ?_ _) | (with_reducible refine Below.drew ?_) | (with_reducible refine Below.setCell ?_ ?_ _) | go_size)⟩
  have hK1 : ((K.toNat : Int) == 3) = true := by simpa using hK
  have hK2 : ((K.toNat : Int) != 3) = false := by rw [bne, hK1]; rfl
  clear hK
  by_cases h8 : (S.length : Int) < 8
  · have hro : roOK l = false := by rw [HR.out]; rw [decide_eq_false (by omega : ¬ 8 ≤ S.length)]; simp
    have hv := HV.out false _ hro rfl
    rw [if_neg (by decide)] at hv
    have HV2 := Lib.hid hv
    clear hro hv
    go_enter Try.func11, Try.ntmps11
    go_wp2_with (with_reducible refine wpList_load_blk rfl _ rfl rfl H0.out HL.out ?_)
    refine (GA.out _).mono ?_; rintro e w1 ⟨rfl, hw1⟩
    obtain ⟨⟨q0, q1⟩, ⟨f0, f1⟩, lt, b1⟩ := FIN.out w1 hw1
    go_wp2_with fail
    ((try simp only [Exit.inBlock, Exit.then]); refine bodyPost_ret (by simp [results, Try.results11, go_sem, q0, q1, lt]; try rfl) rfl ?_)
    exact ⟨HV2.out.symm ▸ rfl, by repeat' (first | (with_reducible exact Below.refl _ _) | (with_reducible assumption) | (with_reducible refine below_drewN ?_ _) | (with_reducible refine Below.alloc ?_ ?_ _) | (with_reducible refine Below.drew ?_) | (with_reducible refine Below.setCell ?_ ?_ _) | go_size)⟩
  by_cases hB : B < 1
  · have hro : roOK l = false := by rw [HR.out]; rw [decide_eq_false (by omega : ¬ 1 ≤ B)]; simp
    have hv := HV.out false _ hro rfl
    rw [if_neg (by decide)] at hv
    have HV2 := Lib.hid hv
    clear hro hv
    go_enter Try.func11, Try.ntmps11
    go_wp2_with (with_reducible refine wpList_load_blk rfl _ rfl rfl H0.out HL.out ?_)
    refine (GA.out _).mono ?_; rintro e w1 ⟨rfl, hw1⟩
    obtain ⟨⟨q0, q1⟩, ⟨f0, f1⟩, lt, b1⟩ := FIN.out w1 hw1
    go_wp2_with fail
    ((try simp only [Exit.inBlock, Exit.then]); refine bodyPost_ret (by simp [results, Try.results11, go_sem, q0, q1, lt]; try rfl) rfl ?_)
    exact ⟨HV2.out.symm ▸ rfl, by repeat' (first | (with_reducible exact Below.refl _ _) | (with_reducible assumption) | (with_reducible refine below_drewN ?_ _) | (with_reducible refine Below.alloc ?_ ?_ _) | (with_reducible refine Below.drew ?_) | (with_reducible refine Below.setCell ?_ ?_ _) | go_size)⟩
  have hro : roOK l = true := by rw [HR.out, hK1, decide_eq_true (by omega : 8 ≤ S.length), decide_eq_true (by omega : 1 ≤ B)]; rfl
  have s8 : ∀ W, (Instr.slice 9 (.string ⟨S.toArray⟩) none (some (.int .i64 8)) none).run Try.prog W = .ok (sv (S.take 8)) W := fun W => slice_sv_h Try.underlying9 S 8 (by omega) W
  have s9 : ∀ W, (Instr.slice 9 (.string ⟨S.toArray⟩) (some (.int .i64 8)) none none).run Try.prog W = .ok (sv (S.drop 8)) W := fun W => by
    have := slice_sv_l (P := Try.prog) Try.underlying9 S 8 (by omega) W
    exact this
  have hDl : (S.drop 8).length ≤ 9223372036854775807 := by simp; omega
  have hTl : (S.take 8).length = 8 := by simp; omega
  have CD := fun W : World => dsum_any (S.drop 8) W hDl
  have hlong : (longR (some (S.take 8))).1 = unbe 0 (S.take 8) := by
    have h := longR_be (unbe 0 (S.take 8)) []
    have hlt := unbe_lt (S.take 8) 0
    rw [hTl] at hlt
    rw [List.append_nil, be_unbe _ 8 hTl] at h
    rw [h]
    exact Nat.mod_eq_of_lt (by omega)
  have hx0 : (((unbe 0 (S.take 8) : Nat) : Int) != ((fnv fnv0 (S.drop 8) : Nat) : Int)) = !(roSum l) := by
    rw [HRS.out, bne, show (((unbe 0 (S.take 8) : Nat) : Int) == ((fnv fnv0 (S.drop 8) : Nat) : Int)) = (unbe 0 (S.take 8) == fnv fnv0 (S.drop 8)) from by rw [Bool.eq_iff_iff, beq_iff_eq, beq_iff_eq]; omega]
  cases hs : roSum l
  all_goals
    have hv := HV.out _ _ hro hs
    simp only [if_true, Bool.false_eq_true, if_false] at hv
    have HV2 := Lib.hid hv
    rw [hs] at hx0
    simp only [Bool.not_true, Bool.not_false] at hx0
    have HX := Lib.hid hx0
    have GD := Lib.hid CD
    clear hx0 hv
    have HLG := Lib.hid hlong
    clear hro hs CD hlong
    go_enter Try.func11, Try.ntmps11
    go_wp2_with (with_reducible refine wpList_load_blk rfl _ rfl rfl H0.out HL.out ?_)
    refine (GA.out _).mono ?_; rintro e w1 ⟨rfl, hw1⟩
    go_wp2_with fail
    have b0 : Below ((w.alloc (.cells (ac l) 25)).alloc (.cells #[.int .i64 0, .string ⟨#[]⟩] 29)).heap.size ((w.alloc (.cells (ac l) 25)).alloc (.cells #[.int .i64 0, .string ⟨#[]⟩] 29)) w1.drew := hw1.drew
    refine wp_region_held_drew (S := fun W => Below ((w.alloc (.cells (ac l) 25)).alloc (.cells #[.int .i64 0, .string ⟨#[]⟩] 29)).heap.size ((w.alloc (.cells (ac l) 25)).alloc (.cells #[.int .i64 0, .string ⟨#[]⟩] 29)) W) (by kernel_rfl) b0 (fun hHeld => ?_)
    refine wpAnyH_take (i := 0) (oi := _) (v := ?_) rfl (by kernel_rfl) (by kernel_rfl) (by kernel_rfl) (fun _ _ _ h => h) (Or.inl ⟨by rfl, ?_⟩) (by assumption) ?_
    rotate_left
    · (intro w hSw; (try dsimp only at hSw); (try go_split_ands); go_simp; (try with_reducible rfl))
    (try simp only [List.getElem_toArray, List.getElem_cons_zero, List.getElem_cons_succ, Act.put, List.setIfInBounds_toArray, List.set_cons_zero, List.set_cons_succ])
    refine wpAnyH_take (i := 1) (oi := _) (v := ?_) rfl (by kernel_rfl) (by kernel_rfl) (by kernel_rfl) (fun _ _ _ h => h) (Or.inl ⟨by rfl, ?_⟩) (by assumption) ?_
    rotate_left
    · (intro w hSw; (try dsimp only at hSw); (try go_split_ands); go_simp; (try with_reducible rfl))
    (try simp only [List.getElem_toArray, List.getElem_cons_zero, List.getElem_cons_succ, Act.put, List.setIfInBounds_toArray, List.set_cons_zero, List.set_cons_succ])
    refine wpAnyH_take (i := 5) (oi := _) (v := ?_) rfl (by kernel_rfl) (by kernel_rfl) (by kernel_rfl) (fun _ _ _ h => h) (Or.inl ⟨by rfl, ?_⟩) (by assumption) ?_
    rotate_left
    · (intro w hSw; (try dsimp only at hSw); (try go_split_ands); go_simp; (try with_reducible rfl))
    (try simp only [List.getElem_toArray, List.getElem_cons_zero, List.getElem_cons_succ, Act.put, List.setIfInBounds_toArray, List.set_cons_zero, List.set_cons_succ])
    refine wpAnyH_take (i := 6) (oi := _) (v := ?_) rfl (by kernel_rfl) (by kernel_rfl) (by kernel_rfl) (fun _ _ _ h => h) (Or.inl ⟨by rfl, ?_⟩) (by assumption) ?_
    rotate_left
    · (intro w hSw; (try dsimp only at hSw); (try go_split_ands); go_simp; (try with_reducible rfl))
    (try simp only [List.getElem_toArray, List.getElem_cons_zero, List.getElem_cons_succ, Act.put, List.setIfInBounds_toArray, List.set_cons_zero, List.set_cons_succ])
    refine wpAnyH_ready (rs := [2]) (by kernel_rfl) (by simp) ?_
    refine AllReadyH.cons (o := _) rfl (fun K hK => ?_) AllReadyH.nil
    (try simp only [List.getElem_toArray, List.getElem_cons_zero, List.getElem_cons_succ])
    rw [if_pos (by rfl)]
    refine wp_bytes_of_string rfl Try.underlying9 Try.underlying54 Try.underlying5 (l := S.take 8) rfl (by rw [hTl]; unfold maxLen; omega) ?_
    intro v2 w2 hv2 hw2
    have b2 := b0.trans (hw2.mono b0.size)
    refine hK.out _ _ (b2) (fun hHeld => ?_)
    clear hK K
    (try simp only [List.getElem_toArray, List.getElem_cons_zero, List.getElem_cons_succ, Act.put, List.setIfInBounds_toArray, List.set_cons_zero, List.set_cons_succ])
    refine wpAnyH_ready (rs := [3]) (by kernel_rfl) (by simp) ?_
    refine AllReadyH.cons (o := _) rfl (fun K hK => ?_) AllReadyH.nil
    (try simp only [List.getElem_toArray, List.getElem_cons_zero, List.getElem_cons_succ])
    go_simp
    refine (NewReader_any v2 (S.take 8) _ hv2 (by omega)).mono ?_; rintro r w3 ⟨g, h, rfl, rd, hw3, hg0, hh0, hg1, hh1⟩
    have b3 := b2.trans (hw3.mono b2.size)
    refine hK.out _ _ (b3) (fun hHeld => ?_)
    clear hK K
    (try simp only [List.getElem_toArray, List.getElem_cons_zero, List.getElem_cons_succ, Act.put, List.setIfInBounds_toArray, List.set_cons_zero, List.set_cons_succ])
    refine wpAnyH_ready (rs := [4]) (by kernel_rfl) (by simp) ?_
    refine AllReadyH.cons (o := _) rfl (fun K hK => ?_) AllReadyH.nil
    (try simp only [List.getElem_toArray, List.getElem_cons_zero, List.getElem_cons_succ])
    go_simp
    refine (rLong_any _ rd).mono ?_; rintro r w4 ⟨rfl, rd4, hg4⟩
    rw [HLG.out]
    have b4 := b3.grown hg4 b3.size (fun k e => by cases e; exact Nat.le_trans b2.size hg0)
    refine hK.out _ _ (b4) (fun hHeld => ?_)
    clear hK K
    (try simp only [List.getElem_toArray, List.getElem_cons_zero, List.getElem_cons_succ, Act.put, List.setIfInBounds_toArray, List.set_cons_zero, List.set_cons_succ])
    refine wpAnyH_ready (rs := [7]) (by kernel_rfl) (by simp) ?_
    refine AllReadyH.cons (o := _) rfl (fun K hK => ?_) AllReadyH.nil
    (try simp only [List.getElem_toArray, List.getElem_cons_zero, List.getElem_cons_succ])
    go_simp
    refine (GD.out _).mono ?_; rintro r w5 ⟨rfl, rfl⟩
    refine hK.out _ _ (b4) (fun hHeld => ?_)
    clear hK K
    (try simp only [List.getElem_toArray, List.getElem_cons_zero, List.getElem_cons_succ, Act.put, List.setIfInBounds_toArray, List.set_cons_zero, List.set_cons_succ])
    have hx := HX.out
    refine wpAnyH_take (i := 8) (oi := _) (v := ?_) rfl (by kernel_rfl) (by kernel_rfl) (by kernel_rfl) (fun _ _ _ h => h) (Or.inl ⟨by rfl, ?_⟩) (by assumption) ?_
    rotate_left
    · (intro w hSw; (try dsimp only at hSw); (try go_split_ands); go_simp; (try with_reducible rfl))
    (try simp only [List.getElem_toArray, List.getElem_cons_zero, List.getElem_cons_succ, Act.put, List.setIfInBounds_toArray, List.set_cons_zero, List.set_cons_succ])
    obtain ⟨⟨q0, q1⟩, ⟨f0, f1⟩, lt, b5⟩ := FIN.out w4 b4
    refine wpAnyH_done (by kernel_rfl) ?_ _
    go_wp2_with fail
    ((try simp only [Exit.inBlock, Exit.then]); refine bodyPost_ret (by simp [results, Try.results11, go_sem, q0, q1, lt]; try rfl) rfl ?_)
    exact ⟨HV2.out.symm ▸ rfl, by repeat' (first | (with_reducible exact Below.refl _ _) | (with_reducible assumption) | (with_reducible refine below_drewN ?_ _) | (with_reducible refine Below.alloc ?_ ?_ _) | (with_reducible refine Below.drew ?_) | (with_reducible refine Below.setCell ?_ ?_ _) | go_size)⟩

set_option maxHeartbeats 6400000 in
theorem rringopen_any (l : List UInt8) (w : World) (hl : l.length = 512) : Calls Try.prog 12 #[blk l] w fun r w' => r = .returned (roV l) ∧ Below w.heap.size w w' := by
  have H0 := Lib.hid ((Lies.new w l _ rfl).alloc (.cells #[.int .i64 0, .string ⟨#[]⟩] 23))
  have HL := Lib.hid hl
  have hSl : (oS l).length ≤ 500 := by unfold oS; simp; omega
  have fin : ∀ W : World, Below ((w.alloc (.cells (ac l) 25)).alloc (.cells #[.int .i64 0, .string ⟨#[]⟩] 23)).heap.size ((w.alloc (.cells (ac l) 25)).alloc (.cells #[.int .i64 0, .string ⟨#[]⟩] 23)) W → (W.cell? ⟨w.heap.size + 1, 0, none⟩ = some (.int .i64 0) ∧ W.cell? ⟨w.heap.size + 1, 1, none⟩ = some (.string ⟨#[]⟩)) ∧
      (W.frozen? ⟨w.heap.size + 1, 0, none⟩ = false ∧ W.frozen? ⟨w.heap.size + 1, 1, none⟩ = false) ∧ w.heap.size + 1 < W.heap.size ∧ Below w.heap.size w W := by
    intro W h
    have hs := h.size
    simp only [World.size_alloc] at hs
    have hz : W.heap[w.heap.size + 1]? = some (.cells #[.int .i64 0, .string ⟨#[]⟩] 23 (0, 0)) := by
      rw [h.block (w.heap.size + 1) (by simp), show w.heap.size + 1 = (w.alloc (.cells (ac l) 25)).heap.size from by simp]
      exact heap_alloc_new _ _
    exact ⟨⟨cell_of_row _ _ 0 _ _ _ hz, cell_of_row _ _ 1 _ _ _ hz⟩, ⟨frozen_of_row _ _ 0 _ _ hz, frozen_of_row _ _ 1 _ _ hz⟩, by omega, chain (by repeat' (first | (with_reducible exact Below.refl _ _) | (with_reducible assumption) | (with_reducible refine below_drewN ?_ _) | (with_reducible refine Below.alloc ?_ ?_ _) | (with_reducible refine Below.drew ?_) | (with_reducible refine Below.setCell ?_ ?_ _) | go_size)) h⟩
  have FIN := Lib.hid fin
  have OA := fun W : World => ropen_any l W hl
  have hV : ∀ b c, roOK l = b → roSum l = c → roV l = (if b = true then (if c = true then .tuple #[rootV (oB l) ((oS l).drop 8), .int .i64 0] else .tuple #[rootV 0 [], .int .i64 52]) else .tuple #[rootV 0 [], .int .i64 4]) := by
    intro b c hb hc
    cases b
    · exact rov_no hb
    · cases c
      · exact rov_sum hb hc
      · exact rov_yes hb hc
  have HV := Lib.hid hV
  have hR : roOK l = (openOK l && (((oK l).toNat : Int) == 3) && decide (8 ≤ (oS l).length) && decide (1 ≤ oB l)) := rfl
  have HR := Lib.hid hR
  clear fin hl hV hR
  cases ho : openOK l
  · rw [openV_no ho] at OA
    have GA := Lib.hid OA
    have hro : roOK l = false := by rw [HR.out, ho]; rfl
    have hv := HV.out false _ hro rfl
    rw [if_neg (by decide)] at hv
    have HV2 := Lib.hid hv
    clear OA ho hro hv
    go_enter Try.func12, Try.ntmps12
    go_wp2_with (with_reducible refine wpList_load_blk rfl _ rfl rfl H0.out HL.out ?_)
    refine (GA.out _).mono ?_; rintro e w1 ⟨rfl, hw1⟩
    obtain ⟨⟨q0, q1⟩, ⟨f0, f1⟩, lt, b1⟩ := FIN.out w1 hw1
    go_wp2_with fail
    ((try simp only [Exit.inBlock, Exit.then]); refine bodyPost_ret (by simp [results, Try.results12, go_sem, q0, q1, lt]; try rfl) rfl ?_)
    exact ⟨HV2.out.symm ▸ rfl, by repeat' (first | (with_reducible exact Below.refl _ _) | (with_reducible assumption) | (with_reducible refine below_drewN ?_ _) | (with_reducible refine Below.alloc ?_ ?_ _) | (with_reducible refine Below.drew ?_) | (with_reducible refine Below.setCell ?_ ?_ _) | go_size)⟩
  rw [openV_yes ho] at OA
  have GA := Lib.hid OA
  have hsb := sum_bytes (l := l)
  have hRS : roSum l = (unbe 0 ((oS l).take 8) == fnv fnv0 ((oS l).drop 8)) := rfl
  have HRS := Lib.hid hRS
  rw [ho, Bool.true_and] at HR
  have HSB := Lib.hid hsb
  clear OA ho hsb hRS
  generalize oK l = K at *
  generalize oB l = B at *
  generalize oS l = S at *
  by_cases hK : (((K.toNat : Int)) == 3) = false
  · have hro : roOK l = false := by rw [HR.out]; rw [hK]; simp
    have hv := HV.out false _ hro rfl
    rw [if_neg (by decide)] at hv
    have HV2 := Lib.hid hv
    have hK' : ((K.toNat : Int) != 3) = true := by rw [bne, hK]; rfl
    clear hK
    clear hro hv
    go_enter Try.func12, Try.ntmps12
    go_wp2_with (with_reducible refine wpList_load_blk rfl _ rfl rfl H0.out HL.out ?_)
    refine (GA.out _).mono ?_; rintro e w1 ⟨rfl, hw1⟩
    obtain ⟨⟨q0, q1⟩, ⟨f0, f1⟩, lt, b1⟩ := FIN.out w1 hw1
    go_wp2_with fail
    ((try simp only [Exit.inBlock, Exit.then]); refine bodyPost_ret (by simp [results, Try.results12, go_sem, q0, q1, lt]; try rfl) rfl ?_)
    exact ⟨HV2.out.symm ▸ rfl, by repeat' (first | (with_reducible exact Below.refl _ _) | (with_reducible assumption) | (with_reducible refine below_drewN ?_ _) | (with_reducible refine Below.alloc ?_ ?_ _) | (with_reducible refine Below.drew ?_) | (with_reducible refine Below.setCell ?_ ?_ _) | go_size)⟩
  have hK1 : ((K.toNat : Int) == 3) = true := by simpa using hK
  have hK2 : ((K.toNat : Int) != 3) = false := by rw [bne, hK1]; rfl
  clear hK
  by_cases hB : B < 1
  · have hro : roOK l = false := by rw [HR.out]; rw [decide_eq_false (by omega : ¬ 1 ≤ B)]; simp
    have hv := HV.out false _ hro rfl
    rw [if_neg (by decide)] at hv
    have HV2 := Lib.hid hv
    clear hro hv
    go_enter Try.func12, Try.ntmps12
    go_wp2_with (with_reducible refine wpList_load_blk rfl _ rfl rfl H0.out HL.out ?_)
    refine (GA.out _).mono ?_; rintro e w1 ⟨rfl, hw1⟩
    obtain ⟨⟨q0, q1⟩, ⟨f0, f1⟩, lt, b1⟩ := FIN.out w1 hw1
    go_wp2_with fail
    ((try simp only [Exit.inBlock, Exit.then]); refine bodyPost_ret (by simp [results, Try.results12, go_sem, q0, q1, lt]; try rfl) rfl ?_)
    exact ⟨HV2.out.symm ▸ rfl, by repeat' (first | (with_reducible exact Below.refl _ _) | (with_reducible assumption) | (with_reducible refine below_drewN ?_ _) | (with_reducible refine Below.alloc ?_ ?_ _) | (with_reducible refine Below.drew ?_) | (with_reducible refine Below.setCell ?_ ?_ _) | go_size)⟩
  by_cases h8 : (S.length : Int) < 8
  · have hro : roOK l = false := by rw [HR.out]; rw [decide_eq_false (by omega : ¬ 8 ≤ S.length)]; simp
    have hv := HV.out false _ hro rfl
    rw [if_neg (by decide)] at hv
    have HV2 := Lib.hid hv
    clear hro hv
    go_enter Try.func12, Try.ntmps12
    go_wp2_with (with_reducible refine wpList_load_blk rfl _ rfl rfl H0.out HL.out ?_)
    refine (GA.out _).mono ?_; rintro e w1 ⟨rfl, hw1⟩
    obtain ⟨⟨q0, q1⟩, ⟨f0, f1⟩, lt, b1⟩ := FIN.out w1 hw1
    go_wp2_with fail
    ((try simp only [Exit.inBlock, Exit.then]); refine bodyPost_ret (by simp [results, Try.results12, go_sem, q0, q1, lt]; try rfl) rfl ?_)
    exact ⟨HV2.out.symm ▸ rfl, by repeat' (first | (with_reducible exact Below.refl _ _) | (with_reducible assumption) | (with_reducible refine below_drewN ?_ _) | (with_reducible refine Below.alloc ?_ ?_ _) | (with_reducible refine Below.drew ?_) | (with_reducible refine Below.setCell ?_ ?_ _) | go_size)⟩
  have hro : roOK l = true := by rw [HR.out, hK1, decide_eq_true (by omega : 8 ≤ S.length), decide_eq_true (by omega : 1 ≤ B)]; rfl
  have s8 : ∀ W, (Instr.slice 9 (.string ⟨S.toArray⟩) none (some (.int .i64 8)) none).run Try.prog W = .ok (sv (S.take 8)) W := fun W => slice_sv_h Try.underlying9 S 8 (by omega) W
  have s9 : ∀ W, (Instr.slice 9 (.string ⟨S.toArray⟩) (some (.int .i64 8)) none none).run Try.prog W = .ok (sv (S.drop 8)) W := fun W => by
    have := slice_sv_l (P := Try.prog) Try.underlying9 S 8 (by omega) W
    exact this
  have hDl : (S.drop 8).length ≤ 9223372036854775807 := by simp; omega
  have hTl : (S.take 8).length = 8 := by simp; omega
  have CD := fun W : World => rsum_any (S.drop 8) W hDl
  have CL : ∀ W : World, Calls Try.prog 42 #[.int .u64 ((fnv fnv0 (S.drop 8) : Nat) : Int)] W fun e w' => e = .returned (sv (rSum (S.drop 8))) ∧ Below W.heap.size W w' := fun W => flong_any _ W (fnv_lt _ (by decide))
  have hx0 : (S.take 8 != rSum (S.drop 8)) = !(roSum l) := by rw [bne, HSB.out (by omega)]
  cases hs : roSum l
  all_goals
    have hv := HV.out _ _ hro hs
    simp only [if_true, Bool.false_eq_true, if_false] at hv
    have HV2 := Lib.hid hv
    rw [hs] at hx0
    simp only [Bool.not_true, Bool.not_false] at hx0
    have HX := Lib.hid hx0
    have GD := Lib.hid CD
    clear hx0 hv
    have GLg := Lib.hid CL
    have hs1 := HSB.out (by omega)
    rw [hs] at hs1
    have HS1 := Lib.hid hs1
    clear hs1
    clear hro hs CD CL
    go_enter Try.func12, Try.ntmps12
    go_wp2_with (with_reducible refine wpList_load_blk rfl _ rfl rfl H0.out HL.out ?_)
    refine (GA.out _).mono ?_; rintro e w1 ⟨rfl, hw1⟩
    go_wp2_with fail
    have b0 : Below ((w.alloc (.cells (ac l) 25)).alloc (.cells #[.int .i64 0, .string ⟨#[]⟩] 23)).heap.size ((w.alloc (.cells (ac l) 25)).alloc (.cells #[.int .i64 0, .string ⟨#[]⟩] 23)) w1.drew := hw1.drew
    refine wp_region_held_drew (S := fun W => Below ((w.alloc (.cells (ac l) 25)).alloc (.cells #[.int .i64 0, .string ⟨#[]⟩] 23)).heap.size ((w.alloc (.cells (ac l) 25)).alloc (.cells #[.int .i64 0, .string ⟨#[]⟩] 23)) W) (by kernel_rfl) b0 (fun hHeld => ?_)
    refine wpAnyH_take (i := 0) (oi := _) (v := ?_) rfl (by kernel_rfl) (by kernel_rfl) (by kernel_rfl) (fun _ _ _ h => h) (Or.inl ⟨by rfl, ?_⟩) (by assumption) ?_
    rotate_left
    · (intro w hSw; (try dsimp only at hSw); (try go_split_ands); go_simp; (try with_reducible rfl))
    (try simp only [List.getElem_toArray, List.getElem_cons_zero, List.getElem_cons_succ, Act.put, List.setIfInBounds_toArray, List.set_cons_zero, List.set_cons_succ])
    refine wpAnyH_take (i := 1) (oi := _) (v := ?_) rfl (by kernel_rfl) (by kernel_rfl) (by kernel_rfl) (fun _ _ _ h => h) (Or.inl ⟨by rfl, ?_⟩) (by assumption) ?_
    rotate_left
    · (intro w hSw; (try dsimp only at hSw); (try go_split_ands); go_simp; (try with_reducible rfl))
    (try simp only [List.getElem_toArray, List.getElem_cons_zero, List.getElem_cons_succ, Act.put, List.setIfInBounds_toArray, List.set_cons_zero, List.set_cons_succ])
    refine wpAnyH_take (i := 2) (oi := _) (v := ?_) rfl (by kernel_rfl) (by kernel_rfl) (by kernel_rfl) (fun _ _ _ h => h) (Or.inl ⟨by rfl, ?_⟩) (by assumption) ?_
    rotate_left
    · (intro w hSw; (try dsimp only at hSw); (try go_split_ands); go_simp; (try with_reducible rfl))
    (try simp only [List.getElem_toArray, List.getElem_cons_zero, List.getElem_cons_succ, Act.put, List.setIfInBounds_toArray, List.set_cons_zero, List.set_cons_succ])
    refine wpAnyH_take (i := 3) (oi := _) (v := ?_) rfl (by kernel_rfl) (by kernel_rfl) (by kernel_rfl) (fun _ _ _ h => h) (Or.inl ⟨by rfl, ?_⟩) (by assumption) ?_
    rotate_left
    · (intro w hSw; (try dsimp only at hSw); (try go_split_ands); go_simp; (try with_reducible rfl))
    (try simp only [List.getElem_toArray, List.getElem_cons_zero, List.getElem_cons_succ, Act.put, List.setIfInBounds_toArray, List.set_cons_zero, List.set_cons_succ])
    refine wpAnyH_ready (rs := [4]) (by kernel_rfl) (by simp) ?_
    refine AllReadyH.cons (o := _) rfl (fun K hK => ?_) AllReadyH.nil
    (try simp only [List.getElem_toArray, List.getElem_cons_zero, List.getElem_cons_succ])
    go_simp
    refine (GD.out _).mono ?_; rintro r w5 ⟨rfl, rfl⟩
    refine hK.out _ _ (b0) (fun hHeld => ?_)
    clear hK K
    (try simp only [List.getElem_toArray, List.getElem_cons_zero, List.getElem_cons_succ, Act.put, List.setIfInBounds_toArray, List.set_cons_zero, List.set_cons_succ])
    refine wpAnyH_ready (rs := [5]) (by kernel_rfl) (by simp) ?_
    refine AllReadyH.cons (o := _) rfl (fun K hK => ?_) AllReadyH.nil
    (try simp only [List.getElem_toArray, List.getElem_cons_zero, List.getElem_cons_succ])
    go_simp
    refine (GLg.out _).mono ?_; rintro r w4 ⟨rfl, hw4⟩
    have b4 := b0.trans (hw4.mono b0.size)
    refine hK.out _ _ (b4) (fun hHeld => ?_)
    clear hK K
    (try simp only [List.getElem_toArray, List.getElem_cons_zero, List.getElem_cons_succ, Act.put, List.setIfInBounds_toArray, List.set_cons_zero, List.set_cons_succ])
    have hx1 := HS1.out
    refine wpAnyH_take (i := 6) (oi := _) (v := ?_) rfl (by kernel_rfl) (by kernel_rfl) (by kernel_rfl) (fun _ _ _ h => h) (Or.inl ⟨by rfl, ?_⟩) (by assumption) ?_
    rotate_left
    · (intro w hSw; (try dsimp only at hSw); (try go_split_ands); go_simp; (try with_reducible rfl))
    (try simp only [List.getElem_toArray, List.getElem_cons_zero, List.getElem_cons_succ, Act.put, List.setIfInBounds_toArray, List.set_cons_zero, List.set_cons_succ])
    obtain ⟨⟨q0, q1⟩, ⟨f0, f1⟩, lt, b5⟩ := FIN.out w4 b4
    refine wpAnyH_done (by kernel_rfl) ?_ _
    go_wp2_with fail
    ((try simp only [Exit.inBlock, Exit.then]); refine bodyPost_ret (by simp [results, Try.results12, go_sem, q0, q1, lt]; try rfl) rfl ?_)
    exact ⟨HV2.out.symm ▸ rfl, by repeat' (first | (with_reducible exact Below.refl _ _) | (with_reducible assumption) | (with_reducible refine below_drewN ?_ _) | (with_reducible refine Below.alloc ?_ ?_ _) | (with_reducible refine Below.drew ?_) | (with_reducible refine Below.setCell ?_ ?_ _) | go_size)⟩
end Go.Proofs.Yteoomhkdffnkkaa
