/- XdrWrites: numbers, truth values and texts, put behind any bytes, are what the document says, and the bytes they were put behind stand: for every input the law returns true. Conditions: none. -/
import Derived.Test.YtnfibmoajimolaaXdrRefWrite2
import Derived.Test.YtnfibmoajimolaaXdrWrite2
import Derived.Test.YtnfibmoajimolaaOpenBytes
import Derived.Test.YtnfibmoajimolaaHeld
namespace Go.Proofs.Ytnfibmoajimolaa
set_option linter.unusedVariables false
set_option linter.unusedSimpArgs false
open Go.ChangeShapes Go.WideShapes Go.ChangeAt Go.RowKit Pl
attribute [local go_sem] ba_toList ba_size

theorem sevens (w : World) : BytesV (w.alloc (.cells #[.int .u8 7, .int .u8 7, .int .u8 7, .int .u8 7, .int .u8 7, .int .u8 7, .int .u8 7, .int .u8 7] 5)) (.slice (some ⟨w.heap.size, 0, none⟩) 8 8) (List.replicate 8 7) :=
  bytesV_block w (List.replicate 8 7) 5 (by unfold maxLen; simp)

theorem refWord_wrap (v : Value) (l : List UInt8) (n : Int) (w : World) (hl : BytesV w v l) (hsum : l.length + 4 ≤ 140737488355328) :
    Calls Try.prog 15 #[v, .int .u32 (IntKind.u32.wrap n)] w fun e w' => ∃ v', e = .returned v' ∧ BytesV w' v' (l ++ be 4 (n % 4294967296).toNat) ∧ Below w.heap.size w w' := by
  have h : IntKind.u32.wrap n = n % 4294967296 := by rw [IntKind.wrap_u32]
  rw [h]
  exact refWord_int v l _ w hl (by omega) (by omega) hsum

theorem refInt_wrap (v : Value) (l : List UInt8) (n : Int) (w : World) (hl : BytesV w v l) (hsum : l.length + 8 ≤ 140737488355328) :
    Calls Try.prog 17 #[v, .int .i64 (IntKind.i64.wrap n)] w fun e w' => ∃ v', e = .returned v' ∧ BytesV w' v' (l ++ be 8 (IntKind.u64.wrap (wrap64 n)).toNat) ∧ Below w.heap.size w w' := by
  have h : IntKind.i64.wrap n = wrap64 n := by rw [IntKind.wrap_i64]; unfold wrap64; omega
  rw [h]
  exact refInt_any v l _ w hl hsum

set_option maxRecDepth 100000 in
set_option maxHeartbeats 6400000 in
theorem writes_any (v : Value) (l k : List UInt8) (n : Int) (is : Bool) (w : World) (hl : BytesV w v l) (hk : k.length ≤ maxLen) (h0 : 0 ≤ n) (hn : n < 18446744073709551616) :
    Calls Try.prog 3 #[v, .int .u64 n, .bool is, sv k] w fun e w' => e = .returned (.bool true) ∧ Below w.heap.size w w' := by
  have hlm := hl.len
  unfold maxLen at hlm hk
  by_cases h1 : 3000 < l.length
  · obtain ⟨A, c, rfl, _⟩ := hl
    have h1' : (3000 : Int) < (l.length : Int) := by omega
    go_enter Try.func3, Try.ntmps3
    go_wp2_with fail
    go_ret
    exact ⟨rfl, Below.refl _ _⟩
  by_cases h2 : 3000 < k.length
  · obtain ⟨A, c, rfl, _⟩ := hl
    have h1' : ¬ (3000 : Int) < (l.length : Int) := by omega
    have h2' : (3000 : Int) < (k.length : Int) := by omega
    go_enter Try.func3, Try.ntmps3
    go_wp2_with fail
    go_ret
    exact ⟨rfl, Below.refl _ _⟩
  obtain ⟨i0, hi, hz0, hz1, hz2⟩ := info_parts info_u8
  have h1' : ¬ (3000 : Int) < (l.length : Int) := by omega
  have h2' : ¬ (3000 : Int) < (k.length : Int) := by omega
  have hl0 := hl.alloc (.cells #[] 5)
  have HV := Lib.hid hl
  obtain ⟨A, c, rfl, hl1, hl2, hl3, hl4⟩ := hl
  have HL := Lib.hid hl0
  clear hl0 hl4 hl3
  go_enter Try.func3, Try.ntmps3
  go_wp2_with (with_reducible refine wpList_append_fresh rfl _ _ rfl Try.underlying22 hi hz0 hz1 hz2 rfl rfl rfl (heap_alloc_new w _) (Nat.le_refl _) HL.out (by omega) ?_)
  intro v1 w1 hown1 hw1
  have b1 : Below w.heap.size w w1 := Below.trans (by repeat' (first | (with_reducible exact Below.refl _ _) | (with_reducible assumption) | (with_reducible refine below_drewN ?_ _) | (with_reducible refine Below.alloc ?_ ?_ _) | (with_reducible refine Below.drew ?_) | (with_reducible refine Below.setCell ?_ ?_ _) | go_size)) (hw1.mono (by simp))
  have s1 := b1.size
  go_wp2_with (at_builtin; refine wpList_append_own _ rfl _ _ 22 rfl w.heap.size 5 i0 (.int .u8 0) 1 1 Try.underlying22 hi hz0 hz1 hz2 rfl (by decide) v1 l.length (bc l) rfl (hown1.alloc _) ⟨w1.heap.size, 0, none⟩ 8 8 (bc (List.replicate 8 7)) rfl (by simp) ?_ ?_ ?_ ?_ ?_ ?_)
  · intro j u hj
    have hj' : j < 8 := by have := (List.getElem?_eq_some_iff.1 hj).1; simpa using this
    rw [Addr.add_lit, Nat.zero_add, cell_new _ _ _ _ _ rfl, ← hj]
    obtain rfl | rfl | rfl | rfl | rfl | rfl | rfl | rfl : j = 0 ∨ j = 1 ∨ j = 2 ∨ j = 3 ∨ j = 4 ∨ j = 5 ∨ j = 6 ∨ j = 7 := by omega
    all_goals rfl
  · exact bc_one _
  · unfold maxLen; omega
  · omega
  · simp; omega
  intro v2 w2 hown2 hgr2 _
  rw [← bc_append] at hown2
  have hb2 : Below w.heap.size w w2 := (b1.alloc (by omega) _).grown hgr2 (by simp; omega) (fun k hk => (hown1.lt k hk).1)
  have s2 := hb2.size
  clear hgr2
  have hv2 := BytesV.of_own hown2
  obtain ⟨g, cap, hv, hg0, hg1, hcap⟩ : ∃ g cap, v2 = .slice (some ⟨g, 0, none⟩) (l.length + 8) cap ∧ w.heap.size ≤ g ∧ g < w2.heap.size ∧ l.length + 8 ≤ cap := by
    rcases hown2.2 with ⟨_, h0⟩ | ⟨g, cap, cur, h1, h2, h3, h4, _⟩
    · omega
    · exact ⟨g, cap, h1, h2, (Array.getElem?_eq_some_iff.1 h3).1, h4⟩
  rw [hv]
  subst hv
  have hcell : ∀ j, (h : j < (l ++ List.replicate 8 7).length) → w2.cell? ⟨g, j, none⟩ = some (.int .u8 ((l ++ List.replicate 8 7)[j].toNat : Int)) := by
    intro j hj
    have := hown2.cells (g := g) rfl j _ (bc_get _ j hj)
    simpa [Addr.add_lit] using this
  have hin : BytesV w2 (.slice (some ⟨g, 0, none⟩) l.length cap) l := by
    refine ⟨_, cap, rfl, by omega, ?_, (fun h => by cases h), fun _ => ⟨g, 0, rfl, hg1, fun j hj => ?_⟩⟩
    · obtain ⟨_, c', e, _, hc', _⟩ := hv2
      injection e with _ _ e3
      omega
    · rw [Nat.zero_add, hcell j (by simp; omega), List.getElem_append_left hj]
  have hcapm : (l.length : Int) ≤ (cap : Int) := by omega
  have HC := Lib.hid hcell
  have HO := Lib.hid hown2
  have H2 := Lib.hid hv2
  clear hcell hown2 hv2 hown1
  have in2 := Lib.hid hin
  go_wp2_with fail
  refine (Word_any _ l _ _ hin (by omega) (by omega) (by omega)).mono ?_; rintro e w3 ⟨v3, rfl, r3, hw3⟩
  go_wp2_with fail
  refine (Long_any _ l _ _ (hin.below hw3) (by omega) (by omega) (by omega)).mono ?_; rintro e w4 ⟨v4, rfl, r4, hw4⟩
  have c4 : Below w2.heap.size w2 w4 := chain hw3 hw4
  go_wp2_with fail
  refine (Int_any _ l _ _ (hin.below c4) (by omega)).mono ?_; rintro e w5 ⟨v5, rfl, r5, hw5⟩
  have c5 : Below w2.heap.size w2 w5 := chain c4 hw5
  go_wp2_with fail
  refine (Flag_any _ l _ _ (hin.below c5) (by omega)).mono ?_; rintro e w6 ⟨v6, rfl, r6, hw6⟩
  have c6 : Below w2.heap.size w2 w6 := chain c5 hw6
  go_wp2_with fail
  refine (Text_any _ l k _ (hin.below c6) (by omega)).mono ?_; rintro e w7 ⟨v7, rfl, r7, hw7⟩
  have c7 : Below w2.heap.size w2 w7 := chain c6 hw7
  go_wp2_with fail
  refine (Fixed_any _ l k _ (hin.below c7) (by omega)).mono ?_; rintro e w8 ⟨v8, rfl, r8, hw8⟩
  have c8 : Below w2.heap.size w2 w8 := chain c7 hw8
  have b8 : Below w.heap.size w w8 := chain hb2 c8
  have q3 : ∀ W, Below w8.heap.size w8 W → BytesV W v3 (l ++ be 4 (n % 4294967296).toNat) := fun W h => ((((((r3.bytes.below hw4).below hw5).below hw6).below hw7).below hw8).below h)
  have q4 : ∀ W, Below w8.heap.size w8 W → BytesV W v4 (l ++ be 8 n.toNat) := fun W h => (((((r4.bytes.below hw5).below hw6).below hw7).below hw8).below h)
  have q5 : ∀ W, Below w8.heap.size w8 W → BytesV W v5 (l ++ be 8 (IntKind.u64.wrap (wrap64 n)).toNat) := fun W h => ((((r5.bytes.below hw6).below hw7).below hw8).below h)
  have q6 : ∀ W, Below w8.heap.size w8 W → BytesV W v6 (l ++ be 4 is.toNat) := fun W h => (((r6.bytes.below hw7).below hw8).below h)
  have q7 : ∀ W, Below w8.heap.size w8 W → BytesV W v7 (l ++ textB k) := fun W h => ((r7.below hw8).below h)
  have q8 : ∀ W, Below w8.heap.size w8 W → BytesV W v8 (l ++ fixB k) := fun W h => r8.below h
  have qb : ∀ W, Below w8.heap.size w8 W → BytesV W (.slice A l.length c) l := fun W h => (HV.out.below b8).below h
  have z3 := fun W h => (q3 W h).string (P := Try.prog) Try.underlying22 Try.underlying5 Try.underlying9
  have z4 := fun W h => (q4 W h).string (P := Try.prog) Try.underlying22 Try.underlying5 Try.underlying9
  have z5 := fun W h => (q5 W h).string (P := Try.prog) Try.underlying22 Try.underlying5 Try.underlying9
  have z6 := fun W h => (q6 W h).string (P := Try.prog) Try.underlying22 Try.underlying5 Try.underlying9
  have z7 := fun W h => (q7 W h).string (P := Try.prog) Try.underlying22 Try.underlying5 Try.underlying9
  have z8 := fun W h => (q8 W h).string (P := Try.prog) Try.underlying22 Try.underlying5 Try.underlying9
  have Q3 := Lib.hid q3
  have QB := Lib.hid qb
  have R3 := Lib.hid r3
  clear q3 q4 q5 q6 q7 q8 qb r3 r4 r5 r6 r7 r8 hin
  go_wp2_with fail
  go_region_held3 (fun W => Below w8.heap.size w8 W) (first | exact (Below.refl _ _).drew | assumption | (try go_split_ands); (repeat' refine And.intro ?_ ?_) <;> (first | assumption | exact Below.refl _ _ | exact chain (by assumption) hw'))
    (first
      | (go_at_call 15; (try go_split_ands); refine (refWord_wrap _ l _ _ (QB.out _ (by assumption)) (by omega)).mono ?_; rintro e w' ⟨v', rfl, hv', hw'⟩; have hcv := hv'.strings (P := Try.prog) Try.underlying22 Try.underlying5 Try.underlying9; have hE := shut_eq (fun W => Below w'.heap.size w' W) (by assumption); simp only [hE] at *)
      | (go_at_call 16; (try go_split_ands); refine (refLong_any _ l _ _ (QB.out _ (by assumption)) (by omega) (by omega) (by omega)).mono ?_; rintro e w' ⟨v', rfl, hv', hw'⟩; have hcv := hv'.strings (P := Try.prog) Try.underlying22 Try.underlying5 Try.underlying9; have hE := shut_eq (fun W => Below w'.heap.size w' W) (by assumption); simp only [hE] at *)
      | (go_at_call 17; (try go_split_ands); refine (refInt_wrap _ l _ _ (QB.out _ (by assumption)) (by omega)).mono ?_; rintro e w' ⟨v', rfl, hv', hw'⟩; have hcv := hv'.strings (P := Try.prog) Try.underlying22 Try.underlying5 Try.underlying9; have hE := shut_eq (fun W => Below w'.heap.size w' W) (by assumption); simp only [hE] at *)
      | (go_at_call 18; (try go_split_ands); refine (refFlag_any _ l _ _ (QB.out _ (by assumption)) (by omega)).mono ?_; rintro e w' ⟨v', rfl, hv', hw'⟩; have hcv := hv'.strings (P := Try.prog) Try.underlying22 Try.underlying5 Try.underlying9; have hE := shut_eq (fun W => Below w'.heap.size w' W) (by assumption); simp only [hE] at *)
      | (go_at_call 19; (try go_split_ands); refine (refText_any _ l k _ (QB.out _ (by assumption)) (by omega)).mono ?_; rintro e w' ⟨v', rfl, hv', hw'⟩; have hcv := hv'.strings (P := Try.prog) Try.underlying22 Try.underlying5 Try.underlying9; have hE := shut_eq (fun W => Below w'.heap.size w' W) (by assumption); simp only [hE] at *)
      | (go_at_call 20; (try go_split_ands); refine (refFixed_any _ l k _ (QB.out _ (by assumption)) (by omega)).mono ?_; rintro e w' ⟨v', rfl, hv', hw'⟩; have hcv := hv'.strings (P := Try.prog) Try.underlying22 Try.underlying5 Try.underlying9; have hE := shut_eq (fun W => Below w'.heap.size w' W) (by assumption); simp only [hE] at *))
  have c9 : Below w8.heap.size w8 w' := by (try go_split_ands); assumption
  have d9 : Below w2.heap.size w2 w' := chain c8 c9
  have R9 := ((((((R3.out.below hw4).below hw5).below hw6).below hw7).below hw8).below c9)
  have hn3 : (l ++ be 4 (n % 4294967296).toNat).length = l.length + 4 := by simp
  clear z3 z4 z5 z6 z7 z8
  generalize hLL : l ++ be 4 (n % 4294967296).toNat = LL at R9 hn3
  obtain ⟨g3, c3, rfl, hg30, hg31, hg32, hg33, hcell3⟩ := R9
  have R9 : RowB w' w2.heap.size (.slice (some ⟨g3, 0, none⟩) LL.length c3) LL := ⟨g3, c3, rfl, hg30, hg31, hg32, hg33, hcell3⟩
  clear hcell3
  have H3 := Lib.hid hn3
  clear hn3
  generalize hN : LL.length = N at R9
  have HN := Lib.hid hN
  have hNm : (N : Int) ≤ 3004 := by have := H3.out; omega
  clear hN
  go_wp2_with fail
  go_loopw [17] (fun i W => ∃ q : Nat, q ≤ N ∧ i = .int .i64 q ∧ (∃ ll : List UInt8, ll.length = N ∧ RowB W w2.heap.size (.slice (some ⟨g3, 0, none⟩) N c3) ll) ∧ Below w2.heap.size w2 W) (fun i _ => N - (intOf i).toNat)
  case atStart => exact ⟨0, Nat.zero_le _, rfl, ⟨LL, HN.out, R9⟩, d9⟩
  case round =>
    obtain ⟨q, hq, rfl, ⟨ll, hll, hrow⟩, hbel⟩ := hrel
    have hbs := hbel.size
    by_cases hlt : q < N
    · obtain ⟨ck, fk⟩ := hrow.at (k := q) (by omega)
      have hq1 : (q : Int) < (N : Int) := by omega
      go_wp2_with fail
      go_roundw
      case rel =>
        refine ⟨q + 1, hlt, by go_num, ⟨ll.set q 9, by simp [hll], ?_⟩, hbel.setCell (by omega) _⟩
        subst hll
        exact hrow.set 9 hlt
      case measure => simp [intOf]; omega
    · obtain rfl : q = N := by omega
      go_wp2_with fail
      go_loop [16, 18] (fun b i => ∃ p : Nat, p ≤ 8 ∧ i = .int .i64 p ∧ b = .bool true) (fun _ i => 8 - (intOf i).toNat)
      case atStart => exact ⟨0, Nat.zero_le _, rfl, rfl⟩
      case round =>
        obtain ⟨p, hp, rfl, rfl⟩ := hrel
        have hcap8 : ((l.length : Int) + 8) ≤ (cap : Int) := by omega
        by_cases hlt : p < 8
        · have ck : ‹World›.cell? ⟨g, l.length + p, none⟩ = some (.int .u8 7) := by
            rw [hbel.cell (p := ⟨g, l.length + p, none⟩) hg1, HC.out (l.length + p) (by simp; omega), List.getElem_append_right (by omega), List.getElem_replicate]
            rfl
          have hp8 : (p : Int) < 8 := by omega
          go_wp2_with fail
          go_round
          case rel => exact ⟨p + 1, by omega, by go_num, rfl⟩
          case measure => simp [intOf]; omega
        · obtain rfl : p = 8 := by omega
          have e1 := (in2.out.below hbel).string (P := Try.prog) Try.underlying22 Try.underlying5 Try.underlying9
          have e2 := (HV.out.below (chain hb2 hbel)).string (P := Try.prog) Try.underlying22 Try.underlying5 Try.underlying9
          go_wp2_with fail
          go_ret
          exact ⟨rfl, chain hb2 hbel⟩

theorem writes_walk : Walks Try.prog 3 Try.f3 := by
  intro H enc W args ds p base hval hA _
  rw [Try.params3] at hA hval
  obtain ⟨v0, v1, v2, v3, d0, d1, d2, d3, p0, p1, p2, p3, rfl, rfl, rfl, h0, h1, h2, h3⟩ := trodAll_four hA
  obtain ⟨l, hl⟩ := open_bytes (hval 0 _ v0 rfl rfl) h0
  obtain ⟨n, rfl, _, _, hn⟩ := open_int Try.underlying23 (hval 1 _ v1 rfl rfl) h1
  obtain ⟨b, rfl⟩ := okWide_bool Try.underlying4 (hval 2 _ v2 rfl rfl)
  obtain ⟨k, rfl, hk⟩ := open_text (hval 3 _ v3 rfl rfl) h3
  have hb := bounds_u64 hn
  exact writes_any v0 l k n b W hl hk hb.1 (by omega)

theorem XdrWrites_holds : Rows.XdrWritesSaid :=
  OpenClaim.holds_of_wide 3 Try.f3 rfl rfl rfl rfl rfl rfl rfl ⟨rfl, rfl, rfl, rfl, rfl⟩ rfl rfl rfl rfl rfl (by kernel_rfl) Try.func3 (by kernel_rfl)
    (of_decide_eq_true (by kernel_rfl)) (by unfold Func.isWrapper; first | (rw [if_pos (by decide +kernel)]; kernel_rfl) | (rw [if_neg (by decide +kernel)]; exact ⟨rfl, rfl⟩))
    (fun os started H enc _ => law_lifted (C := Try.checked) (s := Rows.xdrWritesSpec) own started (by kernel_rfl) Try.func3 laidOut rfl rfl Try.underlying4
      (by have h : ∀ u ∈ Try.f3.params.toList, (Try.prog.readableRec u && decide (u < Try.prog.types.size)) = true := List.all_eq_true.1 (by kernel_rfl)
          intro u hu; have := h u hu; rw [Bool.and_eq_true, decide_eq_true_eq] at this; exact this)
      (by intro H l hl; rw [show Try.f3.params.size = 4 from by rw [Try.params3]; rfl] at hl; match l, hl with | [d0, d1, d2, d3], _ => rfl)
      H enc (ChangeSpec.witness6 (enc := enc) (C := Try.checked) false ⟨#[], #[.slice none 0 0, .int .u64 0, .bool false, .string ⟨#[]⟩], []⟩ 8 (by kernel_rfl) (by kernel_rfl) (by kernel_rfl) (by kernel_rfl)) writes_walk)
#print axioms XdrWrites_holds
end Go.Proofs.Ytnfibmoajimolaa
