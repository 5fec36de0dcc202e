/- XdrOnly: what was read of bytes, and is written again, is just these bytes: for every input the law returns true. Conditions: none. -/
import Derived.Test.YtnfibmoajimolaaWorks
import Derived.Test.YtnfibmoajimolaaReadBack
import Derived.Test.YtnfibmoajimolaaSteps
import Derived.Test.YtnfibmoajimolaaXdrRefWrite2
namespace Go.Proofs.Ytnfibmoajimolaa
set_option linter.unusedVariables false
set_option linter.unusedSimpArgs false
open Go.ChangeShapes Go.WideShapes Go.ChangeAt Go.RowKit Pl
attribute [local go_sem] ba_toList ba_size

theorem bytes_prefix {w : World} {A : Option Addr} {c k : Nat} {l : List UInt8} (hv : BytesV w (.slice A l.length c) l) (hk : k ≤ l.length) : BytesV w (.slice A k c) (l.take k) := by
  obtain ⟨A', c', e, hl, hc, hn, hr⟩ := hv
  injection e with e1 _ e3
  subst e1 e3
  have hkl : (l.take k).length = k := by simp; omega
  refine ⟨A, c, by rw [hkl], by omega, hc, hn, fun h0 => ?_⟩
  obtain ⟨b, off, e, hb, hcell⟩ := hr (by omega)
  exact ⟨b, off, e, hb, fun j hj => by rw [hcell j (by omega), List.getElem_take]⟩

set_option maxRecDepth 100000 in
set_option maxHeartbeats 12800000 in
theorem only_any (x y : Value) (l : List UInt8) (L : List (UInt8 × Int)) (w : World) (hl : BytesV w x l) (hL : StepsV w y L) :
    Calls Try.prog 8 #[x, y] w fun e w' => e = .returned (.bool true) ∧ Below w.heap.size w w' := by
  have hlm := hl.len
  have HV := Lib.hid hl
  have HS := Lib.hid hL
  unfold maxLen at hlm
  obtain ⟨A, c, rfl, ra⟩ := hl
  obtain ⟨B, d, rfl, rb1, rb2, rb⟩ := hL
  unfold maxLen at rb2
  clear ra rb
  by_cases hg : 3000 < l.length ∨ 100 < L.length
  · by_cases h1 : (3000 : Int) < (l.length : Int)
    · go_enter Try.func8, Try.ntmps8
      go_wp2_with fail
      refine (works_any _).mono ?_; rintro e w1 ⟨rfl, hw1⟩
      go_wp2_with fail
      refine (works_any _).mono ?_; rintro e w2 ⟨rfl, hw2⟩
      go_wp2_with fail
      go_ret
      exact ⟨rfl, chain hw1 hw2⟩
    have h2 : (100 : Int) < (L.length : Int) := by omega
    go_enter Try.func8, Try.ntmps8
    go_wp2_with fail
    refine (works_any _).mono ?_; rintro e w1 ⟨rfl, hw1⟩
    go_wp2_with fail
    refine (works_any _).mono ?_; rintro e w2 ⟨rfl, hw2⟩
    go_wp2_with fail
    go_ret
    exact ⟨rfl, chain hw1 hw2⟩
  have h1 : ¬ (3000 : Int) < (l.length : Int) := by omega
  have h2 : ¬ (100 : Int) < (L.length : Int) := by omega
  clear hg
  obtain ⟨N, hN⟩ : ∃ N, l.length = N := ⟨_, rfl⟩
  obtain ⟨M, hM⟩ : ∃ M, L.length = M := ⟨_, rfl⟩
  have HN := Lib.hid hN
  have HM := Lib.hid hM
  rw [hN] at HV h1 ⊢
  rw [hM] at HS h2 ⊢
  have hNm : N ≤ 3000 := by omega
  clear hN hM hlm rb1 rb2
  go_enter Try.func8, Try.ntmps8
  go_wp2_with fail
  refine (works_any _).mono ?_; rintro e w1 ⟨rfl, hw1⟩
  go_wp2_with fail
  refine (NewReader_any _ l _ (HV.out.below hw1) (by rw [HN.out]; omega)).mono ?_; rintro e w2 ⟨g, h, rfl, rd, hw2, hg0, hh0, hg1, hh1⟩
  have b2 := chain hw1 hw2
  have s1 := hw1.size
  have s2 := hw2.size
  go_wp2_with fail
  go_loopw [6, 7, 8] (fun o i _ W => ∃ (q : Nat) (O r : List UInt8), q ≤ M ∧ i = .int .i64 q ∧ O ++ r = l ∧ BytesV W o O ∧ Rd W g h (some r) ∧ w2.grownBy W (some g)) (fun _ i _ _ => M - (intOf i).toNat)
  case atStart => exact ⟨0, [], l, Nat.zero_le _, rfl, rfl, BytesV.nil _, rd, World.grownBy.refl _ _⟩
  case round =>
    obtain ⟨q, O, r, hq, rfl, hOr, hO, hR, hgW⟩ := hrel
    have bW := below_by b2 hgW (by omega) (by omega)
    have hSW := HS.out.below bW
    have sW := hgW.size
    have hOl : O.length + r.length = N := by rw [← HN.out, ← hOr, List.length_append]
    have hOR := Lib.hid hOr
    clear hOr
    by_cases hlt : q < M
    · obtain ⟨B', d', e, _, _, hx⟩ := hSW
      injection e with eB eM ed
      clear eM
      subst eB ed
      obtain ⟨bk, off, rfl, hbk, hcell⟩ := hx (by rw [HM.out]; omega)
      obtain ⟨f0, f1, nb0, nb1⟩ := hcell q (by rw [HM.out]; exact hlt)
      generalize (L[q]'(by rw [HM.out]; exact hlt)) = st at f0 f1 nb0 nb1
      obtain ⟨kk, n⟩ := st
      simp only at f0 f1 nb0 nb1
      rw [← Nat.add_assoc] at f1
      have hkk : (kk.toNat : Int) < 256 := by have := kk.toNat_lt; omega
      have hk0 : 0 ≤ (kk.toNat : Int) := by omega
      generalize (kk.toNat : Int) = K at f0 hkk hk0
      clear hx hcell
      have hq1 : (q : Int) < (M : Int) := by omega
      by_cases k0 : K = 0
      · subst k0
        have hxl := wordR_lt (some r)
        obtain ⟨xx, r', hp⟩ : ∃ xx r', wordR (some r) = (xx, r') := ⟨_, _, rfl⟩
        rw [hp] at hxl
        simp only at hxl
        have hp := Lib.hid hp
        cases r' with
        | none =>
          go_wp2_with fail
          refine (rWord_any _ hR).mono ?_; rintro e w3 ⟨rfl, h3, g3⟩
          rw [hp.out] at h3 ⊢
          have hO := hO.read hR g3
          go_wp2_with fail
          refine (Word_any _ O _ _ hO (by omega) (by omega) (by omega)).mono ?_; rintro e w4 ⟨v4, rfl, r4, hw4⟩
          have h4 := h3.below hw4
          have g4 := gtrans hgW (gtrans g3 (wb_of hw4 (some g)))
          have q4 : BytesV w4 v4 (O ++ be 4 xx) := r4.bytes
          clear r4
          go_wp2_with fail
          refine (OK_any _ h4).mono ?_; rintro e w' ⟨rfl, rfl⟩
          go_wp2_with fail
          refine (Left_any _ h4).mono ?_; rintro e w' ⟨rfl, rfl⟩
          go_wp2_with fail
          go_ret
          exact ⟨rfl, below_by b2 g4 (by omega) (by omega)⟩
        | some r' =>
          go_wp2_with fail
          refine (rWord_any _ hR).mono ?_; rintro e w3 ⟨rfl, h3, g3⟩
          rw [hp.out] at h3 ⊢
          have hO := hO.read hR g3
          go_wp2_with fail
          refine (Word_any _ O _ _ hO (by omega) (by omega) (by omega)).mono ?_; rintro e w4 ⟨v4, rfl, r4, hw4⟩
          have h4 := h3.below hw4
          have g4 := gtrans hgW (gtrans g3 (wb_of hw4 (some g)))
          have q4 : BytesV w4 v4 (O ++ be 4 xx) := r4.bytes
          clear r4
          go_wp2_with fail
          refine (OK_any _ h4).mono ?_; rintro e w' ⟨rfl, rfl⟩
          go_wp2_with fail
          go_roundw
          case rel => exact ⟨q + 1, _, r', hlt, by go_num, by rw [List.append_assoc, (word_back hp.out).1]; exact hOR.out, q4, h4, g4⟩
          case measure => simp [intOf]; omega
      have n0 : (K == 0) = false := by rw [beq_eq_false_iff_ne]; exact k0
      by_cases k1 : K = 1
      · subst k1
        have hxl := longR_lt (some r)
        obtain ⟨xx, r', hp⟩ : ∃ xx r', longR (some r) = (xx, r') := ⟨_, _, rfl⟩
        rw [hp] at hxl
        simp only at hxl
        have hp := Lib.hid hp
        cases r' with
        | none =>
          go_wp2_with fail
          refine (rLong_any _ hR).mono ?_; rintro e w3 ⟨rfl, h3, g3⟩
          rw [hp.out] at h3 ⊢
          have hO := hO.read hR g3
          go_wp2_with fail
          refine (Long_any _ O _ _ hO (by omega) (by omega) (by omega)).mono ?_; rintro e w4 ⟨v4, rfl, r4, hw4⟩
          have h4 := h3.below hw4
          have g4 := gtrans hgW (gtrans g3 (wb_of hw4 (some g)))
          have q4 : BytesV w4 v4 (O ++ be 8 xx) := r4.bytes
          clear r4
          go_wp2_with fail
          refine (OK_any _ h4).mono ?_; rintro e w' ⟨rfl, rfl⟩
          go_wp2_with fail
          refine (Left_any _ h4).mono ?_; rintro e w' ⟨rfl, rfl⟩
          go_wp2_with fail
          go_ret
          exact ⟨rfl, below_by b2 g4 (by omega) (by omega)⟩
        | some r' =>
          go_wp2_with fail
          refine (rLong_any _ hR).mono ?_; rintro e w3 ⟨rfl, h3, g3⟩
          rw [hp.out] at h3 ⊢
          have hO := hO.read hR g3
          go_wp2_with fail
          refine (Long_any _ O _ _ hO (by omega) (by omega) (by omega)).mono ?_; rintro e w4 ⟨v4, rfl, r4, hw4⟩
          have h4 := h3.below hw4
          have g4 := gtrans hgW (gtrans g3 (wb_of hw4 (some g)))
          have q4 : BytesV w4 v4 (O ++ be 8 xx) := r4.bytes
          clear r4
          go_wp2_with fail
          refine (OK_any _ h4).mono ?_; rintro e w' ⟨rfl, rfl⟩
          go_wp2_with fail
          go_roundw
          case rel => exact ⟨q + 1, _, r', hlt, by go_num, by rw [List.append_assoc, (long_back hp.out).1]; exact hOR.out, q4, h4, g4⟩
          case measure => simp [intOf]; omega
      have n1 : (K == 1) = false := by rw [beq_eq_false_iff_ne]; exact k1
      by_cases k2 : K = 2
      · subst k2
        have hxl := longR_lt (some r)
        obtain ⟨xx, r', hp⟩ : ∃ xx r', longR (some r) = (xx, r') := ⟨_, _, rfl⟩
        rw [hp] at hxl
        simp only at hxl
        have hp := Lib.hid hp
        cases r' with
        | none =>
          go_wp2_with fail
          refine (rInt_any _ hR).mono ?_; rintro e w3 ⟨rfl, h3, g3⟩
          rw [hp.out] at h3 ⊢
          have hO := hO.read hR g3
          go_wp2_with fail
          refine (Int_any _ O _ _ hO (by omega)).mono ?_; rintro e w4 ⟨v4, rfl, r4, hw4⟩
          have h4 := h3.below hw4
          have g4 := gtrans hgW (gtrans g3 (wb_of hw4 (some g)))
          have q4 : BytesV w4 v4 (O ++ be 8 xx) := (congrArg (fun z => BytesV w4 v4 (O ++ z)) (be8_back xx hxl)).mp r4.bytes
          clear r4
          go_wp2_with fail
          refine (OK_any _ h4).mono ?_; rintro e w' ⟨rfl, rfl⟩
          go_wp2_with fail
          refine (Left_any _ h4).mono ?_; rintro e w' ⟨rfl, rfl⟩
          go_wp2_with fail
          go_ret
          exact ⟨rfl, below_by b2 g4 (by omega) (by omega)⟩
        | some r' =>
          go_wp2_with fail
          refine (rInt_any _ hR).mono ?_; rintro e w3 ⟨rfl, h3, g3⟩
          rw [hp.out] at h3 ⊢
          have hO := hO.read hR g3
          go_wp2_with fail
          refine (Int_any _ O _ _ hO (by omega)).mono ?_; rintro e w4 ⟨v4, rfl, r4, hw4⟩
          have h4 := h3.below hw4
          have g4 := gtrans hgW (gtrans g3 (wb_of hw4 (some g)))
          have q4 : BytesV w4 v4 (O ++ be 8 xx) := (congrArg (fun z => BytesV w4 v4 (O ++ z)) (be8_back xx hxl)).mp r4.bytes
          clear r4
          go_wp2_with fail
          refine (OK_any _ h4).mono ?_; rintro e w' ⟨rfl, rfl⟩
          go_wp2_with fail
          go_roundw
          case rel => exact ⟨q + 1, _, r', hlt, by go_num, by rw [List.append_assoc, (long_back hp.out).1]; exact hOR.out, q4, h4, g4⟩
          case measure => simp [intOf]; omega
      have n2 : (K == 2) = false := by rw [beq_eq_false_iff_ne]; exact k2
      by_cases k3 : K = 3
      · subst k3
        have hxl := Bool.toNat_lt (flagR (some r)).1
        obtain ⟨xx, r', hp⟩ : ∃ xx r', flagR (some r) = (xx, r') := ⟨_, _, rfl⟩
        rw [hp] at hxl
        simp only at hxl
        have hp := Lib.hid hp
        cases r' with
        | none =>
          go_wp2_with fail
          refine (rFlag_any _ hR).mono ?_; rintro e w3 ⟨rfl, h3, g3⟩
          rw [hp.out] at h3 ⊢
          have hO := hO.read hR g3
          go_wp2_with fail
          refine (Flag_any _ O _ _ hO (by omega)).mono ?_; rintro e w4 ⟨v4, rfl, r4, hw4⟩
          have h4 := h3.below hw4
          have g4 := gtrans hgW (gtrans g3 (wb_of hw4 (some g)))
          have q4 : BytesV w4 v4 (O ++ be 4 xx.toNat) := r4.bytes
          clear r4
          go_wp2_with fail
          refine (OK_any _ h4).mono ?_; rintro e w' ⟨rfl, rfl⟩
          go_wp2_with fail
          refine (Left_any _ h4).mono ?_; rintro e w' ⟨rfl, rfl⟩
          go_wp2_with fail
          go_ret
          exact ⟨rfl, below_by b2 g4 (by omega) (by omega)⟩
        | some r' =>
          go_wp2_with fail
          refine (rFlag_any _ hR).mono ?_; rintro e w3 ⟨rfl, h3, g3⟩
          rw [hp.out] at h3 ⊢
          have hO := hO.read hR g3
          go_wp2_with fail
          refine (Flag_any _ O _ _ hO (by omega)).mono ?_; rintro e w4 ⟨v4, rfl, r4, hw4⟩
          have h4 := h3.below hw4
          have g4 := gtrans hgW (gtrans g3 (wb_of hw4 (some g)))
          have q4 : BytesV w4 v4 (O ++ be 4 xx.toNat) := r4.bytes
          clear r4
          go_wp2_with fail
          refine (OK_any _ h4).mono ?_; rintro e w' ⟨rfl, rfl⟩
          go_wp2_with fail
          go_roundw
          case rel => exact ⟨q + 1, _, r', hlt, by go_num, by rw [List.append_assoc, flag_back hp.out]; exact hOR.out, q4, h4, g4⟩
          case measure => simp [intOf]; omega
      have n3 : (K == 3) = false := by rw [beq_eq_false_iff_ne]; exact k3
      by_cases k4 : K = 4
      · subst k4
        have hxl := text_len n r
        obtain ⟨xx, r', hp⟩ : ∃ xx r', textR n (some r) = (xx, r') := ⟨_, _, rfl⟩
        rw [hp] at hxl
        simp only at hxl
        have hp := Lib.hid hp
        cases r' with
        | none =>
          go_wp2_with fail
          refine (rText_any n _ hR).mono ?_; rintro e w3 ⟨rfl, h3, g3⟩
          rw [hp.out] at h3 ⊢
          have hO := hO.read hR g3
          go_wp2_with fail
          refine (Text_any _ O xx _ hO (by omega)).mono ?_; rintro e w4 ⟨v4, rfl, r4, hw4⟩
          have h4 := h3.below hw4
          have g4 := gtrans hgW (gtrans g3 (wb_of hw4 (some g)))
          have q4 : BytesV w4 v4 (O ++ textB xx) := r4
          clear r4
          go_wp2_with fail
          refine (OK_any _ h4).mono ?_; rintro e w' ⟨rfl, rfl⟩
          go_wp2_with fail
          refine (Left_any _ h4).mono ?_; rintro e w' ⟨rfl, rfl⟩
          go_wp2_with fail
          go_ret
          exact ⟨rfl, below_by b2 g4 (by omega) (by omega)⟩
        | some r' =>
          go_wp2_with fail
          refine (rText_any n _ hR).mono ?_; rintro e w3 ⟨rfl, h3, g3⟩
          rw [hp.out] at h3 ⊢
          have hO := hO.read hR g3
          go_wp2_with fail
          refine (Text_any _ O xx _ hO (by omega)).mono ?_; rintro e w4 ⟨v4, rfl, r4, hw4⟩
          have h4 := h3.below hw4
          have g4 := gtrans hgW (gtrans g3 (wb_of hw4 (some g)))
          have q4 : BytesV w4 v4 (O ++ textB xx) := r4
          clear r4
          go_wp2_with fail
          refine (OK_any _ h4).mono ?_; rintro e w' ⟨rfl, rfl⟩
          go_wp2_with fail
          go_roundw
          case rel => exact ⟨q + 1, _, r', hlt, by go_num, by rw [List.append_assoc, text_back hp.out]; exact hOR.out, q4, h4, g4⟩
          case measure => simp [intOf]; omega
      have n4 : (K == 4) = false := by rw [beq_eq_false_iff_ne]; exact k4
      by_cases k5 : K = 5
      · subst k5
        have hxl := fix_len n r
        obtain ⟨xx, r', hp⟩ : ∃ xx r', fixR n (some r) = (xx, r') := ⟨_, _, rfl⟩
        rw [hp] at hxl
        simp only at hxl
        have hp := Lib.hid hp
        cases r' with
        | none =>
          go_wp2_with fail
          refine (rFixed_any n _ hR nb1).mono ?_; rintro e w3 ⟨rfl, h3, g3⟩
          rw [hp.out] at h3 ⊢
          have hO := hO.read hR g3
          go_wp2_with fail
          refine (Fixed_any _ O xx _ hO (by omega)).mono ?_; rintro e w4 ⟨v4, rfl, r4, hw4⟩
          have h4 := h3.below hw4
          have g4 := gtrans hgW (gtrans g3 (wb_of hw4 (some g)))
          have q4 : BytesV w4 v4 (O ++ fixB xx) := r4
          clear r4
          go_wp2_with fail
          refine (OK_any _ h4).mono ?_; rintro e w' ⟨rfl, rfl⟩
          go_wp2_with fail
          refine (Left_any _ h4).mono ?_; rintro e w' ⟨rfl, rfl⟩
          go_wp2_with fail
          go_ret
          exact ⟨rfl, below_by b2 g4 (by omega) (by omega)⟩
        | some r' =>
          go_wp2_with fail
          refine (rFixed_any n _ hR nb1).mono ?_; rintro e w3 ⟨rfl, h3, g3⟩
          rw [hp.out] at h3 ⊢
          have hO := hO.read hR g3
          go_wp2_with fail
          refine (Fixed_any _ O xx _ hO (by omega)).mono ?_; rintro e w4 ⟨v4, rfl, r4, hw4⟩
          have h4 := h3.below hw4
          have g4 := gtrans hgW (gtrans g3 (wb_of hw4 (some g)))
          have q4 : BytesV w4 v4 (O ++ fixB xx) := r4
          clear r4
          go_wp2_with fail
          refine (OK_any _ h4).mono ?_; rintro e w' ⟨rfl, rfl⟩
          go_wp2_with fail
          go_roundw
          case rel => exact ⟨q + 1, _, r', hlt, by go_num, by rw [List.append_assoc, (fix_back hp.out).1]; exact hOR.out, q4, h4, g4⟩
          case measure => simp [intOf]; omega
      have n5 : (K == 5) = false := by rw [beq_eq_false_iff_ne]; exact k5
      have hxl := countR_lt n (some r)
      obtain ⟨xx, r', hp⟩ : ∃ xx r', countR n (some r) = (xx, r') := ⟨_, _, rfl⟩
      rw [hp] at hxl
      simp only at hxl
      have hp := Lib.hid hp
      cases r' with
      | none =>
        go_wp2_with fail
        refine (rCount_any n _ hR).mono ?_; rintro e w3 ⟨rfl, h3, g3⟩
        rw [hp.out] at h3 ⊢
        have hO := hO.read hR g3
        go_wp2_with fail
        refine (Word_any _ O _ _ hO (by omega) (by omega) (by omega)).mono ?_; rintro e w4 ⟨v4, rfl, r4, hw4⟩
        have h4 := h3.below hw4
        have g4 := gtrans hgW (gtrans g3 (wb_of hw4 (some g)))
        have q4 : BytesV w4 v4 (O ++ be 4 xx) := r4.bytes
        clear r4
        go_wp2_with fail
        refine (OK_any _ h4).mono ?_; rintro e w' ⟨rfl, rfl⟩
        go_wp2_with fail
        refine (Left_any _ h4).mono ?_; rintro e w' ⟨rfl, rfl⟩
        go_wp2_with fail
        go_ret
        exact ⟨rfl, below_by b2 g4 (by omega) (by omega)⟩
      | some r' =>
        go_wp2_with fail
        refine (rCount_any n _ hR).mono ?_; rintro e w3 ⟨rfl, h3, g3⟩
        rw [hp.out] at h3 ⊢
        have hO := hO.read hR g3
        go_wp2_with fail
        refine (Word_any _ O _ _ hO (by omega) (by omega) (by omega)).mono ?_; rintro e w4 ⟨v4, rfl, r4, hw4⟩
        have h4 := h3.below hw4
        have g4 := gtrans hgW (gtrans g3 (wb_of hw4 (some g)))
        have q4 : BytesV w4 v4 (O ++ be 4 xx) := r4.bytes
        clear r4
        go_wp2_with fail
        refine (OK_any _ h4).mono ?_; rintro e w' ⟨rfl, rfl⟩
        go_wp2_with fail
        go_roundw
        case rel => exact ⟨q + 1, _, r', hlt, by go_num, by rw [List.append_assoc, count_back hp.out]; exact hOR.out, q4, h4, g4⟩
        case measure => simp [intOf]; omega
    · obtain rfl : q = M := by omega
      clear hSW
      have ht : l.take O.length = O := by rw [← hOR.out]; exact List.take_left' rfl
      have hp := bytes_prefix (k := O.length) (HN.out ▸ HV.out.below bW) (by rw [HN.out]; omega)
      rw [ht] at hp
      have hO1 := hO
      obtain ⟨A6, c6, rfl, hc6, hc7, _, h6⟩ := hO
      clear h6
      have hb1 : (O.length : Int) ≤ (N : Int) := by omega
      have hcc : N ≤ c := by
        obtain ⟨_, c', e, hle, _⟩ := HV.out
        injection e with _ _ e3
        rw [HN.out] at hle
        omega
      have hb2 : (O.length : Int) ≤ (c : Int) := by omega
      have z1 := fun n : Ext wr => (hO1.below n.below).string (P := Try.prog) Try.underlying22 Try.underlying5 Try.underlying9
      have z2 := fun n : Ext wr => (hp.below n.below).string (P := Try.prog) Try.underlying22 Try.underlying5 Try.underlying9
      have hLn : ((some r).getD []).length = r.length := rfl
      have hsum : IntKind.i64.wrap ((O.length : Int) + (r.length : Int)) = (N : Int) := by rw [IntKind.wrap_i64]; omega
      have HR := Lib.hid hR
      clear hO1 hp hR ht hOR
      go_wp2_with fail
      refine wp_region_ext (by kernel_rfl) (by kernel_rfl) ?_
      repeat (go_big_quiet_step ((first | (go_at_call 27; exact Ext.of_same (Left_any _ (HR.out.below (Ext.below _)))))))
      refine wpQuiet_nil ?_
      intro n1
      go_wp2_with fail
      go_ret
      exact ⟨rfl, chain bW n1.below⟩

theorem only_walk : Walks Try.prog 8 Try.f8 := by
  intro H enc W args ds p base hval hA _
  rw [Try.params8] at hA hval
  obtain ⟨v0, v1, d0, d1, p0, p1, rfl, rfl, rfl, h0, h1⟩ := trodAll_two hA
  obtain ⟨l, hl⟩ := open_bytes (hval 0 _ v0 rfl rfl) h0
  obtain ⟨L, hL⟩ := open_steps (hval 1 _ v1 rfl rfl) h1
  exact only_any v0 v1 l L W hl hL

theorem XdrOnly_holds : Rows.XdrOnlySaid :=
  OpenClaim.holds_of_wide 8 Try.f8 rfl rfl rfl rfl rfl rfl rfl ⟨rfl, rfl, rfl, rfl, rfl⟩ rfl rfl rfl rfl rfl (by kernel_rfl) Try.func8 (by kernel_rfl)
    (of_decide_eq_true (by kernel_rfl)) (by unfold Func.isWrapper; first | (rw [if_pos (by decide +kernel)]; kernel_rfl) | (rw [if_neg (by decide +kernel)]; exact ⟨rfl, rfl⟩))
    (fun os started H enc _ => law_lifted (C := Try.checked) (s := Rows.xdrOnlySpec) own started (by kernel_rfl) Try.func8 laidOut rfl rfl Try.underlying4
      (by have h : ∀ u ∈ Try.f8.params.toList, (Try.prog.readableRec u && decide (u < Try.prog.types.size)) = true := List.all_eq_true.1 (by kernel_rfl)
          intro u hu; have := h u hu; rw [Bool.and_eq_true, decide_eq_true_eq] at this; exact this)
      (by intro H l hl; rw [show Try.f8.params.size = 2 from by rw [Try.params8]; rfl] at hl; match l, hl with | [d0, d1], _ => rfl)
      H enc (ChangeSpec.witness6 (enc := enc) (C := Try.checked) false ⟨#[], #[.slice none 0 0, .slice none 0 0], []⟩ 8 (by kernel_rfl) (by kernel_rfl) (by kernel_rfl) (by kernel_rfl)) only_walk)
#print axioms XdrOnly_holds
end Go.Proofs.Ytnfibmoajimolaa
