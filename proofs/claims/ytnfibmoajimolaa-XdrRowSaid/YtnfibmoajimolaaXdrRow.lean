/- XdrRow: words and texts that are written one behind the other are read so, and nothing is left: for every input the law returns true. Conditions: none. -/
import Derived.Test.YtnfibmoajimolaaWorks
import Derived.Test.YtnfibmoajimolaaReadLaw
import Derived.Test.YtnfibmoajimolaaStrips
import Derived.Test.YtnfibmoajimolaaHeld
namespace Go.Proofs.Ytnfibmoajimolaa
set_option linter.unusedVariables false
set_option linter.unusedSimpArgs false
open Go.ChangeShapes Go.WideShapes Go.ChangeAt Go.RowKit Pl
attribute [local go_sem] ba_toList ba_size

def wsOf (L : List Nat) : List UInt8 := L.flatMap fun n => be 4 n
def tsOf (S : List (List UInt8)) : List UInt8 := S.flatMap textB
theorem wsOf_take {L : List Nat} {q : Nat} (h : q < L.length) : wsOf (L.take (q + 1)) = wsOf (L.take q) ++ be 4 L[q] := by
  unfold wsOf; rw [List.take_succ_eq_append_getElem h, List.flatMap_append]; simp
theorem wsOf_drop {L : List Nat} {q : Nat} (h : q < L.length) : wsOf (L.drop q) = be 4 L[q] ++ wsOf (L.drop (q + 1)) := by
  unfold wsOf; rw [List.drop_eq_getElem_cons h, List.flatMap_cons]
theorem wsOf_len (L : List Nat) : (wsOf L).length = 4 * L.length := by
  induction L with
  | nil => rfl
  | cons a L ih => unfold wsOf at *; rw [List.flatMap_cons, List.length_append, ih]; simp; omega
theorem tsOf_take {L : List (List UInt8)} {q : Nat} (h : q < L.length) : tsOf (L.take (q + 1)) = tsOf (L.take q) ++ textB L[q] := by
  unfold tsOf; rw [List.take_succ_eq_append_getElem h, List.flatMap_append]; simp
theorem tsOf_drop {L : List (List UInt8)} {q : Nat} (h : q < L.length) : tsOf (L.drop q) = textB L[q] ++ tsOf (L.drop (q + 1)) := by
  unfold tsOf; rw [List.drop_eq_getElem_cons h, List.flatMap_cons]
theorem textB_len (k : List UInt8) : (textB k).length = 4 + (k.length + 3) / 4 * 4 := by
  unfold textB fixB padN; simp; omega

set_option maxRecDepth 100000 in
set_option maxHeartbeats 12800000 in
theorem row_any (x y : Value) (L : List Nat) (S : List (List UInt8)) (w : World) (hL : CellsV w x (u32s L)) (hLb : ∀ n ∈ L, n < 4294967296) (hS : CellsV w y (strs S)) (hSb : ∀ s ∈ S, s.length ≤ maxLen) :
    Calls Try.prog 4 #[x, y] w fun e w' => e = .returned (.bool true) ∧ Below w.heap.size w w' := by
  have HL := Lib.hid hL
  have HS := Lib.hid hS
  obtain ⟨A, c, rfl, ra1, ra2, ra⟩ := hL
  obtain ⟨B, d, rfl, rb1, rb2, rb⟩ := hS
  unfold maxLen at ra2 rb2
  obtain ⟨N, hN⟩ : ∃ N, L.length = N := ⟨_, rfl⟩
  obtain ⟨M, hM⟩ : ∃ M, S.length = M := ⟨_, rfl⟩
  have e1 : (u32s L).length = N := by simp [u32s, hN]
  have e2 : (strs S).length = M := by simp [strs, hM]
  rw [e1] at HL ra1 ⊢
  rw [e2] at HS rb1 ⊢
  have HN := Lib.hid hN
  have HM := Lib.hid hM
  have HLb := Lib.hid hLb
  have HSb := Lib.hid hSb
  have cL : ∀ q, (h : q < L.length) → ∃ b off, A = some ⟨b, off, none⟩ ∧ b < w.heap.size ∧ w.cell? ⟨b, off + q, none⟩ = some (.int .u32 (L[q] : Int)) := by
    intro q h
    obtain ⟨b, off, e, hb, hc⟩ := ra (by rw [e1]; omega)
    exact ⟨b, off, e, hb, by rw [hc q (by rw [e1]; omega)]; simp [u32s]⟩
  have cS : ∀ q, (h : q < S.length) → ∃ b off, B = some ⟨b, off, none⟩ ∧ b < w.heap.size ∧ w.cell? ⟨b, off + q, none⟩ = some (.string ⟨S[q].toArray⟩) := by
    intro q h
    obtain ⟨b, off, e, hb, hc⟩ := rb (by rw [e2]; omega)
    exact ⟨b, off, e, hb, by rw [hc q (by rw [e2]; omega)]; simp [strs]⟩
  have CL := Lib.hid cL
  have CS := Lib.hid cS
  clear ra rb cL cS hLb hSb e1 e2
  by_cases hg : 500 < N ∨ 100 < M
  · clear hN hM
    by_cases h1 : (500 : Int) < (N : Int)
    · go_enter Try.func4, Try.ntmps4
      go_wp2_with fail
      refine (works_any _).mono ?_; rintro e w1 ⟨rfl, hw1⟩
      go_wp2_with fail
      refine (works_any _).mono ?_; rintro e w2 ⟨rfl, hw2⟩
      go_wp2_with fail
      go_ret
      exact ⟨rfl, chain hw1 hw2⟩
    have h2 : (100 : Int) < (M : Int) := by omega
    go_enter Try.func4, Try.ntmps4
    go_wp2_with fail
    refine (works_any _).mono ?_; rintro e w1 ⟨rfl, hw1⟩
    go_wp2_with fail
    refine (works_any _).mono ?_; rintro e w2 ⟨rfl, hw2⟩
    go_wp2_with fail
    go_ret
    exact ⟨rfl, chain hw1 hw2⟩
  have h1 : ¬ (500 : Int) < (N : Int) := by omega
  have h2 : ¬ (100 : Int) < (M : Int) := by omega
  have wl : (wsOf L).length = 4 * N := by rw [wsOf_len, hN]
  have WL := Lib.hid wl
  clear hg hN hM wl ra1 rb1 ra2 rb2
  go_enter Try.func4, Try.ntmps4
  go_wp2_with fail
  refine (works_any _).mono ?_; rintro e w1 ⟨rfl, hw1⟩
  go_wp2_with fail
  go_loopw [5, 6] (fun b i W => ∃ q : Nat, q ≤ N ∧ i = .int .i64 q ∧ BytesV W b (wsOf (L.take q)) ∧ Below w.heap.size w W) (fun _ i _ => N - (intOf i).toNat)
  case atStart => exact ⟨0, Nat.zero_le _, rfl, BytesV.nil _, hw1⟩
  case round =>
    obtain ⟨q, hq, rfl, hb, bW⟩ := hrel
    by_cases hlt : q < N
    · obtain ⟨bk, off, rfl, hbk, f0⟩ := CL.out q (by rw [HN.out]; exact hlt)
      replace f0 := (bW.cell (p := ⟨bk, off + q, none⟩) hbk).trans f0
      have htk := wsOf_take (L := L) (q := q) (by rw [HN.out]; exact hlt)
      have hlen : (wsOf (L.take q)).length ≤ 2000 := by rw [wsOf_len]; simp; omega
      have hub := HLb.out (L[q]'(by rw [HN.out]; exact hlt)) (List.getElem_mem _)
      generalize L[q]'(by rw [HN.out]; exact hlt) = z at f0 htk hub
      have HT := Lib.hid htk
      clear htk
      have hq1 : (q : Int) < (N : Int) := by omega
      go_wp2_with fail
      refine (Word_any _ _ _ _ hb (by omega) (by omega) (by omega)).mono ?_; rintro e w3 ⟨v3, rfl, r3, hw3⟩
      go_wp2_with fail
      go_roundw
      case rel => exact ⟨q + 1, hlt, by go_num, by rw [HT.out]; exact r3.bytes, chain bW hw3⟩
      case measure => simp [intOf]; omega
    · obtain rfl : N = q := by omega
      rw [← HN.out, List.take_length] at hb
      rename World => W1
      clear hw1
      go_wp2_with fail
      go_loopw [5, 7, 8] (fun b n i W => ∃ p : Nat, p ≤ M ∧ i = .int .i64 p ∧ (∃ z : List UInt8, z = wsOf L ++ tsOf (S.take p) ∧ z.length ≤ 2000 + 2010 * p ∧ n = .int .i64 (z.length : Int) ∧ BytesV W b z) ∧ (∀ j, (h : j < S.length) → j < p → S[j].length ≤ 2000) ∧ Below w.heap.size w W) (fun _ _ i _ => M - (intOf i).toNat)
      case atStart => exact ⟨0, Nat.zero_le _, rfl, ⟨_, rfl, by rw [List.take_zero]; simp [tsOf, WL.out]; omega, by rw [List.take_zero]; simp [tsOf, WL.out], by rw [List.take_zero]; simpa [tsOf] using hb⟩, fun j h h0 => absurd h0 (by omega), bW⟩
      case round =>
        obtain ⟨p, hp, rfl, ⟨z, hz, hzl, rfl, hb2⟩, hsh, bW2⟩ := hrel
        by_cases hlt : p < M
        · obtain ⟨bk, off, rfl, hbk, f0⟩ := CS.out p (by rw [HM.out]; exact hlt)
          replace f0 := (bW2.cell (p := ⟨bk, off + p, none⟩) hbk).trans f0
          have htk := tsOf_take (L := S) (q := p) (by rw [HM.out]; exact hlt)
          have hub := HSb.out (S[p]'(by rw [HM.out]; exact hlt)) (List.getElem_mem _)
          obtain ⟨s, hs⟩ : ∃ s, S[p]'(by rw [HM.out]; exact hlt) = s := ⟨_, rfl⟩
          rw [hs] at f0 htk hub
          have f00 := fun (W : World) (h : Below w.heap.size w W) => (h.cell (p := ⟨bk, off + p, none⟩) hbk).trans ((bW2.cell (p := ⟨bk, off + p, none⟩) hbk).symm.trans f0)
          have F0 := Lib.hid f00
          clear f00
          have HT := Lib.hid htk
          have HS1 := Lib.hid hs
          have HZ := Lib.hid hz
          have HSH := Lib.hid hsh
          unfold maxLen at hub
          clear htk hs hz hsh
          have hp1 : (p : Int) < (M : Int) := by omega
          by_cases hbig : (2000 : Int) < (s.length : Int)
          · go_wp2_with fail
            go_ret
            exact ⟨rfl, bW2⟩
          · have htl := textB_len s
            have hzm : (z.length : Int) ≤ 2000 + 2010 * 100 := by omega
            have hsl : (s.length : Int) ≤ 2000 := by omega
            go_wp2_with fail
            refine (Text_any _ z s _ hb2 (by omega)).mono ?_; rintro e w3 ⟨v3, rfl, r3, hw3⟩
            have f3 := F0.out _ (chain bW2 hw3)
            go_wp2_with fail
            go_roundw
            case rel =>
              refine ⟨p + 1, hlt, by go_num, ⟨z ++ textB s, by rw [HT.out, HZ.out, List.append_assoc], by rw [List.length_append]; omega, ?_, r3⟩, fun j h h0 => ?_, chain bW2 hw3⟩
              · congr 1
                rw [List.length_append, htl]
                omega
              · by_cases hj : j = p
                · subst hj
                  have e := HS1.out
                  rw [e]
                  omega
                · exact HSH.out j h (by omega)
            case measure => simp [intOf]; omega
        · obtain rfl : M = p := by omega
          rw [← HM.out, List.take_length] at hz
          have HZ := Lib.hid hz
          have HSH := Lib.hid hsh
          have hsz := bW2.size
          clear hz hsh hb
          go_wp2_with fail
          refine (NewReader_any _ z _ hb2 (by omega)).mono ?_; rintro e w3 ⟨g, h, rfl, rd, hw3, hg0, hh0, hg1, hh1⟩
          have b3 := chain bW2 hw3
          have s3 := hw3.size
          have hb3 := hb2.below hw3
          have HB3 := Lib.hid hb3
          rw [HZ.out] at rd
          clear hb2 hb3
          go_wp2_with fail
          go_loopw [10] (fun i W => ∃ q : Nat, q ≤ N ∧ i = .int .i64 q ∧ Rd W g h (some (wsOf (L.drop q) ++ tsOf S)) ∧ w3.grownBy W (some g)) (fun i _ => N - (intOf i).toNat)
          case atStart => exact ⟨0, Nat.zero_le _, rfl, rd, World.grownBy.refl _ _⟩
          case round =>
            obtain ⟨q, hq, rfl, hR, hgW⟩ := hrel
            have bW3 := below_by b3 hgW (by omega) (by omega)
            have s4 := hgW.size
            by_cases hlt : q < N
            · obtain ⟨bk, off, rfl, hbk, f0⟩ := CL.out q (by rw [HN.out]; exact hlt)
              have f1 := fun (W : World) (h : Below w.heap.size w W) => (h.cell (p := ⟨bk, off + q, none⟩) hbk).trans f0
              have hdr := wsOf_drop (L := L) (q := q) (by rw [HN.out]; exact hlt)
              have hub := HLb.out (L[q]'(by rw [HN.out]; exact hlt)) (List.getElem_mem _)
              generalize L[q]'(by rw [HN.out]; exact hlt) = z1 at f0 f1 hdr hub
              have hw : wordR (some (wsOf (L.drop q) ++ tsOf S)) = (z1, some (wsOf (L.drop (q + 1)) ++ tsOf S)) := by
                rw [hdr, List.append_assoc, wordR_be, Nat.mod_eq_of_lt hub]
              have HW := Lib.hid hw
              clear hdr hw f0
              have hRd := hR.drew
              have hq1 : (q : Int) < (N : Int) := by omega
              go_wp2_with fail
              go_region_held3 (fun W => Below w.heap.size w W) (first | exact bW3.drew | exact below_by bW3.drew g5 (by simp; omega) (by omega) | assumption) (first | (go_at_call 23; refine (rWord_any _ hRd).mono ?_; rintro e w5 ⟨rfl, h5, g5⟩; rw [HW.out] at h5 ⊢))
              go_wp2_with fail
              go_roundw
              case rel => exact ⟨q + 1, hlt, by go_num, h5, gtrans hgW (gtrans (wb_of ((Below.refl _ _).drew) _) g5)⟩
              case measure => simp [intOf]; omega
            · obtain rfl : N = q := by omega
              rw [← HN.out, List.drop_length] at hR
              clear hgW
              rename World => W3
              have hR : Rd W3 g h (some (tsOf (S.drop 0))) := hR
              go_wp2_with fail
              go_loopw [11] (fun i W => ∃ p : Nat, p ≤ M ∧ i = .int .i64 p ∧ Rd W g h (some (tsOf (S.drop p))) ∧ W3.grownBy W (some g)) (fun i _ => M - (intOf i).toNat)
              case atStart => exact ⟨0, Nat.zero_le _, rfl, hR, World.grownBy.refl _ _⟩
              case round =>
                obtain ⟨p, hp, rfl, hR2, hgW2⟩ := hrel
                have bW4 := below_by bW3 hgW2 (by omega) (by omega)
                have s5 := hgW2.size
                by_cases hlt : p < M
                · obtain ⟨bk, off, rfl, hbk, f0⟩ := CS.out p (by rw [HM.out]; exact hlt)
                  have f1 := fun (W : World) (h : Below w.heap.size w W) => (h.cell (p := ⟨bk, off + p, none⟩) hbk).trans f0
                  have hdr := tsOf_drop (L := S) (q := p) (by rw [HM.out]; exact hlt)
                  have hub := HSH.out p (by rw [HM.out]; exact hlt) hlt
                  generalize S[p]'(by rw [HM.out]; exact hlt) = z1 at f0 f1 hdr hub
                  have hw : textR (z1.length : Int) (some (tsOf (S.drop p))) = (z1, some (tsOf (S.drop (p + 1)))) := by
                    rw [hdr, textR_text _ _ (by omega)]
                  have HW := Lib.hid hw
                  clear hdr hw f0
                  have hRd := hR2.drew
                  have hp1 : (p : Int) < (M : Int) := by omega
                  go_wp2_with fail
                  go_region_held3 (fun W => Below w.heap.size w W) (first | exact bW4.drew | exact below_by bW4.drew g5 (by simp; omega) (by omega) | assumption) (first | (go_at_call 24; refine (rText_any _ _ hRd).mono ?_; rintro e w5 ⟨rfl, h5, g5⟩; rw [HW.out] at h5 ⊢))
                  go_wp2_with fail
                  go_roundw
                  case rel => exact ⟨p + 1, hlt, by go_num, h5, gtrans hgW2 (gtrans (wb_of ((Below.refl _ _).drew) _) g5)⟩
                  case measure => simp [intOf]; omega
                · obtain rfl : M = p := by omega
                  rw [← HM.out, List.drop_length] at hR2
                  obtain ⟨A9, c9, rfl, _, _, _, hx9⟩ := HB3.out
                  clear hx9
                  go_wp2_with fail
                  refine (Done_any _ hR2).mono ?_; rintro e w' ⟨rfl, rfl⟩
                  go_wp2_with fail
                  go_ret
                  exact ⟨rfl, bW4⟩

theorem row_walk : Walks Try.prog 4 Try.f4 := by
  intro H enc W args ds p base hval hA _
  rw [Try.params4] at hA hval
  obtain ⟨v0, v1, d0, d1, p0, p1, rfl, rfl, rfl, h0, h1⟩ := trodAll_two hA
  obtain ⟨L, hL, hLb⟩ := open_u32s (hval 0 _ v0 rfl rfl) h0
  obtain ⟨S, hS, hSb⟩ := open_texts (hval 1 _ v1 rfl rfl) h1
  exact row_any v0 v1 L S W hL hLb hS hSb

theorem XdrRow_holds : Rows.XdrRowSaid :=
  OpenClaim.holds_of_wide 4 Try.f4 rfl rfl rfl rfl rfl rfl rfl ⟨rfl, rfl, rfl, rfl, rfl⟩ rfl rfl rfl rfl rfl (by kernel_rfl) Try.func4 (by kernel_rfl)
    (of_decide_eq_true (by kernel_rfl)) (by unfold Func.isWrapper; first | (rw [if_pos (by decide +kernel)]; kernel_rfl) | (rw [if_neg (by decide +kernel)]; exact ⟨rfl, rfl⟩))
    (fun os started H enc _ => law_lifted (C := Try.checked) (s := Rows.xdrRowSpec) own started (by kernel_rfl) Try.func4 laidOut rfl rfl Try.underlying4
      (by have h : ∀ u ∈ Try.f4.params.toList, (Try.prog.readableRec u && decide (u < Try.prog.types.size)) = true := List.all_eq_true.1 (by kernel_rfl)
          intro u hu; have := h u hu; rw [Bool.and_eq_true, decide_eq_true_eq] at this; exact this)
      (by intro H l hl; rw [show Try.f4.params.size = 2 from by rw [Try.params4]; rfl] at hl; match l, hl with | [d0, d1], _ => rfl)
      H enc (ChangeSpec.witness6 (enc := enc) (C := Try.checked) false ⟨#[], #[.slice none 0 0, .slice none 0 0], []⟩ 8 (by kernel_rfl) (by kernel_rfl) (by kernel_rfl) (by kernel_rfl)) row_walk)
#print axioms XdrRow_holds
end Go.Proofs.Ytnfibmoajimolaa
