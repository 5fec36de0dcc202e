/- XdrBack: what is written is read as it was, and whatever stands behind it is left: for every input the law returns true. Conditions: none. -/
import Derived.Test.YtnfibmoajimolaaWorks
import Derived.Test.YtnfibmoajimolaaRoom
import Derived.Test.YtnfibmoajimolaaReadLaw
namespace Go.Proofs.Ytnfibmoajimolaa
set_option linter.unusedVariables false
set_option linter.unusedSimpArgs false
open Go.ChangeShapes Go.WideShapes Go.ChangeAt Go.RowKit Pl
attribute [local go_sem] ba_toList ba_size

set_option maxRecDepth 100000 in
set_option maxHeartbeats 6400000 in
theorem back_any (n : Int) (is : Bool) (k m : List UInt8) (x : Value) (l : List UInt8) (w : World) (hl : BytesV w x l) (hk : k.length ≤ maxLen) (hm : m.length ≤ maxLen) (h0 : 0 ≤ n) (hn : n < 18446744073709551616) :
    Calls Try.prog 7 #[.int .u64 n, .bool is, sv k, sv m, x] w fun e w' => e = .returned (.bool true) ∧ Below w.heap.size w w' := by
  have hlm := hl.len
  have HV := Lib.hid hl
  unfold maxLen at hlm hk hm
  by_cases hg : 3000 < k.length ∨ 3000 < m.length ∨ 3000 < l.length
  · obtain ⟨A, c, rfl, r⟩ := hl
    clear r
    have hg' : (decide ((3000 : Int) < (k.length : Int)) || decide ((3000 : Int) < (m.length : Int)) || decide ((3000 : Int) < (l.length : Int))) = true := by
      simp only [Bool.or_eq_true, decide_eq_true_eq]
      omega
    by_cases h1 : (3000 : Int) < (k.length : Int)
    · go_enter Try.func7, Try.ntmps7
      go_wp2_with fail
      refine (works_any _).mono ?_; rintro e w1 ⟨rfl, hw1⟩
      go_wp2_with fail
      refine (works_any _).mono ?_; rintro e w2 ⟨rfl, hw2⟩
      go_wp2_with fail
      go_ret
      exact ⟨rfl, chain hw1 hw2⟩
    by_cases h2 : (3000 : Int) < (m.length : Int)
    · go_enter Try.func7, Try.ntmps7
      go_wp2_with fail
      refine (works_any _).mono ?_; rintro e w1 ⟨rfl, hw1⟩
      go_wp2_with fail
      refine (works_any _).mono ?_; rintro e w2 ⟨rfl, hw2⟩
      go_wp2_with fail
      go_ret
      exact ⟨rfl, chain hw1 hw2⟩
    have h3 : (3000 : Int) < (l.length : Int) := by omega
    clear hg hg'
    go_enter Try.func7, Try.ntmps7
    go_wp2_with fail
    refine (works_any _).mono ?_; rintro e w1 ⟨rfl, hw1⟩
    go_wp2_with fail
    refine (works_any _).mono ?_; rintro e w2 ⟨rfl, hw2⟩
    go_wp2_with fail
    go_ret
    exact ⟨rfl, chain hw1 hw2⟩
  obtain ⟨i0, hi, hz0, hz1, hz2⟩ := info_parts info_u8
  have h1 : ¬ (3000 : Int) < (k.length : Int) := by omega
  have h2 : ¬ (3000 : Int) < (m.length : Int) := by omega
  have h3 : ¬ (3000 : Int) < (l.length : Int) := by omega
  have hpk := padN_lt k.length
  have hpm := padN_lt m.length
  have hfk : (fixB k).length ≤ 3003 := by unfold fixB; simp; omega
  have hfm : (fixB m).length ≤ 3003 := by unfold fixB; simp; omega
  have htk : (textB k).length ≤ 3007 := by unfold textB; simp; omega
  have hmk := textB_mod k
  have hmm := fixB_mod m
  have en : (IntKind.u64.wrap (wrap64 n)).toNat = n.toNat := by
    congr 1
    rw [IntKind.wrap_u64]
    unfold wrap64
    omega
  have EN := Lib.hid en
  clear en hpk hpm hg
  obtain ⟨A, c, rfl, r⟩ := hl
  clear r
  go_enter Try.func7, Try.ntmps7
  go_wp2_with fail
  refine (works_any _).mono ?_; rintro e w1 ⟨rfl, hw1⟩
  go_wp2_with fail
  refine (Word_any _ [] _ _ (BytesV.nil _) (by omega) (by omega) (by simp)).mono ?_; rintro e w2 ⟨v2, rfl, r2, hw2⟩
  have q2 := r2.bytes
  rw [List.nil_append] at q2
  go_wp2_with fail
  refine (Long_any _ _ _ _ q2 (by omega) (by omega) (by simp)).mono ?_; rintro e w3 ⟨v3, rfl, r3, hw3⟩
  go_wp2_with fail
  refine (Int_any _ _ _ _ r3.bytes (by simp)).mono ?_; rintro e w4 ⟨v4, rfl, r4, hw4⟩
  go_wp2_with fail
  refine (Flag_any _ _ _ _ r4.bytes (by simp)).mono ?_; rintro e w5 ⟨v5, rfl, r5, hw5⟩
  go_wp2_with fail
  refine (Text_any _ _ k _ r5.bytes (by simp; omega)).mono ?_; rintro e w6 ⟨v6, rfl, r6, hw6⟩
  go_wp2_with fail
  refine (Fixed_room _ _ m _ r6 (by simp; omega)).mono ?_; rintro e w7 ⟨v7, rfl, r7, hw7, hroom⟩
  have c7 : Below w1.heap.size w1 w7 := chain (chain (chain (chain (chain hw2 hw3) hw4) hw5) hw6) hw7
  have b7 := chain hw1 c7
  have s7 := b7.size
  rw [EN.out] at r7 hroom
  generalize hB : be 4 (n % 4294967296).toNat ++ be 8 n.toNat ++ be 8 n.toNat ++ be 4 is.toNat ++ textB k ++ fixB m = B at r7 hroom
  have hBl : B.length ≤ 6100 ∧ B.length % 4 = 0 := by
    subst hB
    simp
    omega
  have R7 := Lib.hid r7
  have RM := Lib.hid (hroom.mono (chain hw1 (chain (chain (chain (chain hw2 hw3) hw4) hw5) hw6)).size : RoomB w7 w.heap.size _ _)
  have hl7 := HV.out.below b7
  have HL := Lib.hid hl7
  have HB := Lib.hid hB
  obtain ⟨A7, c7', rfl, hr7⟩ := r7
  have hB4 : ((B.length : Int) % 4 == 0) = true := by rw [beq_iff_eq]; omega
  have hBm : (B.length : Int) ≤ 6100 := by omega
  obtain ⟨hBl, _⟩ := hBl
  clear hr7 hw2 hw3 hw4 hw5 hw6 hw7 r2 r3 r4 r5 r6 q2 hroom hl7 hB hfk hfm htk hmk hmm
  go_wp2_with (with_reducible refine wpList_append_room (base := w.heap.size) rfl _ _ rfl Try.underlying22 hi hz0 hz1 hz2 R7.out RM.out HL.out rfl rfl (by omega) (by omega) ?_)
  intro v8 w8 hv8 hw8 _
  have b8 := b7.trans hw8
  have s8 := hw8.size
  go_wp2_with fail
  refine (NewReader_any _ (B ++ l) _ hv8 (by simp; omega)).mono ?_; rintro e w9 ⟨g, h, rfl, rd, hw9, hg0, hh0, hg1, hh1⟩
  have b9 := chain b8 hw9
  have s9 := hw9.size
  rw [← HB.out] at rd
  simp only [List.append_assoc] at rd
  go_wp2_with fail
  refine (rWord_any _ rd).mono ?_; rintro e w10 ⟨rfl, rd, h10⟩
  rw [wordR_be] at rd ⊢
  go_wp2_with fail
  refine (rLong_any _ rd).mono ?_; rintro e w11 ⟨rfl, rd, h11⟩
  rw [longR_be] at rd ⊢
  go_wp2_with fail
  refine (rInt_any _ rd).mono ?_; rintro e w12 ⟨rfl, rd, h12⟩
  rw [longR_be] at rd ⊢
  go_wp2_with fail
  refine (rFlag_any _ rd).mono ?_; rintro e w13 ⟨rfl, rd, h13⟩
  rw [flagR_be] at rd ⊢
  go_wp2_with fail
  refine (rText_any _ _ rd).mono ?_; rintro e w14 ⟨rfl, rd, h14⟩
  rw [textR_text _ _ (by omega)] at rd ⊢
  go_wp2_with fail
  refine (rFixed_any _ _ rd (by omega)).mono ?_; rintro e w15 ⟨rfl, rd, h15⟩
  rw [fixR_fix] at rd ⊢
  go_wp2_with fail
  refine (OK_any _ rd).mono ?_; rintro e w' ⟨rfl, rfl⟩
  go_wp2_with fail
  refine (Left_any _ rd).mono ?_; rintro e w' ⟨rfl, rfl⟩
  go_wp2_with fail
  refine (Done_any _ rd).mono ?_; rintro e w' ⟨rfl, rfl⟩
  go_wp2_with fail
  go_ret
  have he : (l.isEmpty == ((l.length : Int) == 0)) = true := by
    cases l with
    | nil => rfl
    | cons a t => simp; omega
  exact ⟨congrArg (fun b => Ending.returned (.bool b)) he, below_by b9 (gtrans h10 (gtrans h11 (gtrans h12 (gtrans h13 (gtrans h14 h15))))) (by omega) (by omega)⟩

theorem trodAll_five {H : Type} {enc : TypeId × Value → H} {P : Program} {w : World} {base : Nat} {spare : Nat → Bool} {held : Bool} {t t' t'' t3 t4 : TypeId} {args : Array Value} {ds : List (DataW H)} {ps : List MemPlace} (h : DataW.TrodAll enc P w base spare held [t, t', t'', t3, t4] args.toList ds ps) :
    ∃ v v' v'' v3 v4 d d' d'' d3 d4 p p' p'' p3 p4, args = #[v, v', v'', v3, v4] ∧ ds = [d, d', d'', d3, d4] ∧ DataW.Trod enc P w base spare held t v d p ∧ DataW.Trod enc P w base spare held t' v' d' p' ∧ DataW.Trod enc P w base spare held t'' v'' d'' p'' ∧ DataW.Trod enc P w base spare held t3 v3 d3 p3 ∧ DataW.Trod enc P w base spare held t4 v4 d4 p4 := by
  obtain ⟨v, vs, d, ds', p, q, hargs, rfl, rfl, hd, hrest⟩ := trodAll_cons h
  obtain ⟨v', vs', d', ds'', p', q', rfl, rfl, rfl, hd', hrest'⟩ := trodAll_cons hrest
  obtain ⟨v'', vs'', d'', ds3, p'', q'', rfl, rfl, rfl, hd'', hrest''⟩ := trodAll_cons hrest'
  obtain ⟨v3, vs3, d3, ds4, p3, q3, rfl, rfl, rfl, hd3, hrest3⟩ := trodAll_cons hrest''
  obtain ⟨v4, vs4, d4, ds5, p4, q4, rfl, rfl, rfl, hd4, hrest4⟩ := trodAll_cons hrest3
  obtain ⟨rfl, rfl, rfl⟩ := trodAll_nil hrest4
  exact ⟨_, _, _, _, _, _, _, _, _, _, _, _, _, _, _, by cases args; simp_all, rfl, hd, hd', hd'', hd3, hd4⟩

theorem back_walk : Walks Try.prog 7 Try.f7 := by
  intro H enc W args ds p base hval hA _
  rw [Try.params7] at hA hval
  obtain ⟨v0, v1, v2, v3, v4, d0, d1, d2, d3, d4, p0, p1, p2, p3, p4, rfl, rfl, h0, h1, h2, h3, h4⟩ := trodAll_five hA
  obtain ⟨n, rfl, _, _, hn⟩ := open_int Try.underlying23 (hval 0 _ v0 rfl rfl) h0
  obtain ⟨b, rfl⟩ := okWide_bool Try.underlying4 (hval 1 _ v1 rfl rfl)
  obtain ⟨k, rfl, hk⟩ := open_text (hval 2 _ v2 rfl rfl) h2
  obtain ⟨m, rfl, hm⟩ := open_text (hval 3 _ v3 rfl rfl) h3
  obtain ⟨l, hl⟩ := open_bytes (hval 4 _ v4 rfl rfl) h4
  have hb := bounds_u64 hn
  exact back_any n b k m v4 l W hl hk hm hb.1 (by omega)

theorem XdrBack_holds : Rows.XdrBackSaid :=
  OpenClaim.holds_of_wide 7 Try.f7 rfl rfl rfl rfl rfl rfl rfl ⟨rfl, rfl, rfl, rfl, rfl⟩ rfl rfl rfl rfl rfl (by kernel_rfl) Try.func7 (by kernel_rfl)
    (of_decide_eq_true (by kernel_rfl)) (by unfold Func.isWrapper; first | (rw [if_pos (by decide +kernel)]; kernel_rfl) | (rw [if_neg (by decide +kernel)]; exact ⟨rfl, rfl⟩))
    (fun os started H enc _ => law_lifted (C := Try.checked) (s := Rows.xdrBackSpec) own started (by kernel_rfl) Try.func7 laidOut rfl rfl Try.underlying4
      (by have h : ∀ u ∈ Try.f7.params.toList, (Try.prog.readableRec u && decide (u < Try.prog.types.size)) = true := List.all_eq_true.1 (by kernel_rfl)
          intro u hu; have := h u hu; rw [Bool.and_eq_true, decide_eq_true_eq] at this; exact this)
      (by intro H l hl; rw [show Try.f7.params.size = 5 from by rw [Try.params7]; rfl] at hl; match l, hl with | [d0, d1, d2, d3, d4], _ => rfl)
      H enc (ChangeSpec.witness6 (enc := enc) (C := Try.checked) false ⟨#[], #[.int .u64 0, .bool false, .string ⟨#[]⟩, .string ⟨#[]⟩, .slice none 0 0], []⟩ 8 (by kernel_rfl) (by kernel_rfl) (by kernel_rfl) (by kernel_rfl)) back_walk)
#print axioms XdrBack_holds
end Go.Proofs.Ytnfibmoajimolaa
