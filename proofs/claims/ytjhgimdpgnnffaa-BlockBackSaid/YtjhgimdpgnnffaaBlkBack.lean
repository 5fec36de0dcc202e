/- BlockBack: what was sealed is opened so; a block that is opened was sealed of that; likewise pointers: for every kind, birth, body, block and text the law returns true. Conditions: none. -/
import Derived.Test.YtjhgimdpgnnffaaBlkDec
import Derived.Test.YtjhgimdpgnnffaaBlkAwake
import Derived.Test.YtjhgimdpgnnffaaBlkArgs
import Derived.Deep.DeepCutAuto
namespace Go.Proofs.Ytjhgimdpgnnffaa
set_option linter.unusedVariables false
set_option linter.unusedSimpArgs false
open Go.ChangeShapes Go.WideShapes Go.ChangeAt Go.RowKit Pl
attribute [local go_sem] ba_toList ba_size zeroValueB

theorem openOK_parts {x : List UInt8} (h : openOK x = true) : sealE (oB x) (oS x) = 0 ∧ sealL (oK x) (oB x) (oS x) = x := by
  unfold openOK at h
  simp only [Bool.and_eq_true, beq_iff_eq] at h
  exact ⟨h.1.2, h.2⟩

theorem open_sealed (x : List UInt8) (hx : x.length = 512) : ∃ (K : UInt8) (N : Int) (S : List UInt8) (E : Int), openV x = .tuple #[.int .u8 (K.toNat : Int), .int .i64 N, sv S, .int .i64 E] ∧
    (E = 0 → ∀ W : World, Calls Try.prog 10 #[.int .u8 (K.toNat : Int), .int .i64 N, sv S] W fun r w' => r = .returned (.tuple #[blk x, .int .i64 0]) ∧ Below W.heap.size W w') := by
  cases ho : openOK x
  · exact ⟨0, 0, [], 4, openV_no ho, fun h => absurd h (by decide)⟩
  · refine ⟨_, _, _, _, openV_yes ho, fun _ W => ?_⟩
    obtain ⟨p1, p2⟩ := openOK_parts ho
    have hS : (oS x).length ≤ 512 := by unfold oS; simp; omega
    have := seal_any (oK x) (oB x) (oS x) W (by omega)
    rwa [p1, p2] at this
theorem dec_encoded (s : List UInt8) : (decV s = .tuple #[ptrV 0 0 0, .int .i64 4]) ∨ ∃ a b c : Int, decV s = .tuple #[ptrV a b c, .int .i64 0] ∧
    (∀ W : World, Calls Try.prog 20 #[ptrV a b c] W fun r w' => r = .returned (.tuple #[sv s, .int .i64 0]) ∧ Below W.heap.size W w') := by
  cases h : decP s
  · exact .inl (if_neg (by rw [h]; decide))
  · refine .inr ⟨_, _, _, if_pos h, fun W => ?_⟩
    unfold decP at h
    simp only [Bool.and_eq_true, beq_iff_eq] at h
    obtain ⟨h16, hm⟩ := h
    have q8 := q4_lt (l := s) (j := 8) (by omega)
    have q12 := q4_lt (l := s) (j := 12) (by omega)
    have := encode_any (q4 s 0) (q4 s 4) ((q4 s 8 * 4294967296 + q4 s 12 : Nat) : Int) W (by omega)
    unfold encL encOK at this
    rw [hm, if_pos rfl, if_pos rfl, enc_dec h16] at this
    exact this

set_option maxRecDepth 100000 in
set_option maxHeartbeats 6400000 in
theorem back_any (k : UInt8) (b : Int) (l x s : List UInt8) (w : World) (hl : l.length ≤ maxLen) (hx : x.length = 512) (hs : s.length ≤ maxLen) :
    Calls Try.prog 8 #[.int .u8 (k.toNat : Int), .int .i64 b, sv l, blk x, sv s] w fun e w' => e = .returned (.bool true) ∧ Below w.heap.size w w' := by
  unfold maxLen at hl hs
  by_cases h1 : (1000 : Int) < (l.length : Int)
  · go_enter Try.func8, Try.ntmps8
    go_wp2_with fail
    go_wp2_with fail
    refine (awake_any _).mono ?_; rintro e w1 ⟨rfl, hw1⟩
    have b1 : Below w.heap.size w w1 := chain (by repeat' (first | (with_reducible exact Below.refl _ _) | (with_reducible assumption) | (with_reducible refine below_drewN ?_ _) | (with_reducible refine Below.alloc ?_ ?_ _) | (with_reducible refine Below.drew ?_) | (with_reducible refine Below.setCell ?_ ?_ _) | go_size)) hw1
    have s1 := b1.size
    go_wp2_with fail
    go_ret
    exact ⟨rfl, by assumption⟩
  by_cases h2 : (1000 : Int) < (s.length : Int)
  · go_enter Try.func8, Try.ntmps8
    go_wp2_with fail
    go_wp2_with fail
    refine (awake_any _).mono ?_; rintro e w1 ⟨rfl, hw1⟩
    have b1 : Below w.heap.size w w1 := chain (by repeat' (first | (with_reducible exact Below.refl _ _) | (with_reducible assumption) | (with_reducible refine below_drewN ?_ _) | (with_reducible refine Below.alloc ?_ ?_ _) | (with_reducible refine Below.drew ?_) | (with_reducible refine Below.setCell ?_ ?_ _) | go_size)) hw1
    have s1 := b1.size
    go_wp2_with fail
    go_ret
    exact ⟨rfl, by assumption⟩
  have SA := fun W : World => seal_any k b l W (by omega)
  have HX := Lib.hid (Lies.new w x _ rfl)
  have HXL := Lib.hid hx
  have HSL := Lib.hid (sealL_len k b l)
  have hop : sealE b l = 0 → ∀ W : World, Calls Try.prog 12 #[blk (sealL k b l)] W fun r w' => r = .returned (.tuple #[.int .u8 (k.toNat : Int), .int .i64 b, sv l, .int .i64 0]) ∧ Below W.heap.size W w' := by
    intro hE W
    obtain ⟨o1, o2, o3, o4, _⟩ := seal_open (k := k) hE
    have := open_any (sealL k b l) W (sealL_len k b l)
    rw [openV_yes o1, o2, o3, o4] at this
    exact this
  generalize sealL k b l = L at *
  generalize sealE b l = E at *
  have GSA := Lib.hid SA
  have HOP := Lib.hid hop
  clear SA hop hx
  go_enter Try.func8, Try.ntmps8
  go_wp2_with fail
  refine (awake_any _).mono ?_; rintro e w1 ⟨rfl, hw1⟩
  have b1 : Below w.heap.size w w1 := chain (by repeat' (first | (with_reducible exact Below.refl _ _) | (with_reducible assumption) | (with_reducible refine below_drewN ?_ _) | (with_reducible refine Below.alloc ?_ ?_ _) | (with_reducible refine Below.drew ?_) | (with_reducible refine Below.setCell ?_ ?_ _) | go_size)) hw1
  have s1 := b1.size
  go_wp2_with fail
  refine (GSA.out _).mono ?_; rintro e w2 ⟨rfl, hw2⟩
  have b2 : Below w.heap.size w w2 := chain (by repeat' (first | (with_reducible exact Below.refl _ _) | (with_reducible assumption) | (with_reducible refine below_drewN ?_ _) | (with_reducible refine Below.alloc ?_ ?_ _) | (with_reducible refine Below.drew ?_) | (with_reducible refine Below.setCell ?_ ?_ _) | go_size)) hw2
  have s2 := b2.size
  have HZ := Lib.hid (Lies.new w2 (zs 512) _ rfl)
  have HX2 := Lib.hid ((HX.out.below hw1).below hw2)
  go_wp2_with (with_reducible refine wpList_store_blk (m := L) rfl _ _ rfl rfl rfl HZ.out (zs_len 512) HSL.out ?_)
  intro w3 h3 g3
  have b3 : Below w.heap.size w w3 := below_row (by repeat' (first | (with_reducible exact Below.refl _ _) | (with_reducible assumption) | (with_reducible refine below_drewN ?_ _) | (with_reducible refine Below.alloc ?_ ?_ _) | (with_reducible refine Below.drew ?_) | (with_reducible refine Below.setCell ?_ ?_ _) | go_size)) g3 (by go_size) s2
  have H3 := Lib.hid h3
  have hne : w.heap.size ≠ w2.heap.size := by have := HX2.out.lt; omega
  have HX3 := Lib.hid ((HX2.out.alloc (.cells (ac (zs 512)) 23)).but g3 (fun e => hne (Option.some.inj e)))
  clear h3 hne
  go_upto_if 48 with (fail)
  go_cut [10] (fun v wc => v = .bool false ∧ Lies wc w.heap.size x ∧ Below w.heap.size w wc)
  case first =>
    by_cases hE : E = 0
    · have hO := HOP.out hE
      have GO := Lib.hid hO
      have e1 : (E == 0) = true := by rw [hE]; rfl
      clear hO hE
      go_wp2_with (with_reducible refine wpList_load_blk rfl _ rfl rfl H3.out HSL.out ?_)
      refine (GO.out _).mono ?_; rintro e w4 ⟨rfl, hw4⟩
      go_wp2_with fail
      go_meet
      exact ⟨rfl, HX3.out.below hw4, chain b3 hw4⟩
    · have e1 : (E == 0) = false := by rw [beq_eq_false_iff_ne]; exact hE
      clear hE
      go_wp2_with fail
      go_meet
      exact ⟨rfl, HX3.out, b3⟩
  case rest =>
    obtain ⟨rfl, hLx, bw⟩ := hcut
    have HXc := Lib.hid hLx
    obtain ⟨K, N, S, Eo, hO, hSE⟩ := open_sealed x HXL.out
    have OA := fun W : World => open_any x W HXL.out
    rw [hO] at OA
    have GOA := Lib.hid OA
    have GSE := Lib.hid hSE
    have qx := fun W : World => run_eq_blk x x HXL.out HXL.out W
    have hqq : (x == x) = true := by simp
    rw [hqq] at qx
    have DA := fun W : World => decode_any s W
    have HD := Lib.hid (dec_encoded s)
    generalize decV s = DV at *
    have GDA := Lib.hid DA
    clear hLx OA hO hSE hqq DA
    go_wp2_with (with_reducible refine wpList_load_blk rfl _ rfl rfl HXc.out HXL.out ?_)
    refine (GOA.out _).mono ?_; rintro e w4 ⟨rfl, hw4⟩
    have b4 := chain bw hw4
    have HX4 := Lib.hid (HXc.out.below hw4)
    go_upto_if 81 with (fail)
    go_cut [10] (fun v wc => v = .bool false ∧ Below w.heap.size w wc)
    case first =>
      by_cases hE : Eo = 0
      · have hO := GSE.out hE
        have GO := Lib.hid hO
        have e1 : (Eo == 0) = true := by rw [hE]; rfl
        clear hO hE
        go_wp2_with fail
        refine (GO.out _).mono ?_; rintro e w5 ⟨rfl, hw5⟩
        have b5 := chain b4 hw5
        have s5 := b5.size
        have HZ5 := Lib.hid (Lies.new w5 (zs 512) _ rfl)
        have HX5 := Lib.hid (HX4.out.below hw5)
        go_wp2_with (with_reducible refine wpList_store_blk (m := x) rfl _ _ rfl rfl rfl HZ5.out (zs_len 512) HXL.out ?_)
        intro w6 h6 g6
        have b6 : Below w.heap.size w w6 := below_row (by repeat' (first | (with_reducible exact Below.refl _ _) | (with_reducible assumption) | (with_reducible refine below_drewN ?_ _) | (with_reducible refine Below.alloc ?_ ?_ _) | (with_reducible refine Below.drew ?_) | (with_reducible refine Below.setCell ?_ ?_ _) | go_size)) g6 (by go_size) s5
        have H6 := Lib.hid h6
        have hne : w.heap.size ≠ w5.heap.size := by have := HX5.out.lt; omega
        have HX6 := Lib.hid ((HX5.out.alloc (.cells (ac (zs 512)) 23)).but g6 (fun e => hne (Option.some.inj e)))
        clear h6 hne
        go_wp2_with fail
        refine wp_load_blk rfl rfl H6.out HXL.out ?_
        go_wp2_with fail
        refine wp_load_blk rfl rfl HX6.out HXL.out ?_
        go_wp2_with fail
        go_meet
        exact ⟨rfl, b6⟩
      · have e1 : (Eo == 0) = false := by rw [beq_eq_false_iff_ne]; exact hE
        clear hE
        go_wp2_with fail
        go_meet
        exact ⟨rfl, b4⟩
    case rest =>
      obtain ⟨rfl, b5⟩ := hcut
      clear qx
      go_wp2_with fail
      refine (GDA.out _).mono ?_; rintro e w6 ⟨rfl, hw6⟩
      have b6 := chain (by assumption) hw6
      have s6 := b6.size
      rcases HD.out with hd | ⟨a0, a1, a2, hd, hEn⟩
      · rw [hd]
        clear hd
        go_wp2_with fail
        go_ret
        exact ⟨rfl, by repeat' (first | (with_reducible exact Below.refl _ _) | (with_reducible assumption) | (with_reducible refine below_drewN ?_ _) | (with_reducible refine Below.alloc ?_ ?_ _) | (with_reducible refine Below.drew ?_) | (with_reducible refine Below.setCell ?_ ?_ _) | go_size)⟩
      · rw [hd]
        have GE := Lib.hid hEn
        clear hd hEn
        go_wp2_with fail
        refine (GE.out _).mono ?_; rintro e w7 ⟨rfl, hw7⟩
        have b7 := chain (show Below w.heap.size w _ from by repeat' (first | (with_reducible exact Below.refl _ _) | (with_reducible assumption) | (with_reducible refine below_drewN ?_ _) | (with_reducible refine Below.alloc ?_ ?_ _) | (with_reducible refine Below.drew ?_) | (with_reducible refine Below.setCell ?_ ?_ _) | go_size)) hw7
        go_wp2_with fail
        go_ret
        exact ⟨rfl, b7⟩

theorem back_walk : Walks Try.prog 8 Try.f8 := by
  intro H enc W args ds p base hval hA hz
  rw [Try.params8] at hA hval
  obtain ⟨v0, vs1, d0, ds1, p0, q0, ha0, rfl, rfl, h0, hA⟩ := trodAll_cons hA
  obtain ⟨v1, vs2, d1, ds2, p1, q1, rfl, rfl, rfl, h1, hA⟩ := trodAll_cons hA
  obtain ⟨v2, vs3, d2, ds3, p2, q2, rfl, rfl, rfl, h2, hA⟩ := trodAll_cons hA
  obtain ⟨v3, vs4, d3, ds4, p3, q3, rfl, rfl, rfl, h3, hA⟩ := trodAll_cons hA
  obtain ⟨v4, vs5, d4, ds5, p4, q4, rfl, rfl, rfl, h4, hA⟩ := trodAll_cons hA
  obtain ⟨rfl, rfl, rfl⟩ := trodAll_nil hA
  obtain rfl : args = #[v0, v1, v2, v3, v4] := by cases args; simp_all
  obtain ⟨x0, rfl, _, _, w0⟩ := open_int Try.underlying5 (hval 0 _ v0 rfl rfl) h0
  obtain ⟨x1, rfl, _⟩ := open_int Try.underlying3 (hval 1 _ v1 rfl rfl) h1
  obtain ⟨l, rfl, hl⟩ := open_text (hval 2 _ v2 rfl rfl) h2
  obtain ⟨x, rfl, hx⟩ := open_blk (hval 3 _ v3 rfl rfl) h3
  obtain ⟨s, rfl, hs⟩ := open_text (hval 4 _ v4 rfl rfl) h4
  obtain ⟨a0, a1⟩ := bounds_u8 w0
  have := back_any (UInt8.ofNat x0.toNat) x1 l x s W hl hx hs
  rw [show (((UInt8.ofNat x0.toNat).toNat : Nat) : Int) = x0 from by rw [ofNat_toNat]; omega] at this
  exact this

theorem BlockBack_holds : Rows.BlockBackSaid :=
  OpenClaim.holds_of_wide 8 Try.f8 rfl rfl rfl rfl rfl rfl rfl ⟨rfl, rfl, rfl, rfl, rfl⟩ rfl rfl rfl rfl rfl (by kernel_rfl) Try.func8 (by kernel_rfl)
    (of_decide_eq_true (by kernel_rfl)) (by unfold Func.isWrapper; first | (rw [if_pos (by decide +kernel)]; kernel_rfl) | (rw [if_neg (by decide +kernel)]; exact ⟨rfl, rfl⟩))
    (fun os started H enc _ => law_lifted (C := Try.checked) (s := Rows.blockBackSpec) own started (by kernel_rfl) Try.func8 laidOut rfl rfl Try.underlying4
      (by have h : ∀ u ∈ Try.f8.params.toList, (Try.prog.readableRec u && decide (u < Try.prog.types.size)) = true := List.all_eq_true.1 (by kernel_rfl)
          intro u hu; have := h u hu; rw [Bool.and_eq_true, decide_eq_true_eq] at this; exact this)
      (by intro H l hl; rw [show Try.f8.params.size = 5 from by rw [Try.params8]; rfl] at hl; match l, hl with | [d0, d1, d2, d3, d4], _ => rfl)
      H enc (ChangeSpec.witness6 (enc := enc) (C := Try.checked) false ⟨#[], #[.int .u8 0, .int .i64 0, .string ⟨#[]⟩, .agg (ac (zs 512)), .string ⟨#[]⟩], []⟩ 8 (by kernel_rfl) (by kernel_rfl) (by kernel_rfl) (by kernel_rfl)) back_walk)
#print axioms BlockBack_holds
end Go.Proofs.Ytjhgimdpgnnffaa
