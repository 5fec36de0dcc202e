/- XdrBad: a reader that is bad reads zeros, and nothing is left; what was read ahead of that was read: for every input the law returns true. Conditions: none. -/
import Derived.Test.YtnfibmoajimolaaWorks
import Derived.Test.YtnfibmoajimolaaReadLaw
namespace Go.Proofs.Ytnfibmoajimolaa
set_option linter.unusedVariables false
set_option linter.unusedSimpArgs false
open Go.ChangeShapes Go.WideShapes Go.ChangeAt Go.RowKit Pl
attribute [local go_sem] ba_toList ba_size

/-- 'int(uint(a) % m)'. -/
theorem umod_int (a m : Int) (h0 : 0 < m) (h1 : m < 9223372036854775808) : ∃ k : Nat, wrap64 ((IntKind.u64.wrap a).tmod m) = (k : Int) ∧ (k : Int) < m := by
  have hn := wrap_u64_nonneg a
  have hl := Int.emod_lt_of_pos (IntKind.u64.wrap a) h0
  have hg := Int.emod_nonneg (IntKind.u64.wrap a) (b := m) (by omega)
  refine ⟨(IntKind.u64.wrap a % m).toNat, ?_, by omega⟩
  rw [Int.tmod_eq_emod_of_nonneg hn, IntWalk.wrap64_in _ (by omega)]
  omega

theorem or4m (a b c d : UInt8) :
    bits BinOp.or IntKind.u32 (bits BinOp.or IntKind.u32 (bits BinOp.or IntKind.u32 ((a.toNat : Int) % 4294967296 * 16777216 % 4294967296) ((b.toNat : Int) % 4294967296 * 65536 % 4294967296)) ((c.toNat : Int) % 4294967296 * 256 % 4294967296)) ((d.toNat : Int) % 4294967296) = ((unbe 0 [a, b, c, d] : Nat) : Int) := by
  have ha := a.toNat_lt
  have hb := b.toNat_lt
  have hc := c.toNat_lt
  have hd := d.toNat_lt
  rw [show (a.toNat : Int) % 4294967296 * 16777216 % 4294967296 = (a.toNat : Int) * 16777216 from by omega, show (b.toNat : Int) % 4294967296 * 65536 % 4294967296 = (b.toNat : Int) * 65536 from by omega,
    show (c.toNat : Int) % 4294967296 * 256 % 4294967296 = (c.toNat : Int) * 256 from by omega, show (d.toNat : Int) % 4294967296 = (d.toNat : Int) from by omega, or4 a.toNat b.toNat c.toNat d.toNat ha hb hc hd]
  simp [unbe]

theorem four_of {l : List UInt8} {i : Nat} (h : 4 * i + 4 ≤ l.length) : ∃ a b c d : UInt8, l.drop (4 * i) = a :: b :: c :: d :: l.drop (4 * (i + 1)) ∧ l[4 * i]? = some a ∧ l[4 * i + 1]? = some b ∧ l[4 * i + 2]? = some c ∧ l[4 * i + 3]? = some d := by
  refine ⟨l[4 * i], l[4 * i + 1], l[4 * i + 2], l[4 * i + 3], ?_, by simp, by simp, by simp, by simp⟩
  rw [List.drop_eq_getElem_cons (by omega), List.drop_eq_getElem_cons (by omega), List.drop_eq_getElem_cons (by omega), List.drop_eq_getElem_cons (by omega)]
  congr 4

section
variable {g h : Nat} (w : World) (hr : Rd w g h none)
include hr
theorem rWord_bad : Calls Try.prog 23 #[ptr g] w fun e w' => e = .returned (.int .u32 0) ∧ Rd w' g h none ∧ w.grownBy w' (some g) := rWord_any w hr
theorem rLong_bad : Calls Try.prog 29 #[ptr g] w fun e w' => e = .returned (.int .u64 0) ∧ Rd w' g h none ∧ w.grownBy w' (some g) := rLong_any w hr
theorem rInt_bad : Calls Try.prog 30 #[ptr g] w fun e w' => e = .returned (.int .i64 0) ∧ Rd w' g h none ∧ w.grownBy w' (some g) := by
  have e : wrap64 (((longR none).1 : Nat) : Int) = 0 := by show wrap64 ((0 : Nat) : Int) = 0; unfold wrap64; omega
  have := rInt_any w hr
  rw [e] at this
  exact this
theorem rFlag_bad : Calls Try.prog 31 #[ptr g] w fun e w' => e = .returned (.bool false) ∧ Rd w' g h none ∧ w.grownBy w' (some g) := rFlag_any w hr
theorem rFixed_bad (n : Int) (hn : n ≤ 9223372036854775807) : Calls Try.prog 28 #[ptr g, .int .i64 n] w fun e w' => e = .returned (.string ⟨#[]⟩) ∧ Rd w' g h none ∧ w.grownBy w' (some g) := rFixed_any n w hr hn
theorem rText_bad (n : Int) : Calls Try.prog 24 #[ptr g, .int .i64 n] w fun e w' => e = .returned (.string ⟨#[]⟩) ∧ Rd w' g h none ∧ w.grownBy w' (some g) := rText_any n w hr
theorem rCount_bad (n : Int) : Calls Try.prog 32 #[ptr g, .int .i64 n] w fun e w' => e = .returned (.int .i64 0) ∧ Rd w' g h none ∧ w.grownBy w' (some g) := rCount_any n w hr
theorem Left_bad : Calls Try.prog 27 #[ptr g] w fun e w' => e = .returned (.int .i64 0) ∧ w = w' := Left_any w hr
theorem Done_bad : Calls Try.prog 25 #[ptr g] w fun e w' => e = .returned (.bool false) ∧ w = w' := Done_any w hr
theorem OK_bad : Calls Try.prog 26 #[ptr g] w fun e w' => e = .returned (.bool false) ∧ w = w' := OK_any w hr
end

set_option maxRecDepth 100000 in
set_option maxHeartbeats 6400000 in
theorem bad_any (n : Int) (x : Value) (l : List UInt8) (w : World) (hl : BytesV w x l) (h0 : -9223372036854775808 ≤ n) (hn : n ≤ 9223372036854775807) :
    Calls Try.prog 5 #[x, .int .i64 n] w fun e w' => e = .returned (.bool true) ∧ Below w.heap.size w w' := by
  have hlm := hl.len
  have HV := Lib.hid hl
  unfold maxLen at hlm
  by_cases hg : 5000 < l.length
  · obtain ⟨A, c, rfl, r⟩ := hl
    clear r
    have h1 : (5000 : Int) < (l.length : Int) := by omega
    go_enter Try.func5, Try.ntmps5
    go_wp2_with fail
    refine (works_any _).mono ?_; rintro e w1 ⟨rfl, hw1⟩
    go_wp2_with fail
    refine (works_any _).mono ?_; rintro e w2 ⟨rfl, hw2⟩
    go_wp2_with fail
    go_ret
    exact ⟨rfl, chain hw1 hw2⟩
  obtain ⟨A, c, rfl, r⟩ := hl
  clear r
  have h1 : ¬ (5000 : Int) < (l.length : Int) := by omega
  generalize hN : l.length = N at *
  have HN := Lib.hid hN
  clear hN
  go_enter Try.func5, Try.ntmps5
  go_wp2_with fail
  refine (works_any _).mono ?_; rintro e w1 ⟨rfl, hw1⟩
  obtain ⟨k, hk, hkn⟩ := umod_int n ((N : Int) / 4 + 1) (by omega) (by omega)
  have HK := Lib.hid hk
  clear hk
  go_wp2_with fail
  refine (NewReader_any _ l _ (HV.out.below hw1) (by rw [HN.out]; omega)).mono ?_; rintro e w2 ⟨g, h, rfl, rd, hw2, hg0, hh0, hg1, hh1⟩
  rw [HK.out]
  have b2 := chain hw1 hw2
  have hx2 := HV.out.below b2
  have HX2 := Lib.hid hx2
  have s1 := hw1.size
  have s2 := hw2.size
  clear hx2
  go_wp2_with fail
  go_loopw [7, 8] (fun i _ W => ∃ q : Nat, q ≤ k ∧ i = .int .i64 q ∧ Rd W g h (some (l.drop (4 * q))) ∧ w2.grownBy W (some g)) (fun i _ _ => k - (intOf i).toNat)
  case atStart => exact ⟨0, Nat.zero_le _, rfl, rd, World.grownBy.refl _ _⟩
  case round =>
    obtain ⟨q, hq, rfl, hR, hgW⟩ := hrel
    have bW := below_by b2 hgW (by omega) (by omega)
    have hxW := HV.out.below bW
    have sW := hgW.size
    by_cases hlt : q < k
    · obtain ⟨a, b, c', d, hdrop, e0, e1, e2, e3⟩ := four_of (l := l) (i := q) (by rw [HN.out]; omega)
      have hml : ((l.drop (4 * (q + 1))).length : Int) = (N : Int) - 4 * (q : Int) - 4 := by rw [List.length_drop, HN.out]; omega
      have hw : wordR (some (l.drop (4 * q))) = (unbe 0 [a, b, c', d], some (l.drop (4 * (q + 1)))) := by rw [hdrop]; exact wordR_app (l := [a, b, c', d]) rfl _
      have HWd := Lib.hid hw
      clear hdrop hw
      obtain ⟨m, hm⟩ : ∃ m, l.drop (4 * (q + 1)) = m := ⟨_, rfl⟩
      rw [hm] at hml HWd
      have HM := Lib.hid hm
      have hml' : ((m.length : Int) != (N : Int) - 4 * (q : Int) - 4) = false := by rw [hml]; exact bne_self_eq_false _
      clear hm hml
      have hq1 : (q : Int) < (k : Int) := by omega
      obtain ⟨A', cc, e, _, _, _, hx⟩ := hxW
      injection e with eA eN ec
      clear eN
      subst eA ec
      obtain ⟨bk, off, rfl, hbk, hcell⟩ := hx (by rw [HN.out]; omega)
      have f0 := hcell (4 * q) (by rw [HN.out]; omega)
      have f1 := hcell (4 * q + 1) (by rw [HN.out]; omega)
      have f2 := hcell (4 * q + 2) (by rw [HN.out]; omega)
      have f3 := hcell (4 * q + 3) (by rw [HN.out]; omega)
      rw [(List.getElem?_eq_some_iff.1 e0).2] at f0
      rw [(List.getElem?_eq_some_iff.1 e1).2] at f1
      rw [(List.getElem?_eq_some_iff.1 e2).2] at f2
      rw [(List.getElem?_eq_some_iff.1 e3).2] at f3
      have k0 := fun n : Ext _ => n.cell f0 hbk
      have k1 := fun n : Ext _ => n.cell f1 hbk
      have k2 := fun n : Ext _ => n.cell f2 hbk
      have k3 := fun n : Ext _ => n.cell f3 hbk
      clear hx hcell e0 e1 e2 e3
      have i0 : (4 * (q : Int)) < (N : Int) := by omega
      have i1 : (4 * (q : Int) + 1) < (N : Int) := by omega
      have i2 : (4 * (q : Int) + 2) < (N : Int) := by omega
      have i3 : (4 * (q : Int) + 3) < (N : Int) := by omega
      go_wp2_with fail
      refine wp_region_ext (by kernel_rfl) (by kernel_rfl) ?_
      repeat (go_big_quiet_step (fail))
      refine wpQuiet_nil ?_
      intro n1
      rw [or4m]
      have hR := hR.below n1.below
      go_wp2_with fail
      refine (rWord_any _ hR).mono ?_; rintro e w3 ⟨rfl, h3, g3⟩
      rw [HWd.out] at h3 ⊢
      go_wp2_with fail
      refine (OK_any _ h3).mono ?_; rintro e w' ⟨rfl, rfl⟩
      go_wp2_with fail
      refine (Left_any _ h3).mono ?_; rintro e w' ⟨rfl, rfl⟩
      go_wp2_with fail
      go_roundw
      case rel => exact ⟨q + 1, hlt, by go_num, by rw [HM.out]; exact h3, gtrans hgW (gtrans (wb_of n1.below _) g3)⟩
      case measure => simp [intOf]; omega
    · obtain rfl : q = k := by omega
      have h5 : fixR ((N : Int) + 1) (some (l.drop (4 * q))) = ([], none) := if_neg (fun e => by
        have := e.2.1
        rw [List.length_drop, HN.out] at this
        omega)
      have H5 := Lib.hid h5
      clear h5 hxW
      go_wp2_with fail
      refine (rFixed_any _ _ hR (by omega)).mono ?_; rintro e w3 ⟨rfl, h3, g3⟩
      rw [H5.out] at h3 ⊢
      go_wp2_with fail
      refine (OK_bad _ h3).mono ?_; rintro e w' ⟨rfl, rfl⟩
      go_wp2_with fail
      refine (Done_bad _ h3).mono ?_; rintro e w' ⟨rfl, rfl⟩
      go_wp2_with fail
      refine (Left_bad _ h3).mono ?_; rintro e w' ⟨rfl, rfl⟩
      go_wp2_with fail
      refine (rWord_bad _ h3).mono ?_; rintro e w4 ⟨rfl, h4, g4⟩
      go_wp2_with fail
      refine (rLong_bad _ h4).mono ?_; rintro e w5 ⟨rfl, h5, g5⟩
      go_wp2_with fail
      refine (rInt_bad _ h5).mono ?_; rintro e w6 ⟨rfl, h6, g6⟩
      go_wp2_with fail
      refine (rFlag_bad _ h6).mono ?_; rintro e w7 ⟨rfl, h7, g7⟩
      go_wp2_with fail
      refine (rText_bad _ h7 _).mono ?_; rintro e w8 ⟨rfl, h8, g8⟩
      go_wp2_with fail
      refine (rFixed_bad _ h8 _ (by omega)).mono ?_; rintro e w9 ⟨rfl, h9, g9⟩
      go_wp2_with fail
      refine (rCount_bad _ h9 _).mono ?_; rintro e w10 ⟨rfl, h10, g10⟩
      go_wp2_with fail
      refine (Left_bad _ h10).mono ?_; rintro e w' ⟨rfl, rfl⟩
      go_wp2_with fail
      refine (OK_bad _ h10).mono ?_; rintro e w' ⟨rfl, rfl⟩
      go_wp2_with fail
      go_ret
      exact ⟨rfl, below_by bW (gtrans g3 (gtrans g4 (gtrans g5 (gtrans g6 (gtrans g7 (gtrans g8 (gtrans g9 g10))))))) (by omega) (by omega)⟩

theorem bad_walk : Walks Try.prog 5 Try.f5 := by
  intro H enc W args ds p base hval hA _
  rw [Try.params5] at hA hval
  obtain ⟨v0, v1, d0, d1, p0, p1, rfl, rfl, rfl, h0, h1⟩ := trodAll_two hA
  obtain ⟨l, hl⟩ := open_bytes (hval 0 _ v0 rfl rfl) h0
  obtain ⟨n, rfl, _, _, hn⟩ := open_int Try.underlying3 (hval 1 _ v1 rfl rfl) h1
  have hb := bounds_i64 hn
  exact bad_any n v0 l W hl hb.1 hb.2

theorem XdrBad_holds : Rows.XdrBadSaid :=
  OpenClaim.holds_of_wide 5 Try.f5 rfl rfl rfl rfl rfl rfl rfl ⟨rfl, rfl, rfl, rfl, rfl⟩ rfl rfl rfl rfl rfl (by kernel_rfl) Try.func5 (by kernel_rfl)
    (of_decide_eq_true (by kernel_rfl)) (by unfold Func.isWrapper; first | (rw [if_pos (by decide +kernel)]; kernel_rfl) | (rw [if_neg (by decide +kernel)]; exact ⟨rfl, rfl⟩))
    (fun os started H enc _ => law_lifted (C := Try.checked) (s := Rows.xdrBadSpec) own started (by kernel_rfl) Try.func5 laidOut rfl rfl Try.underlying4
      (by have h : ∀ u ∈ Try.f5.params.toList, (Try.prog.readableRec u && decide (u < Try.prog.types.size)) = true := List.all_eq_true.1 (by kernel_rfl)
          intro u hu; have := h u hu; rw [Bool.and_eq_true, decide_eq_true_eq] at this; exact this)
      (by intro H l hl; rw [show Try.f5.params.size = 2 from by rw [Try.params5]; rfl] at hl; match l, hl with | [d0, d1], _ => rfl)
      H enc (ChangeSpec.witness6 (enc := enc) (C := Try.checked) false ⟨#[], #[.slice none 0 0, .int .i64 0], []⟩ 8 (by kernel_rfl) (by kernel_rfl) (by kernel_rfl) (by kernel_rfl)) bad_walk)
#print axioms XdrBad_holds
end Go.Proofs.Ytnfibmoajimolaa
