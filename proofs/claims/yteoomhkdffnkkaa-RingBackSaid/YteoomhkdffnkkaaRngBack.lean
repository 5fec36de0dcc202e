/- RingBack: what was sealed is opened so; a block that is opened was sealed of that; another byte of the sum or the body is told: for every root, block, place and byte the law returns true. Conditions: none. -/
import Derived.Test.YteoomhkdffnkkaaRngWorks2
import Derived.Deep.DeepCutAuto
namespace Go.Proofs.Yteoomhkdffnkkaa
set_option linter.unusedVariables false
set_option linter.unusedSimpArgs false
open Go.ChangeShapes Go.WideShapes Go.ChangeAt Go.RowKit Go.Joins Pl
attribute [local go_sem] ba_toList ba_size zeroValueB
set_option maxRecDepth 100000

theorem rsL_get {t : Int} {l : List UInt8} (h : rsE t l = 0) {j : Nat} (hj : j < (rSum l ++ l).length) (hk : 12 + j < (rsL t l).length) : (rsL t l)[12 + j] = (rSum l ++ l)[j] := by
  have hE := sealE_of h
  have hL : rsL t l = (([106, 116, 116, 121, (3 : UInt8), 0, UInt8.ofNat ((rSum l ++ l).length / 256), UInt8.ofNat (rSum l ++ l).length] ++ be 4 t.toNat) ++ ((rSum l ++ l) ++ zs (500 - (rSum l ++ l).length))) := by
    have e1 : rsL t l = sealL 3 t (rSum l ++ l) := if_pos h
    have e2 : sealL 3 t (rSum l ++ l) = sealB 3 t (rSum l ++ l) := if_pos hE
    rw [e1, e2]
    unfold sealB
    simp only [List.append_assoc]
  have e4 : ([106, 116, 116, 121, (3 : UInt8), 0, UInt8.ofNat ((rSum l ++ l).length / 256), UInt8.ofNat (rSum l ++ l).length] ++ be 4 t.toNat).length = 12 := by simp
  have hk2 := hk
  rw [hL] at hk2
  have : (rsL t l)[12 + j] = ((([106, 116, 116, 121, (3 : UInt8), 0, UInt8.ofNat ((rSum l ++ l).length / 256), UInt8.ofNat (rSum l ++ l).length] ++ be 4 t.toNat) ++ ((rSum l ++ l) ++ zs (500 - (rSum l ++ l).length))))[12 + j] := by congr 1
  rw [this, List.getElem_append_right (by rw [e4]; omega)]
  simp only [e4, show 12 + j - 12 = j from by omega]
  rw [List.getElem_append_left hj]

set_option maxHeartbeats 6400000 in
theorem back_any (t : Int) (l m : List UInt8) (at_ : Int) (c : UInt8) (w : World) (hl : l.length ≤ maxLen) (hm : m.length = 512) :
    Calls Try.prog 5 #[rootV t l, blk m, .int .i64 at_, .int .u8 (c.toNat : Int)] w fun e w' => e = .returned (.bool true) ∧ Below w.heap.size w w' := by
  unfold maxLen at hl
  have c0 : (w.alloc (.cells #[.int .i64 t, sv l] 23)).cell? ⟨w.heap.size, 0, none⟩ = some (.int .i64 t) ∧ (w.alloc (.cells #[.int .i64 t, sv l] 23)).cell? ⟨w.heap.size, 1, none⟩ = some (sv l) := ⟨by simp, by simp⟩
  have X0 := Lies.new (w.alloc (.cells #[.int .i64 t, sv l] 23)) m (w.heap.size + 1) (by simp)
  have old : ∀ W : World, Below ((w.alloc (.cells #[.int .i64 t, sv l] 23)).alloc (.cells (ac m) 25)).heap.size ((w.alloc (.cells #[.int .i64 t, sv l] 23)).alloc (.cells (ac m) 25)) W →
      (W.cell? ⟨w.heap.size, 0, none⟩ = some (.int .i64 t) ∧ W.cell? ⟨w.heap.size, 1, none⟩ = some (sv l)) ∧ Lies W (w.heap.size + 1) m ∧ w.heap.size + 2 ≤ W.heap.size ∧ Below w.heap.size w W := fun W h =>
    ⟨⟨(h.cell (p := ⟨w.heap.size, 0, none⟩) (by simp; omega)).trans (by simp), (h.cell (p := ⟨w.heap.size, 1, none⟩) (by simp; omega)).trans (by simp)⟩, X0.below h, by have := h.size; simp at this; omega, Below.trans ((((Below.refl _ _).alloc (Nat.le_refl _) _)).alloc (by simp) _) (h.mono (by simp; omega))⟩
  have OLD := Lib.hid old
  have HX := Lib.hid X0
  have HM5 := Lib.hid hm
  clear c0 X0 old
  by_cases h1 : (3000 : Int) < (l.length : Int)
  · go_enter Try.func5, Try.ntmps5
    go_wp2_with fail
    refine (rworks_any _).mono ?_; rintro e w1 ⟨rfl, hw1⟩
    have b1 : Below w.heap.size w w1 := chain (by repeat' (first | (with_reducible exact Below.refl _ _) | (with_reducible assumption) | (with_reducible refine below_drewN ?_ _) | (with_reducible refine Below.alloc ?_ ?_ _) | (with_reducible refine Below.drew ?_) | (with_reducible refine Below.setCell ?_ ?_ _) | go_size)) hw1
    have s1 := b1.size
    have b1' : Below ((w.alloc (.cells #[.int .i64 t, sv l] 23)).alloc (.cells (ac m) 25)).heap.size ((w.alloc (.cells #[.int .i64 t, sv l] 23)).alloc (.cells (ac m) 25)) w1 := by assumption
    obtain ⟨⟨q0, q1⟩, _, _, _⟩ := OLD.out w1 b1'
    go_wp2_with fail
    refine (rworks_any _).mono ?_; rintro e w2 ⟨rfl, hw2⟩
    have b2 : Below w.heap.size w w2 := chain (by repeat' (first | (with_reducible exact Below.refl _ _) | (with_reducible assumption) | (with_reducible refine below_drewN ?_ _) | (with_reducible refine Below.alloc ?_ ?_ _) | (with_reducible refine Below.drew ?_) | (with_reducible refine Below.setCell ?_ ?_ _) | go_size)) hw2
    have s2 := b2.size
    go_wp2_with fail
    go_ret
    exact ⟨rfl, by assumption⟩
  have SA := fun W : World => ringseal_any t l W (by omega)
  have HLs := Lib.hid (rsL_len t l)
  by_cases hE : rsE t l = 0
  · obtain ⟨o1, o2, o3⟩ := rs_open hE
    have hO : roV (rsL t l) = .tuple #[rootV t l, .int .i64 0] := by
      unfold roV
      rw [if_pos o1, o2, o3]
    have OA := fun W : World => ringopen_any (rsL t l) W (rsL_len t l)
    rw [hO] at OA
    rw [hE] at SA
    obtain ⟨j, hj, hj5⟩ := umod_int at_ (8 + (l.length : Int)) (by omega) (by omega)
    have hj8 : j < 8 + l.length := by omega
    have hlen := (rsE_ok hE).2.2
    have hjl : 12 + j < (rsL t l).length := by rw [rsL_len]; omega
    have hoth : ∀ c, ((rSum l ++ l)[j]'(by rw [List.length_append, rSum_len]; exact hj8)) ≠ c → roE ((rsL t l).set (12 + j) c) = 52 := fun c h => ro_other hE hj8 h
    have hsame : (rsL t l)[12 + j] = ((rSum l ++ l)[j]'(by rw [List.length_append, rSum_len]; exact hj8)) := rsL_get hE _ _
    have GS := Lib.hid SA
    have GO := Lib.hid OA
    rw [← hsame] at hoth
    clear hsame o1 o2 o3 hO
    obtain ⟨n, hn⟩ : ∃ n : Nat, n = 12 + j := ⟨_, rfl⟩
    have hj' : wrap64 (12 + wrap64 ((IntKind.u64.wrap at_).tmod (8 + (l.length : Int)))) = (n : Int) := by rw [hj, IntWalk.wrap64_in _ (by omega)]; omega
    have HJ := Lib.hid hj'
    have hn5 : n < 512 := by rw [rsL_len] at hjl; omega
    have hjn : n < (rsL t l).length := by rw [hn]; exact hjl
    have hoth2 : ∀ c, ((rsL t l)[n]'hjn) ≠ c → roE ((rsL t l).set n c) = 52 := by subst hn; exact hoth
    clear hj' hoth hjl
    generalize rsL t l = L at *
    have HO := Lib.hid hoth2
    clear SA OA hj hoth2 hE hlen hm hn hj5 hj8
    go_enter Try.func5, Try.ntmps5
    go_wp2_with fail
    refine (rworks_any _).mono ?_; rintro e w1 ⟨rfl, hw1⟩
    have b1 : Below w.heap.size w w1 := chain (by repeat' (first | (with_reducible exact Below.refl _ _) | (with_reducible assumption) | (with_reducible refine below_drewN ?_ _) | (with_reducible refine Below.alloc ?_ ?_ _) | (with_reducible refine Below.drew ?_) | (with_reducible refine Below.setCell ?_ ?_ _) | go_size)) hw1
    have s1 := b1.size
    have b1' : Below ((w.alloc (.cells #[.int .i64 t, sv l] 23)).alloc (.cells (ac m) 25)).heap.size ((w.alloc (.cells #[.int .i64 t, sv l] 23)).alloc (.cells (ac m) 25)) w1 := by assumption
    obtain ⟨⟨q0, q1⟩, _, _, _⟩ := OLD.out w1 b1'
    go_wp2_with fail
    refine (r_any _ _ _).mono ?_; rintro e w2 ⟨rfl, hw2⟩
    have b2 : Below w.heap.size w w2 := chain (by repeat' (first | (with_reducible exact Below.refl _ _) | (with_reducible assumption) | (with_reducible refine below_drewN ?_ _) | (with_reducible refine Below.alloc ?_ ?_ _) | (with_reducible refine Below.drew ?_) | (with_reducible refine Below.setCell ?_ ?_ _) | go_size)) hw2
    have s2 := b2.size
    have b2' := b1'.trans (hw2.mono b1'.size)
    go_wp2_with fail
    refine (GS.out _).mono ?_; rintro e w3 ⟨rfl, hw3⟩
    have b3 : Below w.heap.size w w3 := chain (by repeat' (first | (with_reducible exact Below.refl _ _) | (with_reducible assumption) | (with_reducible refine below_drewN ?_ _) | (with_reducible refine Below.alloc ?_ ?_ _) | (with_reducible refine Below.drew ?_) | (with_reducible refine Below.setCell ?_ ?_ _) | go_size)) hw3
    have s3 := b3.size
    have b3' := b2'.trans (hw3.mono b2'.size)
    clear q0 q1
    have HZ := Lib.hid (Lies.new w3 (zs 512) _ rfl)
    go_wp2_with (with_reducible refine wpList_store_blk (m := L) rfl _ _ rfl rfl rfl HZ.out (zs_len 512) HLs.out ?_)
    intro w4 h4 g4
    have b4' := below_row (b3'.alloc b3'.size (.cells (ac (zs 512)) 25)) g4 (by have := b3'.size; simp at this ⊢; omega) b3'.size
    have H4 := Lib.hid h4
    clear h4 HZ
    go_wp2_with (with_reducible refine wpList_load_blk rfl _ rfl rfl H4.out HLs.out ?_)
    refine (GO.out _).mono ?_; rintro r w5 ⟨rfl, hw5⟩
    have b5' := b4'.trans (hw5.mono b4'.size)
    obtain ⟨⟨q0, q1⟩, _, sz5, _⟩ := OLD.out w5 b5'
    have H5 := Lib.hid (H4.out.below hw5)
    have lt5 := H5.out.lt
    go_wp2_with fail
    have m0 : (w5.alloc (.cells #[.int .i64 t, sv l] 29)).cell? ⟨w5.heap.size, 0, none⟩ = some (.int .i64 t) := by simp
    have m1 : (w5.alloc (.cells #[.int .i64 t, sv l] 29)).cell? ⟨w5.heap.size, 1, none⟩ = some (sv l) := by simp
    have lm : w5.heap.size < (w5.alloc (.cells #[.int .i64 t, sv l] 29)).heap.size := by simp
    have b6' := b5'.alloc b5'.size (.cells #[.int .i64 t, sv l] 29)
    obtain ⟨⟨k0, k1⟩, _, sz6, b6⟩ := OLD.out _ b6'
    have H6 := Lib.hid (H5.out.alloc (.cells #[.int .i64 t, sv l] 29))
    generalize w5.alloc (.cells #[.int .i64 t, sv l] 29) = W6 at *
    have M0 := fun n : Ext W6 => Ext.cell m0 lm n
    have M1 := fun n : Ext W6 => Ext.cell m1 lm n
    have K0 := fun n : Ext W6 => Ext.cell k0 (by show w.heap.size < _; omega) n
    have K1 := fun n : Ext W6 => Ext.cell k1 (by show w.heap.size < _; omega) n
    clear m0 m1 k0 k1 q0 q1
    refine wp_region_ext (by kernel_rfl) (by kernel_rfl) ?_
    repeat (go_big_quiet_step ((go_at_call 17; exact Ext.of_call (r_any t l _))))
    refine wpQuiet_nil ?_
    intro n1
    have H7 := Lib.hid (H6.out.below n1.below)
    have b7' := b6'.trans (n1.below.mono b6'.size)
    clear M0 M1 K0 K1 lt5
    generalize n1.W = W7 at *
    obtain ⟨⟨q0, q1⟩, _, sz7, b7⟩ := OLD.out W7 b7'
    have lt7 := H7.out.lt
    have cj := H7.out.cell hjn
    have fj := H7.out.free n
    have hn0 : (0 : Int) ≤ (n : Int) := by omega
    by_cases hc : L[n] = c
    · have hc' : (((c.toNat : Int) == ((L[n]).toNat : Int))) = true := by rw [hc]; simp
      have H8 := Lib.hid (H7.out.set c hjn)
      have hsL : L.set n c = L := by rw [← hc]; exact List.set_getElem_self hjn
      rw [hsL] at H8
      clear hc hsL
      go_upto_region 9 with (fail)
      rw [HJ.out]
      go_wp2_with (with_reducible refine wpList_load_blk rfl _ rfl rfl H8.out HLs.out ?_)
      refine (GO.out _).mono ?_; rintro r w8 ⟨rfl, hw8⟩
      have b8s := b7'.setCell (p := ⟨w3.heap.size, n, none⟩) b3'.size (.int .u8 (c.toNat : Int))
      have b8' := b8s.trans (hw8.mono b8s.size)
      have bT' := b8'.alloc b8'.size (.cells #[.int .i64 t, sv l] 29)
      obtain ⟨⟨_, _⟩, LXT, _, _⟩ := OLD.out _ bT'
      have HXT := Lib.hid LXT
      clear LXT
      by_cases hO : roE m = 0
      · obtain ⟨s1, s2⟩ := ro_sealed hO
        have hV : roV m = .tuple #[rootV (oB m) ((oS m).drop 8), .int .i64 0] := if_pos hO
        have OM := fun W : World => ringopen_any m W HM5.out
        rw [hV] at OM
        have hsl : ((oS m).drop 8).length ≤ 9223372036854775807 := by unfold oS; simp; have := HM5.out; omega
        have SM := fun W : World => ringseal_any (oB m) ((oS m).drop 8) W hsl
        rw [s1, s2] at SM
        have qb := fun W : World => run_eq_blk m m HM5.out HM5.out W
        rw [show (m == m) = true from by simp] at qb
        have GOM := Lib.hid OM
        have GSM := Lib.hid SM
        have HQ := Lib.hid qb
        clear OM SM qb s1 s2 hV hsl hO
        generalize oB m = T at *
        generalize (oS m).drop 8 = S at *
        go_wp2_with (with_reducible refine wpList_load_blk rfl _ rfl rfl HXT.out HM5.out ?_)
        refine (GOM.out _).mono ?_; rintro r w20 ⟨rfl, hw20⟩
        have b20' := bT'.trans (hw20.mono bT'.size)
        have HX20 := Lib.hid ((HXT.out.below hw20).alloc (.cells #[.int .i64 T, sv S] 29))
        go_wp2_with fail
        refine (GSM.out _).mono ?_; rintro r w21 ⟨rfl, hw21⟩
        have b21' := (b20'.alloc b20'.size (.cells #[.int .i64 T, sv S] 29)).trans (hw21.mono (b20'.alloc b20'.size (.cells #[.int .i64 T, sv S] 29)).size)
        have HX21 := Lib.hid ((HX20.out.below hw21).alloc (.cells (ac (zs 512)) 25))
        have ltx := (HX20.out.below hw21).lt
        have HZ21 := Lib.hid (Lies.new w21 (zs 512) _ rfl)
        go_wp2_with (with_reducible refine wpList_store_blk (m := m) rfl _ _ rfl rfl rfl HZ21.out (zs_len 512) HM5.out ?_)
        intro w22 h22 g22
        have b22' := below_row (b21'.alloc b21'.size (.cells (ac (zs 512)) 25)) g22 (by have := b21'.size; simp at this ⊢; omega) b21'.size
        have HX22 := Lib.hid (HX21.out.but g22 (fun e => by have e := Option.some.inj e; omega))
        have H22 := Lib.hid h22
        clear h22 g22
        obtain ⟨_, _, _, b22⟩ := OLD.out w22 b22'
        have q := HQ.out
        go_wp2_with (first | refine wpList_load_blk_g _ rfl rfl H22.out HM5.out (by rfl) ?_ | refine wpList_load_blk_g _ rfl rfl HX22.out HM5.out (by rfl) ?_)
        go_ret
        exact ⟨rfl, b22⟩
      · have hV : roV m = .tuple #[rootV 0 [], .int .i64 (roE m)] := if_neg hO
        have OM := fun W : World => ringopen_any m W HM5.out
        rw [hV] at OM
        have hOf : (roE m != 0) = true := by rw [bne_iff_ne]; exact hO
        have GOM := Lib.hid OM
        clear OM hV hO
        generalize roE m = E at *
        go_wp2_with (with_reducible refine wpList_load_blk rfl _ rfl rfl HXT.out HM5.out ?_)
        refine (GOM.out _).mono ?_; rintro r w20 ⟨rfl, hw20⟩
        have b20' := bT'.trans (hw20.mono bT'.size)
        obtain ⟨_, _, _, b20⟩ := OLD.out w20 b20'
        go_wp2_with fail
        go_ret
        exact ⟨rfl, by repeat' (first | (with_reducible exact Below.refl _ _) | (with_reducible assumption) | (with_reducible refine below_drewN ?_ _) | (with_reducible refine Below.alloc ?_ ?_ _) | (with_reducible refine Below.drew ?_) | (with_reducible refine Below.setCell ?_ ?_ _) | go_size)⟩
    · have hc' : (((c.toNat : Int) == ((L[n]).toNat : Int))) = false := by
        rw [beq_eq_false_iff_ne]
        intro e
        exact hc (UInt8.toNat_inj.1 (by omega))
      have hcn : (((c.toNat : Int) != ((L[n]).toNat : Int))) = true := by rw [bne, hc']; rfl
      have H8 := Lib.hid (H7.out.set c hjn)
      have hs5 : (L.set n c).length = 512 := by rw [List.length_set]; exact HLs.out
      have OC := fun W : World => ringopen_any (L.set n c) W hs5
      have hOV : roV (L.set n c) = .tuple #[rootV 0 [], .int .i64 52] := by
        have := HO.out c hc
        unfold roV
        rw [this, if_neg (by decide)]
      rw [hOV] at OC
      have GC := Lib.hid OC
      have HS5 := Lib.hid hs5
      clear hc OC hOV hs5
      go_upto_region 9 with (fail)
      rw [HJ.out]
      go_wp2_with (with_reducible refine wpList_load_blk rfl _ rfl rfl H8.out HS5.out ?_)
      refine (GC.out _).mono ?_; rintro r w8 ⟨rfl, hw8⟩
      have b8s := b7'.setCell (p := ⟨w3.heap.size, n, none⟩) b3'.size (.int .u8 (c.toNat : Int))
      have b8' := b8s.trans (hw8.mono b8s.size)
      have bT' := b8'.alloc b8'.size (.cells #[.int .i64 0, .string ⟨#[]⟩] 29)
      obtain ⟨⟨_, _⟩, LXT, _, _⟩ := OLD.out _ bT'
      have HXT := Lib.hid LXT
      clear LXT
      by_cases hO : roE m = 0
      · obtain ⟨s1, s2⟩ := ro_sealed hO
        have hV : roV m = .tuple #[rootV (oB m) ((oS m).drop 8), .int .i64 0] := if_pos hO
        have OM := fun W : World => ringopen_any m W HM5.out
        rw [hV] at OM
        have hsl : ((oS m).drop 8).length ≤ 9223372036854775807 := by unfold oS; simp; have := HM5.out; omega
        have SM := fun W : World => ringseal_any (oB m) ((oS m).drop 8) W hsl
        rw [s1, s2] at SM
        have qb := fun W : World => run_eq_blk m m HM5.out HM5.out W
        rw [show (m == m) = true from by simp] at qb
        have GOM := Lib.hid OM
        have GSM := Lib.hid SM
        have HQ := Lib.hid qb
        clear OM SM qb s1 s2 hV hsl hO
        generalize oB m = T at *
        generalize (oS m).drop 8 = S at *
        go_wp2_with (with_reducible refine wpList_load_blk rfl _ rfl rfl HXT.out HM5.out ?_)
        refine (GOM.out _).mono ?_; rintro r w20 ⟨rfl, hw20⟩
        have b20' := bT'.trans (hw20.mono bT'.size)
        have HX20 := Lib.hid ((HXT.out.below hw20).alloc (.cells #[.int .i64 T, sv S] 29))
        go_wp2_with fail
        refine (GSM.out _).mono ?_; rintro r w21 ⟨rfl, hw21⟩
        have b21' := (b20'.alloc b20'.size (.cells #[.int .i64 T, sv S] 29)).trans (hw21.mono (b20'.alloc b20'.size (.cells #[.int .i64 T, sv S] 29)).size)
        have HX21 := Lib.hid ((HX20.out.below hw21).alloc (.cells (ac (zs 512)) 25))
        have ltx := (HX20.out.below hw21).lt
        have HZ21 := Lib.hid (Lies.new w21 (zs 512) _ rfl)
        go_wp2_with (with_reducible refine wpList_store_blk (m := m) rfl _ _ rfl rfl rfl HZ21.out (zs_len 512) HM5.out ?_)
        intro w22 h22 g22
        have b22' := below_row (b21'.alloc b21'.size (.cells (ac (zs 512)) 25)) g22 (by have := b21'.size; simp at this ⊢; omega) b21'.size
        have HX22 := Lib.hid (HX21.out.but g22 (fun e => by have e := Option.some.inj e; omega))
        have H22 := Lib.hid h22
        clear h22 g22
        obtain ⟨_, _, _, b22⟩ := OLD.out w22 b22'
        have q := HQ.out
        go_wp2_with (first | refine wpList_load_blk_g _ rfl rfl H22.out HM5.out (by rfl) ?_ | refine wpList_load_blk_g _ rfl rfl HX22.out HM5.out (by rfl) ?_)
        go_ret
        exact ⟨rfl, b22⟩
      · have hV : roV m = .tuple #[rootV 0 [], .int .i64 (roE m)] := if_neg hO
        have OM := fun W : World => ringopen_any m W HM5.out
        rw [hV] at OM
        have hOf : (roE m != 0) = true := by rw [bne_iff_ne]; exact hO
        have GOM := Lib.hid OM
        clear OM hV hO
        generalize roE m = E at *
        go_wp2_with (with_reducible refine wpList_load_blk rfl _ rfl rfl HXT.out HM5.out ?_)
        refine (GOM.out _).mono ?_; rintro r w20 ⟨rfl, hw20⟩
        have b20' := bT'.trans (hw20.mono bT'.size)
        obtain ⟨_, _, _, b20⟩ := OLD.out w20 b20'
        go_wp2_with fail
        go_ret
        exact ⟨rfl, by repeat' (first | (with_reducible exact Below.refl _ _) | (with_reducible assumption) | (with_reducible refine below_drewN ?_ _) | (with_reducible refine Below.alloc ?_ ?_ _) | (with_reducible refine Below.drew ?_) | (with_reducible refine Below.setCell ?_ ?_ _) | go_size)⟩
  · have hE' : (rsE t l == 0) = false := by simp [hE]
    have hL : rsL t l = zs 512 := if_neg hE
    rw [hL] at SA
    have GS := Lib.hid SA
    clear SA hL hE HLs hm
    generalize rsE t l = E1 at *
    go_enter Try.func5, Try.ntmps5
    go_wp2_with fail
    refine (rworks_any _).mono ?_; rintro e w1 ⟨rfl, hw1⟩
    have b1 : Below w.heap.size w w1 := chain (by repeat' (first | (with_reducible exact Below.refl _ _) | (with_reducible assumption) | (with_reducible refine below_drewN ?_ _) | (with_reducible refine Below.alloc ?_ ?_ _) | (with_reducible refine Below.drew ?_) | (with_reducible refine Below.setCell ?_ ?_ _) | go_size)) hw1
    have s1 := b1.size
    have b1' : Below ((w.alloc (.cells #[.int .i64 t, sv l] 23)).alloc (.cells (ac m) 25)).heap.size ((w.alloc (.cells #[.int .i64 t, sv l] 23)).alloc (.cells (ac m) 25)) w1 := by assumption
    obtain ⟨⟨q0, q1⟩, _, _, _⟩ := OLD.out w1 b1'
    go_wp2_with fail
    refine (r_any _ _ _).mono ?_; rintro e w2 ⟨rfl, hw2⟩
    have b2 : Below w.heap.size w w2 := chain (by repeat' (first | (with_reducible exact Below.refl _ _) | (with_reducible assumption) | (with_reducible refine below_drewN ?_ _) | (with_reducible refine Below.alloc ?_ ?_ _) | (with_reducible refine Below.drew ?_) | (with_reducible refine Below.setCell ?_ ?_ _) | go_size)) hw2
    have s2 := b2.size
    have b2' := b1'.trans (hw2.mono b1'.size)
    go_wp2_with fail
    refine (GS.out _).mono ?_; rintro e w3 ⟨rfl, hw3⟩
    have b3 : Below w.heap.size w w3 := chain (by repeat' (first | (with_reducible exact Below.refl _ _) | (with_reducible assumption) | (with_reducible refine below_drewN ?_ _) | (with_reducible refine Below.alloc ?_ ?_ _) | (with_reducible refine Below.drew ?_) | (with_reducible refine Below.setCell ?_ ?_ _) | go_size)) hw3
    have s3 := b3.size
    have b3' := b2'.trans (hw3.mono b2'.size)
    clear q0 q1
    have HZ := Lib.hid (Lies.new w3 (zs 512) _ rfl)
    go_wp2_with (with_reducible refine wpList_store_blk (m := zs 512) rfl _ _ rfl rfl rfl HZ.out (zs_len 512) (zs_len 512) ?_)
    intro w4 h4 g4
    have b4' := below_row (b3'.alloc b3'.size (.cells (ac (zs 512)) 25)) g4 (by have := b3'.size; simp at this ⊢; omega) b3'.size
    clear h4 g4 HZ
    have bT' := b4'
    obtain ⟨⟨_, _⟩, LXT, _, _⟩ := OLD.out _ bT'
    have HXT := Lib.hid LXT
    clear LXT
    by_cases hO : roE m = 0
    · obtain ⟨s1, s2⟩ := ro_sealed hO
      have hV : roV m = .tuple #[rootV (oB m) ((oS m).drop 8), .int .i64 0] := if_pos hO
      have OM := fun W : World => ringopen_any m W HM5.out
      rw [hV] at OM
      have hsl : ((oS m).drop 8).length ≤ 9223372036854775807 := by unfold oS; simp; have := HM5.out; omega
      have SM := fun W : World => ringseal_any (oB m) ((oS m).drop 8) W hsl
      rw [s1, s2] at SM
      have qb := fun W : World => run_eq_blk m m HM5.out HM5.out W
      rw [show (m == m) = true from by simp] at qb
      have GOM := Lib.hid OM
      have GSM := Lib.hid SM
      have HQ := Lib.hid qb
      clear OM SM qb s1 s2 hV hsl hO
      generalize oB m = T at *
      generalize (oS m).drop 8 = S at *
      go_wp2_with (with_reducible refine wpList_load_blk rfl _ rfl rfl HXT.out HM5.out ?_)
      refine (GOM.out _).mono ?_; rintro r w20 ⟨rfl, hw20⟩
      have b20' := bT'.trans (hw20.mono bT'.size)
      have HX20 := Lib.hid ((HXT.out.below hw20).alloc (.cells #[.int .i64 T, sv S] 29))
      go_wp2_with fail
      refine (GSM.out _).mono ?_; rintro r w21 ⟨rfl, hw21⟩
      have b21' := (b20'.alloc b20'.size (.cells #[.int .i64 T, sv S] 29)).trans (hw21.mono (b20'.alloc b20'.size (.cells #[.int .i64 T, sv S] 29)).size)
      have HX21 := Lib.hid ((HX20.out.below hw21).alloc (.cells (ac (zs 512)) 25))
      have ltx := (HX20.out.below hw21).lt
      have HZ21 := Lib.hid (Lies.new w21 (zs 512) _ rfl)
      go_wp2_with (with_reducible refine wpList_store_blk (m := m) rfl _ _ rfl rfl rfl HZ21.out (zs_len 512) HM5.out ?_)
      intro w22 h22 g22
      have b22' := below_row (b21'.alloc b21'.size (.cells (ac (zs 512)) 25)) g22 (by have := b21'.size; simp at this ⊢; omega) b21'.size
      have HX22 := Lib.hid (HX21.out.but g22 (fun e => by have e := Option.some.inj e; omega))
      have H22 := Lib.hid h22
      clear h22 g22
      obtain ⟨_, _, _, b22⟩ := OLD.out w22 b22'
      have q := HQ.out
      go_wp2_with (first | refine wpList_load_blk_g _ rfl rfl H22.out HM5.out (by rfl) ?_ | refine wpList_load_blk_g _ rfl rfl HX22.out HM5.out (by rfl) ?_)
      go_ret
      exact ⟨rfl, b22⟩
    · have hV : roV m = .tuple #[rootV 0 [], .int .i64 (roE m)] := if_neg hO
      have OM := fun W : World => ringopen_any m W HM5.out
      rw [hV] at OM
      have hOf : (roE m != 0) = true := by rw [bne_iff_ne]; exact hO
      have GOM := Lib.hid OM
      clear OM hV hO
      generalize roE m = E at *
      go_wp2_with (with_reducible refine wpList_load_blk rfl _ rfl rfl HXT.out HM5.out ?_)
      refine (GOM.out _).mono ?_; rintro r w20 ⟨rfl, hw20⟩
      have b20' := bT'.trans (hw20.mono bT'.size)
      obtain ⟨_, _, _, b20⟩ := OLD.out w20 b20'
      go_wp2_with fail
      go_ret
      exact ⟨rfl, by repeat' (first | (with_reducible exact Below.refl _ _) | (with_reducible assumption) | (with_reducible refine below_drewN ?_ _) | (with_reducible refine Below.alloc ?_ ?_ _) | (with_reducible refine Below.drew ?_) | (with_reducible refine Below.setCell ?_ ?_ _) | go_size)⟩

theorem back_walk : Walks Try.prog 5 Try.f5 := by
  intro H enc W args ds p base hval hA hz
  rw [Try.params5] at hA hval
  obtain ⟨v0, vs1, d0, ds1, p0, q0, ha0, rfl, rfl, h0, hA⟩ := trodAll_cons hA
  obtain ⟨v1, vs2, d1, ds2, p1, q1, rfl, rfl, rfl, h1, hA⟩ := trodAll_cons hA
  obtain ⟨v2, vs3, d2, ds3, p2, q2, rfl, rfl, rfl, h2, hA⟩ := trodAll_cons hA
  obtain ⟨v3, vs4, d3, ds4, p3, q3, rfl, rfl, rfl, h3, hA⟩ := trodAll_cons hA
  obtain ⟨rfl, rfl, rfl⟩ := trodAll_nil hA
  obtain rfl : args = #[v0, v1, v2, v3] := by cases args; simp_all
  obtain ⟨t, l, rfl, hl⟩ := open_root (hval 0 _ v0 rfl rfl) h0
  obtain ⟨x, rfl, hx⟩ := open_blk (hval 1 _ v1 rfl rfl) h1
  obtain ⟨x2, rfl, _⟩ := open_int Try.underlying3 (hval 2 _ v2 rfl rfl) h2
  obtain ⟨x3, rfl, _, _, w3⟩ := open_int Try.underlying5 (hval 3 _ v3 rfl rfl) h3
  obtain ⟨c0, c1⟩ := bounds_u8 w3
  have := back_any t l x x2 (UInt8.ofNat x3.toNat) W hl hx
  rw [show (((UInt8.ofNat x3.toNat).toNat : Nat) : Int) = x3 from by rw [ofNat_toNat]; omega] at this
  exact this

theorem RingBack_holds : Rows.RingBackSaid :=
  OpenClaim.holds_of_wide 5 Try.f5 rfl rfl rfl rfl rfl rfl rfl ⟨rfl, rfl, rfl, rfl, rfl⟩ rfl rfl rfl rfl rfl (by kernel_rfl) Try.func5 (by kernel_rfl)
    (of_decide_eq_true (by kernel_rfl)) (by unfold Func.isWrapper; first | (rw [if_pos (by decide +kernel)]; kernel_rfl) | (rw [if_neg (by decide +kernel)]; exact ⟨rfl, rfl⟩))
    (fun os started H enc _ => law_lifted (C := Try.checked) (s := Rows.ringBackSpec) own started (by kernel_rfl) Try.func5 laidOut rfl rfl Try.underlying4
      (by have h : ∀ u ∈ Try.f5.params.toList, (Try.prog.readableRec u && decide (u < Try.prog.types.size)) = true := List.all_eq_true.1 (by kernel_rfl)
          intro u hu; have := h u hu; rw [Bool.and_eq_true, decide_eq_true_eq] at this; exact this)
      (by intro H l hl; rw [show Try.f5.params.size = 4 from by rw [Try.params5]; rfl] at hl; match l, hl with | [d0, d1, d2, d3], _ => rfl)
      H enc (ChangeSpec.witness6 (enc := enc) (C := Try.checked) false ⟨#[], #[.agg #[.int .i64 0, .string ⟨#[]⟩], .agg (ac (zs 512)), .int .i64 0, .int .u8 0], []⟩ 8 (by kernel_rfl) (by kernel_rfl) (by kernel_rfl) (by kernel_rfl)) back_walk)
#print axioms RingBack_holds
end Go.Proofs.Yteoomhkdffnkkaa
