/- BlockLays: a sealed block are j t t y, its kind, 0, its body's length, its birth, the body, and 00s; its pointer has its sum and birth: for every kind, birth and body the law returns true. Conditions: none. -/
import Derived.Test.YtjhgimdpgnnffaaBlkOther
namespace Go.Proofs.Ytjhgimdpgnnffaa
set_option linter.unusedVariables false
set_option linter.unusedSimpArgs false
open Go.ChangeShapes Go.WideShapes Go.ChangeAt Go.RowKit Pl
attribute [local go_sem] ba_toList ba_size zeroValueB

theorem Lies.at {w : World} {g : Nat} {l : List UInt8} (h : Lies w g l) (j : Nat) (x : UInt8) (hx : l[j]? = some x) : w.cell? ⟨g, j, none⟩ = some (.int .u8 (x.toNat : Int)) := by
  obtain ⟨hj, e⟩ := List.getElem?_eq_some_iff.1 hx
  rw [h.cell hj, e]

theorem seal_cons {k : UInt8} {n : Nat} {l : List UInt8} {x0 x1 x2 x3 : UInt8} (h : sealE (n : Int) l = 0) (hx : be 4 n = [x0, x1, x2, x3]) :
    sealL k (n : Int) l = 106 :: 116 :: 116 :: 121 :: k :: 0 :: UInt8.ofNat (l.length / 256) :: UInt8.ofNat l.length :: x0 :: x1 :: x2 :: x3 :: (l ++ zs (500 - l.length)) := by
  unfold sealL
  rw [if_pos h]
  unfold sealB
  rw [Int.toNat_natCast, hx]
  simp

theorem tail_zero (p l : List UInt8) (m q : Nat) (h1 : p.length + l.length ≤ q) (h2 : q < p.length + l.length + m) : (p ++ (l ++ zs m))[q]? = some 0 := by
  rw [List.getElem?_append_right (by omega), List.getElem?_append_right (by omega)]
  unfold zs
  rw [List.getElem?_replicate, if_pos (by omega)]

set_option maxRecDepth 100000 in
set_option maxHeartbeats 6400000 in
theorem lays_any (k : UInt8) (b : Int) (l : List UInt8) (w : World) (hl : l.length ≤ maxLen) :
    Calls Try.prog 5 #[.int .u8 (k.toNat : Int), .int .i64 b, sv l] w fun e w' => e = .returned (.bool true) ∧ Below w.heap.size w w' := by
  unfold maxLen at hl
  by_cases h1 : (1000 : Int) < (l.length : Int)
  · go_enter Try.func5, Try.ntmps5
    go_wp2_with fail
    refine (awake_any _).mono ?_; rintro e w1 ⟨rfl, hw1⟩
    have b1 : Below w.heap.size w w1 := chain (by repeat' (first | (with_reducible exact Below.refl _ _) | (with_reducible assumption) | (with_reducible refine below_drewN ?_ _) | (with_reducible refine Below.alloc ?_ ?_ _) | (with_reducible refine Below.drew ?_) | (with_reducible refine Below.setCell ?_ ?_ _) | go_size)) hw1
    have s1 := b1.size
    go_wp2_with fail
    go_ret
    exact ⟨rfl, by assumption⟩
  have hLs := sealL_len k b l
  have SA := fun W : World => seal_any k b l W (by omega)
  have HLs := Lib.hid hLs
  by_cases hE : sealE b l = 0
  · obtain ⟨o1, o2, o3, o4, o5⟩ := seal_open (k := k) hE
    obtain ⟨e0, e1, e2⟩ := sealE_ok hE
    have hT : toV 1 (sealL k b l) = .tuple #[ptrV 1 b (bSum (sealL k b l)), .int .i64 0] := by
      have : toE 1 (sealL k b l) = 0 := by unfold toE; rw [if_pos o1]; rfl
      unfold toV
      rw [if_pos this, o3]
    have HT := Lib.hid hT
    obtain ⟨n, rfl⟩ := Int.eq_ofNat_of_zero_le e0
    obtain ⟨x0, x1, x2, x3, hx⟩ : ∃ x0 x1 x2 x3, be 4 n = [x0, x1, x2, x3] := ⟨_, _, _, _, be4 n⟩
    have hcons := seal_cons (k := k) hE hx
    have hor := or4i x0.toNat x1.toNat x2.toNat x3.toNat x0.toNat_lt x1.toNat_lt x2.toNat_lt x3.toNat_lt
    have hn4 : ((x0.toNat * 256 + x1.toNat) * 256 + x2.toNat) * 256 + x3.toNat = n := by
      have hu := unbe_be 4 n 0
      rw [hx, Nat.zero_mul, Nat.zero_add, show 256 ^ 4 = 4294967296 from rfl, Nat.mod_eq_of_lt (by omega)] at hu
      simpa [unbe] using hu
    rw [hn4] at hor
    have hy6 : (UInt8.ofNat (l.length / 256)).toNat = l.length / 256 := by rw [UInt8.toNat_ofNat']; omega
    have hy7 : (UInt8.ofNat l.length).toNat = l.length % 256 := by rw [UInt8.toNat_ofNat']
    have hyy : (((UInt8.ofNat (l.length / 256)).toNat : Int) * 256 + ((UInt8.ofNat l.length).toNat : Int) != (l.length : Int)) = false := by
      rw [bne_eq_false_iff_eq, hy6, hy7]; omega
    have hb6 := (UInt8.ofNat (l.length / 256)).toNat_lt
    have hb7 := (UInt8.ofNat l.length).toNat_lt
    generalize UInt8.ofNat (l.length / 256) = y6 at *
    generalize UInt8.ofNat l.length = y7 at *
    have q0 := x0.toNat_lt
    have q1 := x1.toNat_lt
    have q2 := x2.toNat_lt
    have q3 := x3.toNat_lt
    rw [hE] at SA
    have GA := Lib.hid SA
    have HC := Lib.hid hcons
    have HO := Lib.hid hor
    have l5 : (l.length : Int) ≤ 500 := by omega
    clear SA hE o1 o2 o3 o4 o5 hT hcons hor hx hn4 hy6 hy7 e0 e1 e2
    generalize sealL k (n : Int) l = L at *
    have TA := fun W : World => to_any 1 L W hLs
    have HTA := Lib.hid TA
    clear TA hLs
    go_enter Try.func5, Try.ntmps5
    go_wp2_with fail
    refine (awake_any _).mono ?_; rintro e w1 ⟨rfl, hw1⟩
    have b1 : Below w.heap.size w w1 := chain (by repeat' (first | (with_reducible exact Below.refl _ _) | (with_reducible assumption) | (with_reducible refine below_drewN ?_ _) | (with_reducible refine Below.alloc ?_ ?_ _) | (with_reducible refine Below.drew ?_) | (with_reducible refine Below.setCell ?_ ?_ _) | go_size)) hw1
    have s1 := b1.size
    go_wp2_with fail
    refine (GA.out _).mono ?_; rintro e w2 ⟨rfl, hw2⟩
    have b2 : Below w.heap.size w w2 := chain (by repeat' (first | (with_reducible exact Below.refl _ _) | (with_reducible assumption) | (with_reducible refine below_drewN ?_ _) | (with_reducible refine Below.alloc ?_ ?_ _) | (with_reducible refine Below.drew ?_) | (with_reducible refine Below.setCell ?_ ?_ _) | go_size)) hw2
    have s2 := b2.size
    have HZ := Lib.hid (Lies.new w2 (zs 512) _ rfl)
    go_wp2_with (with_reducible refine wpList_store_blk (m := L) rfl _ _ rfl rfl rfl HZ.out (zs_len 512) HLs.out ?_)
    intro w3 h3 g3
    have b3 : Below w.heap.size w w3 := below_row (by repeat' (first | (with_reducible exact Below.refl _ _) | (with_reducible assumption) | (with_reducible refine below_drewN ?_ _) | (with_reducible refine Below.alloc ?_ ?_ _) | (with_reducible refine Below.drew ?_) | (with_reducible refine Below.setCell ?_ ?_ _) | go_size)) g3 (by go_size) s2
    have c4 := h3.at 4 k (by rw [HC.out]; rfl)
    have c5 := h3.at 5 0 (by rw [HC.out]; rfl)
    have c6 := h3.at 6 y6 (by rw [HC.out]; rfl)
    have c7 := h3.at 7 y7 (by rw [HC.out]; rfl)
    have c8 := h3.at 8 x0 (by rw [HC.out]; rfl)
    have c9 := h3.at 9 x1 (by rw [HC.out]; rfl)
    have c10 := h3.at 10 x2 (by rw [HC.out]; rfl)
    have c11 := h3.at 11 x3 (by rw [HC.out]; rfl)
    have v4 := h3.bytes 0 4 512 (by have := HLs.out; omega) (by omega) (by unfold maxLen; omega)
    rw [List.drop_zero, show L.take 4 = [106, 116, 116, 121] from by rw [HC.out]; rfl] at v4
    have k4 := v4.string (P := Try.prog) Try.underlying43 Try.underlying5 Try.underlying9
    have v12 := h3.bytes 12 l.length 500 (by have := HLs.out; omega) (by omega) (by unfold maxLen; omega)
    rw [show (L.drop 12).take l.length = l from by rw [HC.out]; simp] at v12
    have k12 := v12.string (P := Try.prog) Try.underlying43 Try.underlying5 Try.underlying9
    have a1 : (12 : Int) + (l.length : Int) ≤ 512 := by omega
    have a2 : (12 : Int) ≤ 12 + (l.length : Int) := by omega
    have ho := HO.out
    have H3 := Lib.hid h3
    clear h3 v4 v12
    have hz : ∀ q, 12 + l.length ≤ q → q < 512 → L[q]? = some 0 := fun q h1 h2 => by
      rw [HC.out]
      exact tail_zero [106, 116, 116, 121, k, 0, y6, y7, x0, x1, x2, x3] l (500 - l.length) q (by simp; omega) (by simp; omega)
    have Z := Lib.hid hz
    clear hz
    go_wp2_with fail
    go_loop [10] (fun i => ∃ q : Nat, 12 + l.length ≤ q ∧ q ≤ 512 ∧ i = .int .i64 q) (fun i => 512 - (intOf i).toNat)
    case atStart => exact ⟨12 + l.length, Nat.le_refl _, by omega, by go_num⟩
    case round =>
      obtain ⟨q, hq1, hq2, rfl⟩ := hrel
      by_cases hlt : q < 512
      · have cq := H3.out.at q 0 (Z.out q hq1 hlt)
        have hq3 : (q : Int) < 512 := by omega
        go_wp2_with fail
        go_round
        case rel => exact ⟨q + 1, by omega, by omega, by go_num⟩
        case measure => simp [intOf]; omega
      · obtain rfl : q = 512 := by omega
        clear c4 c5 c6 c7 c8 c9 c10 c11 k4 k12 ho hyy
        go_wp2_with (with_reducible refine wpList_load_blk rfl _ rfl rfl H3.out HLs.out ?_)
        go_wp2_with fail
        refine (HTA.out _).mono ?_; rintro e w4 ⟨rfl, hw4⟩
        have b4 : Below w.heap.size w w4 := chain (by repeat' (first | (with_reducible exact Below.refl _ _) | (with_reducible assumption) | (with_reducible refine below_drewN ?_ _) | (with_reducible refine Below.alloc ?_ ?_ _) | (with_reducible refine Below.drew ?_) | (with_reducible refine Below.setCell ?_ ?_ _) | go_size)) hw4
        have s4 := b4.size
        rw [HT.out]
        have p0 : (w4.alloc (.cells #[.int .i64 1, .int .i64 (n : Int), .int .u64 (bSum L)] 26)).cell? ⟨w4.heap.size, 0, none⟩ = some (.int .i64 1) := cell_new _ _ _ _ 0 rfl
        have p1 : (w4.alloc (.cells #[.int .i64 1, .int .i64 (n : Int), .int .u64 (bSum L)] 26)).cell? ⟨w4.heap.size, 1, none⟩ = some (.int .i64 (n : Int)) := cell_new _ _ _ _ 1 rfl
        have p2 : (w4.alloc (.cells #[.int .i64 1, .int .i64 (n : Int), .int .u64 (bSum L)] 26)).cell? ⟨w4.heap.size, 2, none⟩ = some (.int .u64 (bSum L)) := cell_new _ _ _ _ 2 rfl
        have W0 := fun m : Ext (w4.alloc (.cells #[.int .i64 1, .int .i64 (n : Int), .int .u64 (bSum L)] 26)) => Ext.cell p0 (by simp) m
        have W1 := fun m : Ext (w4.alloc (.cells #[.int .i64 1, .int .i64 (n : Int), .int .u64 (bSum L)] 26)) => Ext.cell p1 (by simp) m
        have W2 := fun m : Ext (w4.alloc (.cells #[.int .i64 1, .int .i64 (n : Int), .int .u64 (bSum L)] 26)) => Ext.cell p2 (by simp) m
        have H5 := Lib.hid ((H3.out.below hw4).alloc (.cells #[.int .i64 1, .int .i64 (n : Int), .int .u64 (bSum L)] 26))
        clear p0 p1 p2
        go_wp2_with fail
        refine wp_region_ext (by kernel_rfl) (by kernel_rfl) ?_
        repeat (first
          | (go_big_quiet_want; refine quiet_load_blk rfl rfl (fun W ⟨n, e⟩ => by rw [e]; exact H5.out.below n.below) HLs.out ?_; go_simp; go_big_quiet_on)
          | go_big_quiet_step ((go_at_call 14; exact Ext.of_call (bsum_any L _ HLs.out))))
        refine wpQuiet_nil ?_
        intro n1
        go_wp2_with fail
        go_ret
        exact ⟨rfl, chain (by repeat' (first | (with_reducible exact Below.refl _ _) | (with_reducible assumption) | (with_reducible refine below_drewN ?_ _) | (with_reducible refine Below.alloc ?_ ?_ _) | (with_reducible refine Below.drew ?_) | (with_reducible refine Below.setCell ?_ ?_ _) | go_size)) n1.below⟩
  · have hE' : (sealE b l != 0) = true := by rw [bne_iff_ne]; exact hE
    have hL : sealL k b l = zs 512 := if_neg hE
    rw [hL] at SA
    have GA := Lib.hid SA
    have q := fun W : World => run_eq_blk (zs 512) (zs 512) (zs_len _) (zs_len _) W
    have hqq : (zs 512 == zs 512) = true := by simp
    rw [hqq] at q
    clear hE hL SA hLs HLs hqq
    go_enter Try.func5, Try.ntmps5
    go_wp2_with fail
    refine (awake_any _).mono ?_; rintro e w1 ⟨rfl, hw1⟩
    have b1 : Below w.heap.size w w1 := chain (by repeat' (first | (with_reducible exact Below.refl _ _) | (with_reducible assumption) | (with_reducible refine below_drewN ?_ _) | (with_reducible refine Below.alloc ?_ ?_ _) | (with_reducible refine Below.drew ?_) | (with_reducible refine Below.setCell ?_ ?_ _) | go_size)) hw1
    have s1 := b1.size
    go_wp2_with fail
    refine (GA.out _).mono ?_; rintro e w2 ⟨rfl, hw2⟩
    have b2 : Below w.heap.size w w2 := chain (by repeat' (first | (with_reducible exact Below.refl _ _) | (with_reducible assumption) | (with_reducible refine below_drewN ?_ _) | (with_reducible refine Below.alloc ?_ ?_ _) | (with_reducible refine Below.drew ?_) | (with_reducible refine Below.setCell ?_ ?_ _) | go_size)) hw2
    have s2 := b2.size
    have HZ := Lib.hid (Lies.new w2 (zs 512) _ rfl)
    go_wp2_with (with_reducible refine wpList_store_blk (m := zs 512) rfl _ _ rfl rfl rfl HZ.out (zs_len 512) (zs_len 512) ?_)
    intro w3 h3 g3
    have b3 : Below w.heap.size w w3 := below_row (by repeat' (first | (with_reducible exact Below.refl _ _) | (with_reducible assumption) | (with_reducible refine below_drewN ?_ _) | (with_reducible refine Below.alloc ?_ ?_ _) | (with_reducible refine Below.drew ?_) | (with_reducible refine Below.setCell ?_ ?_ _) | go_size)) g3 (by go_size) s2
    have H3 := Lib.hid h3
    clear h3
    go_wp2_with (with_reducible refine wpList_load_blk rfl _ rfl rfl H3.out (zs_len 512) ?_)
    go_ret
    exact ⟨rfl, by repeat' (first | (with_reducible exact Below.refl _ _) | (with_reducible assumption) | (with_reducible refine below_drewN ?_ _) | (with_reducible refine Below.alloc ?_ ?_ _) | (with_reducible refine Below.drew ?_) | (with_reducible refine Below.setCell ?_ ?_ _) | go_size)⟩

theorem lays_walk : Walks Try.prog 5 Try.f5 := by
  intro H enc W args ds p base hval hA hz
  rw [Try.params5] at hA hval
  obtain ⟨v0, v1, v2, d0, d1, d2, p0, p1, p2, rfl, rfl, rfl, h0, h1, h2⟩ := trodAll_three hA
  obtain ⟨x0, rfl, _, _, w0⟩ := open_int Try.underlying5 (hval 0 _ v0 rfl rfl) h0
  obtain ⟨x1, rfl, _⟩ := open_int Try.underlying3 (hval 1 _ v1 rfl rfl) h1
  obtain ⟨l, rfl, hl⟩ := open_text (hval 2 _ v2 rfl rfl) h2
  obtain ⟨a0, a1⟩ := bounds_u8 w0
  have := lays_any (UInt8.ofNat x0.toNat) x1 l W hl
  rw [show (((UInt8.ofNat x0.toNat).toNat : Nat) : Int) = x0 from by rw [ofNat_toNat]; omega] at this
  exact this

theorem BlockLays_holds : Rows.BlockLaysSaid :=
  OpenClaim.holds_of_wide 5 Try.f5 rfl rfl rfl rfl rfl rfl rfl ⟨rfl, rfl, rfl, rfl, rfl⟩ rfl rfl rfl rfl rfl (by kernel_rfl) Try.func5 (by kernel_rfl)
    (of_decide_eq_true (by kernel_rfl)) (by unfold Func.isWrapper; first | (rw [if_pos (by decide +kernel)]; kernel_rfl) | (rw [if_neg (by decide +kernel)]; exact ⟨rfl, rfl⟩))
    (fun os started H enc _ => law_lifted (C := Try.checked) (s := Rows.blockLaysSpec) own started (by kernel_rfl) Try.func5 laidOut rfl rfl Try.underlying4
      (by have h : ∀ u ∈ Try.f5.params.toList, (Try.prog.readableRec u && decide (u < Try.prog.types.size)) = true := List.all_eq_true.1 (by kernel_rfl)
          intro u hu; have := h u hu; rw [Bool.and_eq_true, decide_eq_true_eq] at this; exact this)
      (by intro H l hl; rw [show Try.f5.params.size = 3 from by rw [Try.params5]; rfl] at hl; match l, hl with | [d0, d1, d2], _ => rfl)
      H enc (ChangeSpec.witness6 (enc := enc) (C := Try.checked) false ⟨#[], #[.int .u8 0, .int .i64 0, .string ⟨#[]⟩], []⟩ 8 (by kernel_rfl) (by kernel_rfl) (by kernel_rfl) (by kernel_rfl)) lays_walk)
#print axioms BlockLays_holds
end Go.Proofs.Ytjhgimdpgnnffaa
