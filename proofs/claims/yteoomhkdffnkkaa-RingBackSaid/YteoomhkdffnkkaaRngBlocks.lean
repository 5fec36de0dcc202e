/- RingBlocks: the block of any root, the root of any block, and the place of any group, are the document's, or the refusal: for every root, block and number the law returns true. Conditions: none. -/
import Derived.Test.YteoomhkdffnkkaaRngOpen2
import Derived.Test.YteoomhkdffnkkaaOpenBlk
import Derived.Lib.SmallJoins
import Derived.OpenShut
namespace Go.Proofs.Yteoomhkdffnkkaa
set_option linter.unusedVariables false
set_option linter.unusedSimpArgs false
open Go.ChangeShapes Go.WideShapes Go.ChangeAt Go.RowKit Go.Joins Pl
open Go.ChangeMaps (open_string)
attribute [local go_sem] ba_toList ba_size zeroValueB
set_option maxRecDepth 100000

def plV (t : Int) : Int := if t < 0 then 0 else t % 2
theorem place_any (t : Int) (w : World) : Calls Try.prog 14 #[.int .i64 t] w fun e w' => e = .returned (.int .i64 (plV t)) ∧ w = w' := by
  by_cases h : t < 0
  · have hp : plV t = 0 := if_pos h
    have HP := Lib.hid hp
    have hm : max 0 t = 0 := by omega
    clear hp
    go_enter Try.func14, Try.ntmps14
    go_wp2_with fail
    go_ret
    rw [HP.out]
    exact ⟨rfl, rfl⟩
  · by_cases h0 : t ≤ 0
    · obtain rfl : t = 0 := by omega
      have hp : plV 0 = 0 := rfl
      have HP := Lib.hid hp
      clear hp
      go_enter Try.func14, Try.ntmps14
      go_wp2_with fail
      go_ret
      rw [HP.out]
      exact ⟨rfl, rfl⟩
    · have hp : plV t = t % 2 := if_neg h
      have HP := Lib.hid hp
      have h1 : 0 < t := by omega
      clear hp
      go_enter Try.func14, Try.ntmps14
      go_wp2_with fail
      go_ret
      rw [HP.out]
      exact ⟨rfl, rfl⟩
theorem rplace_any (t : Int) (w : World) : Calls Try.prog 15 #[.int .i64 t] w fun e w' => e = .returned (.int .i64 (plV t)) ∧ w = w' := by
  by_cases h : t < 0
  · have hp : plV t = 0 := if_pos h
    have HP := Lib.hid hp
    clear hp
    go_enter Try.func15, Try.ntmps15
    go_wp2_with fail
    go_ret
    rw [HP.out]
    exact ⟨rfl, rfl⟩
  · have hp : plV t = t % 2 := if_neg h
    have HP := Lib.hid hp
    have h0 : 0 ≤ t := by omega
    clear hp
    go_enter Try.func15, Try.ntmps15
    go_wp2_with fail
    go_ret
    rw [HP.out]
    exact ⟨rfl, rfl⟩

theorem root_any (t : Int) (l : List UInt8) (w : World) : Calls Try.prog 13 #[rootV t l] w fun e w' => e = .returned (rootV t l) ∧ Below w.heap.size w w' := by
  have HL : Hid (l = l) := Lib.hid rfl
  go_enter Try.func13, Try.ntmps13
  go_wp2_with fail
  ((try simp only [Exit.inBlock, Exit.then]); refine bodyPost_ret (by simp [results, Try.results13, go_sem, HL]; try rfl) rfl ?_)
  exact ⟨rfl, by repeat' (first | (with_reducible exact Below.refl _ _) | (with_reducible assumption) | (with_reducible refine below_drewN ?_ _) | (with_reducible refine Below.alloc ?_ ?_ _) | (with_reducible refine Below.drew ?_) | (with_reducible refine Below.setCell ?_ ?_ _) | go_size)⟩

theorem roV_form (l : List UInt8) : ∃ (T : Int) (S : List UInt8) (E : Int), roV l = .tuple #[rootV T S, .int .i64 E] := by
  unfold roV
  by_cases h : roE l = 0
  · rw [if_pos h]; exact ⟨_, _, _, rfl⟩
  · rw [if_neg h]; exact ⟨_, _, _, rfl⟩

set_option maxHeartbeats 6400000 in
theorem blocks_any (t : Int) (l x : List UInt8) (n : Int) (w : World) (hl : l.length ≤ maxLen) (hx : x.length = 512) :
    Calls Try.prog 3 #[rootV t l, blk x, .int .i64 n] w fun e w' => e = .returned (.bool true) ∧ Below w.heap.size w w' := by
  unfold maxLen at hl
  have X0 := Lies.new (w.alloc (.cells #[.int .i64 t, sv l] 23)) x (w.heap.size + 1) (by simp)
  have HX := Lib.hid X0
  have HXL := Lib.hid hx
  have old : ∀ W : World, Below ((w.alloc (.cells #[.int .i64 t, sv l] 23)).alloc (.cells (ac x) 25)).heap.size ((w.alloc (.cells #[.int .i64 t, sv l] 23)).alloc (.cells (ac x) 25)) W →
      W.cell? ⟨w.heap.size, 0, none⟩ = some (.int .i64 t) ∧ W.cell? ⟨w.heap.size, 1, none⟩ = some (sv l) := fun W h =>
    ⟨(h.cell (p := ⟨w.heap.size, 0, none⟩) (by simp; omega)).trans (by simp), (h.cell (p := ⟨w.heap.size, 1, none⟩) (by simp; omega)).trans (by simp)⟩
  have OLD := Lib.hid old
  clear X0 old
  by_cases h1 : (3000 : Int) < (l.length : Int)
  · go_enter Try.func3, Try.ntmps3
    go_wp2_with fail
    go_ret
    exact ⟨rfl, by repeat' (first | (with_reducible exact Below.refl _ _) | (with_reducible assumption) | (with_reducible refine below_drewN ?_ _) | (with_reducible refine Below.alloc ?_ ?_ _) | (with_reducible refine Below.drew ?_) | (with_reducible refine Below.setCell ?_ ?_ _) | go_size)⟩
  have SA := fun W : World => ringseal_any t l W (by omega)
  have SB := fun W : World => rringseal_any t l W (by omega)
  have OA := fun W : World => ringopen_any x W hx
  have OB := fun W : World => rringopen_any x W hx
  have HLs := Lib.hid (rsL_len t l)
  obtain ⟨T, S, Eo, hO⟩ := roV_form x
  rw [hO] at OA OB
  have qb := fun W : World => run_eq_blk (rsL t l) (rsL t l) (rsL_len t l) (rsL_len t l) W
  have hqq : (rsL t l == rsL t l) = true := by simp
  rw [hqq] at qb
  generalize rsL t l = L at *
  generalize rsE t l = E at *
  have GSA := Lib.hid SA
  have GSB := Lib.hid SB
  have GOA := Lib.hid OA
  have GOB := Lib.hid OB
  have HQ := Lib.hid qb
  clear SA SB OA OB hO hqq qb hx
  go_enter Try.func3, Try.ntmps3
  go_wp2_with fail
  refine (GSA.out _).mono ?_; rintro e w1 ⟨rfl, hw1⟩
  have b1 : Below w.heap.size w w1 := chain (by repeat' (first | (with_reducible exact Below.refl _ _) | (with_reducible assumption) | (with_reducible refine below_drewN ?_ _) | (with_reducible refine Below.alloc ?_ ?_ _) | (with_reducible refine Below.drew ?_) | (with_reducible refine Below.setCell ?_ ?_ _) | go_size)) hw1
  have s1 := b1.size
  obtain ⟨c0, c1⟩ := OLD.out w1 hw1
  have HX1 := Lib.hid (HX.out.below hw1)
  have HZ := Lib.hid (Lies.new w1 (zs 512) _ rfl)
  go_wp2_with (with_reducible refine wpList_store_blk (m := L) rfl _ _ rfl rfl rfl HZ.out (zs_len 512) HLs.out ?_)
  intro w2 h2 g2
  have B2 : Below ((w.alloc (.cells #[.int .i64 t, sv l] 23)).alloc (.cells (ac x) 25)).heap.size ((w.alloc (.cells #[.int .i64 t, sv l] 23)).alloc (.cells (ac x) 25)) w2 :=
    below_row (hw1.alloc hw1.size _) g2 (by have := hw1.size; simp at this ⊢; omega) hw1.size
  have b2 : Below w.heap.size w w2 := chain (by repeat' (first | (with_reducible exact Below.refl _ _) | (with_reducible assumption) | (with_reducible refine below_drewN ?_ _) | (with_reducible refine Below.alloc ?_ ?_ _) | (with_reducible refine Below.drew ?_) | (with_reducible refine Below.setCell ?_ ?_ _) | go_size)) B2
  have s2 := b2.size
  have H2 := Lib.hid h2
  clear c0 c1
  obtain ⟨c0, c1⟩ := OLD.out w2 B2
  have HX2 := Lib.hid ((HX1.out.alloc (.cells (ac (zs 512)) 25)).but g2 (by have := HX1.out.lt; simp; omega))
  clear h2
  go_wp2_with fail
  refine (GSB.out _).mono ?_; rintro e w3 ⟨rfl, hw3⟩
  have b3 := chain b2 hw3
  have s3 := b3.size
  have HZ3 := Lib.hid (Lies.new w3 (zs 512) _ rfl)
  clear c0 c1
  go_wp2_with (with_reducible refine wpList_store_blk (m := L) rfl _ _ rfl rfl rfl HZ3.out (zs_len 512) HLs.out ?_)
  intro w4 h4 g4
  have b4 : Below w.heap.size w w4 := below_row (by repeat' (first | (with_reducible exact Below.refl _ _) | (with_reducible assumption) | (with_reducible refine below_drewN ?_ _) | (with_reducible refine Below.alloc ?_ ?_ _) | (with_reducible refine Below.drew ?_) | (with_reducible refine Below.setCell ?_ ?_ _) | go_size)) g4 (by go_size) s3
  have hne7 : w1.heap.size ≠ w3.heap.size := by have := H2.out.lt; have := hw3.size; omega
  have H7 := Lib.hid (((H2.out.below hw3).alloc (.cells (ac (zs 512)) 25)).but g4 (fun e => hne7 (Option.some.inj e)))
  have hneX : w.heap.size + 1 ≠ w3.heap.size := by have := HX2.out.lt; have := hw3.size; omega
  have HX4 := Lib.hid (((HX2.out.below hw3).alloc (.cells (ac (zs 512)) 25)).but g4 (fun e => hneX (Option.some.inj e)))
  have H9 := Lib.hid h4
  clear h4 hne7 hneX
  go_wp2_with (with_reducible refine wpList_load_blk rfl _ rfl rfl HX4.out HXL.out ?_)
  go_wp2_with fail
  refine (GOA.out _).mono ?_; rintro e w5 ⟨rfl, hw5⟩
  have b5 : Below w.heap.size w w5 := chain (by repeat' (first | (with_reducible exact Below.refl _ _) | (with_reducible assumption) | (with_reducible refine below_drewN ?_ _) | (with_reducible refine Below.alloc ?_ ?_ _) | (with_reducible refine Below.drew ?_) | (with_reducible refine Below.setCell ?_ ?_ _) | go_size)) hw5
  have s5 := b5.size
  have HX5 := Lib.hid ((HX4.out.below hw5).alloc (.cells #[.int .i64 T, sv S] 29))
  go_wp2_with (with_reducible refine wpList_load_blk rfl _ rfl rfl HX5.out HXL.out ?_)
  go_wp2_with fail
  refine (GOB.out _).mono ?_; rintro e w6 ⟨rfl, hw6⟩
  have b6 : Below w.heap.size w w6 := chain (by repeat' (first | (with_reducible exact Below.refl _ _) | (with_reducible assumption) | (with_reducible refine below_drewN ?_ _) | (with_reducible refine Below.alloc ?_ ?_ _) | (with_reducible refine Below.drew ?_) | (with_reducible refine Below.setCell ?_ ?_ _) | go_size)) hw6
  have s6 := b6.size
  have H7' := Lib.hid ((((H7.out.below hw5).alloc (.cells #[.int .i64 T, sv S] 29)).below hw6).alloc (.cells #[.int .i64 T, sv S] 23))
  have H9' := Lib.hid ((((H9.out.below hw5).alloc (.cells #[.int .i64 T, sv S] 29)).below hw6).alloc (.cells #[.int .i64 T, sv S] 23))
  have k0 : w6.cell? ⟨w5.heap.size, 0, none⟩ = some (.int .i64 T) := (hw6.cell (p := ⟨w5.heap.size, 0, none⟩) (by simp)).trans (by simp)
  have k1 : w6.cell? ⟨w5.heap.size, 1, none⟩ = some (sv S) := (hw6.cell (p := ⟨w5.heap.size, 1, none⟩) (by simp)).trans (by simp)
  have kl : w5.heap.size < w6.heap.size := by have := hw6.size; simp at this; omega
  go_wp2_with fail
  obtain ⟨W6, hW6⟩ : ∃ W6 : World, W6 = w6.alloc (.cells #[.int .i64 T, sv S] 23) := ⟨_, rfl⟩
  have m0 : W6.cell? ⟨w5.heap.size, 0, none⟩ = some (.int .i64 T) := by rw [hW6, World.cell?_alloc_lt _ _ _ kl]; exact k0
  have m1 : W6.cell? ⟨w5.heap.size, 1, none⟩ = some (sv S) := by rw [hW6, World.cell?_alloc_lt _ _ _ kl]; exact k1
  have n0 : W6.cell? ⟨w6.heap.size, 0, none⟩ = some (.int .i64 T) := by rw [hW6]; simp
  have n1 : W6.cell? ⟨w6.heap.size, 1, none⟩ = some (sv S) := by rw [hW6]; simp
  have lm : w5.heap.size < W6.heap.size := by rw [hW6]; simp; omega
  have ln : w6.heap.size < W6.heap.size := by rw [hW6]; simp
  have bW : Below w.heap.size w W6 := by rw [hW6]; exact b6.alloc s6 _
  rw [← hW6] at H7' H9' ⊢
  have M0 := fun n : Ext W6 => Ext.cell m0 lm n
  have M1 := fun n : Ext W6 => Ext.cell m1 lm n
  have N0 := fun n : Ext W6 => Ext.cell n0 ln n
  have N1 := fun n : Ext W6 => Ext.cell n1 ln n
  have q := HQ.out
  clear m0 m1 n0 n1 k0 k1 kl hW6
  refine wp_region_ext (by kernel_rfl) (by kernel_rfl) ?_
  repeat (first
    | (go_big_quiet_want; refine quiet_load_blk rfl rfl (fun W ⟨n, e⟩ => by rw [e]; exact H7'.out.below n.below) HLs.out ?_; go_simp; go_big_quiet_on)
    | (go_big_quiet_want; refine quiet_load_blk rfl rfl (fun W ⟨n, e⟩ => by rw [e]; exact H9'.out.below n.below) HLs.out ?_; go_simp; go_big_quiet_on)
    | go_big_quiet_step ((first | (go_at_call 13; exact Ext.of_call (root_any T S _)) | (go_at_call 14; exact Ext.of_same (place_any n _)) | (go_at_call 15; exact Ext.of_same (rplace_any n _)))))
  refine wpQuiet_nil ?_
  intro n1
  go_wp2_with fail
  go_ret
  exact ⟨rfl, chain bW n1.below⟩

section
variable {H : Type} {enc : TypeId × Value → H} {w : World} {base : Nat} {spare : Nat → Bool} {held : Bool}
theorem open_root {r : Reach} {b0 : Nat} {v : Value} {d : DataW H} {p : List MemPlace} (hv0 : Value.okWide Try.prog w r b0 23 v) (h : DataW.Trod enc Try.prog w base spare held 23 v d p) :
    ∃ (a : Int) (l : List UInt8), v = rootV a l ∧ l.length ≤ maxLen := by
  obtain ⟨v0, v1, y0, y1, n, rfl, rfl, rfl, h0, h1⟩ := open_agg2 Try.underlying23 (by kernel_rfl) (by kernel_rfl) hv0 h
  obtain ⟨a, e0, rfl, wa⟩ := DataW.trod_int Try.underlying3 h0
  obtain ⟨s, e1, _, hs⟩ := DataW.trod_string Try.underlying9 h1
  simp at e0 e1
  subst e0 e1
  exact ⟨a, s.data.toList, by show Value.agg _ = Value.agg #[_, .string ⟨s.data.toList.toArray⟩]; rw [Array.toArray_toList], by rw [Array.length_toList]; exact hs⟩
end

theorem blocks_walk : Walks Try.prog 3 Try.f3 := by
  intro H enc W args ds p base hval hA hz
  rw [Try.params3] at hA hval
  obtain ⟨v0, v1, v2, d0, d1, d2, p0, p1, p2, rfl, rfl, rfl, h0, h1, h2⟩ := trodAll_three hA
  obtain ⟨t, l, rfl, hl⟩ := open_root (hval 0 _ v0 rfl rfl) h0
  obtain ⟨x, rfl, hx⟩ := open_blk (hval 1 _ v1 rfl rfl) h1
  obtain ⟨n, rfl, _⟩ := open_int Try.underlying3 (hval 2 _ v2 rfl rfl) h2
  exact blocks_any t l x n W hl hx

theorem RingBlocks_holds : Rows.RingBlocksSaid :=
  OpenClaim.holds_of_wide 3 Try.f3 rfl rfl rfl rfl rfl rfl rfl ⟨rfl, rfl, rfl, rfl, rfl⟩ rfl rfl rfl rfl rfl (by kernel_rfl) Try.func3 (by kernel_rfl)
    (of_decide_eq_true (by kernel_rfl)) (by unfold Func.isWrapper; first | (rw [if_pos (by decide +kernel)]; kernel_rfl) | (rw [if_neg (by decide +kernel)]; exact ⟨rfl, rfl⟩))
    (fun os started H enc _ => law_lifted (C := Try.checked) (s := Rows.ringBlocksSpec) own started (by kernel_rfl) Try.func3 laidOut rfl rfl Try.underlying4
      (by have h : ∀ u ∈ Try.f3.params.toList, (Try.prog.readableRec u && decide (u < Try.prog.types.size)) = true := List.all_eq_true.1 (by kernel_rfl)
          intro u hu; have := h u hu; rw [Bool.and_eq_true, decide_eq_true_eq] at this; exact this)
      (by intro H l hl; rw [show Try.f3.params.size = 3 from by rw [Try.params3]; rfl] at hl; match l, hl with | [d0, d1, d2], _ => rfl)
      H enc (ChangeSpec.witness6 (enc := enc) (C := Try.checked) false ⟨#[], #[.agg #[.int .i64 0, .string ⟨#[]⟩], .agg (ac (zs 512)), .int .i64 0], []⟩ 8 (by kernel_rfl) (by kernel_rfl) (by kernel_rfl) (by kernel_rfl)) blocks_walk)
#print axioms RingBlocks_holds
end Go.Proofs.Yteoomhkdffnkkaa
