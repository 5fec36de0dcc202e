/- What was sealed is opened so (plain); the example (jettylaw08.awake). -/
import Derived.Test.YtjhgimdpgnnffaaBlkCheck
namespace Go.Proofs.Ytjhgimdpgnnffaa
set_option linter.unusedVariables false
set_option linter.unusedSimpArgs false
open Go.ChangeShapes Go.WideShapes Go.ChangeAt Go.RowKit Pl
attribute [local go_sem] ba_toList ba_size zeroValueB

theorem sealE_ok {b : Int} {l : List UInt8} (h : sealE b l = 0) : 0 ≤ b ∧ b ≤ 2147483647 ∧ l.length ≤ 500 := by
  unfold sealE at h
  by_cases h1 : b < 0 ∨ 2147483647 < b
  · rw [if_pos h1] at h; omega
  · rw [if_neg h1] at h
    by_cases h2 : 500 < l.length
    · rw [if_pos h2] at h; omega
    · omega
theorem seal_open {k : UInt8} {b : Int} {l : List UInt8} (h : sealE b l = 0) :
    openOK (sealL k b l) = true ∧ oK (sealL k b l) = k ∧ oB (sealL k b l) = b ∧ oS (sealL k b l) = l ∧ oN (sealL k b l) = l.length := by
  obtain ⟨h0, h1, h2⟩ := sealE_ok h
  have hL : sealL k b l = sealB k b l := if_pos h
  have hK : oK (sealB k b l) = k := rfl
  have hN : oN (sealB k b l) = l.length := by
    have : oN (sealB k b l) = (UInt8.ofNat (l.length / 256)).toNat * 256 + (UInt8.ofNat l.length).toNat := rfl
    rw [this, UInt8.toNat_ofNat', UInt8.toNat_ofNat']
    omega
  have hd8 : (sealB k b l).drop 8 = be 4 b.toNat ++ (l ++ zs (500 - l.length)) := by
    unfold sealB
    rw [List.append_assoc, List.append_assoc, List.drop_left' (by simp)]
  have hB : oB (sealB k b l) = b := by
    unfold oB
    rw [hd8, List.take_left' (by simp), unbe_be, Nat.zero_mul, Nat.zero_add, show 256 ^ 4 = 4294967296 from rfl, Nat.mod_eq_of_lt (by omega)]
    omega
  have hS : oS (sealB k b l) = l := by
    unfold oS
    rw [hN, show 12 = 8 + 4 from rfl, ← List.drop_drop, hd8, List.drop_left' (by simp), List.take_left' rfl]
  rw [hL]
  refine ⟨?_, hK, hB, hS, hN⟩
  unfold openOK
  rw [hN, hB, hS, hK, hL, h]
  simp [h2]

abbrev abc : List UInt8 := [97, 98, 99]
def L1 : List UInt8 := sealL 2 7 abc

set_option maxRecDepth 100000 in
set_option maxHeartbeats 6400000 in
theorem awake_any (w : World) : Calls Try.prog 9 #[] w fun e w' => e = .returned (.bool true) ∧ Below w.heap.size w w' := by
  have hE : sealE 7 abc = 0 := by decide
  have hlen : L1.length = 512 := sealL_len _ _ _
  obtain ⟨o1, o2, o3, o4, _⟩ := seal_open (k := 2) (b := 7) (l := abc) hE
  have hV : openV L1 = .tuple #[.int .u8 2, .int .i64 7, sv abc, .int .i64 0] := by
    rw [openV_yes (show openOK L1 = true from o1)]
    show Value.tuple #[.int .u8 ((oK L1).toNat : Int), .int .i64 (oB L1), sv (oS L1), .int .i64 0] = _
    rw [show oK L1 = 2 from o2, show oB L1 = 7 from o3, show oS L1 = abc from o4]
    rfl
  have hT : toV 9 L1 = .tuple #[ptrV 9 7 (bSum L1), .int .i64 0] := by
    have : toE 9 L1 = 0 := by unfold toE; rw [if_pos (show openOK L1 = true from o1)]; rfl
    unfold toV
    rw [if_pos this, show oB L1 = 7 from o3]
  have hC : chV 9 7 (bSum L1) L1 = .tuple #[.int .u8 2, sv abc, .int .i64 0] := by
    have : chE 9 7 (bSum L1) L1 = 0 := by unfold chE; rw [if_neg (by simp), if_pos (show openOK L1 = true from o1), if_pos (show oB L1 = 7 from o3)]
    unfold chV
    rw [if_pos this, show oK L1 = 2 from o2, show oS L1 = abc from o4]
    rfl
  have hS1 := fun W : World => seal_any 2 7 abc W (by decide)
  rw [hE] at hS1
  have SA := Lib.hid hS1
  have HV := Lib.hid hV
  have HT := Lib.hid hT
  have HC := Lib.hid hC
  have HL := Lib.hid hlen
  have h15 : L1.take 15 = [106, 116, 116, 121, 2, 0, 0, 3, 0, 0, 0, 7, 97, 98, 99] := by kernel_rfl
  have H15 := Lib.hid h15
  have e15 : L1.getD 15 0 = 0 := by kernel_rfl
  have e511 : L1.getD 511 0 = 0 := by kernel_rfl
  have H15' := Lib.hid e15
  have H511 := Lib.hid e511
  clear e15 e511
  clear hS1 hE hlen o1 o2 o3 o4 hV hT hC h15
  go_enter Try.func9, Try.ntmps9
  go_wp2_with fail
  refine (SA.out _).mono ?_; rintro e w1 ⟨rfl, hw1⟩
  have hw1 : Below w.heap.size w w1 := hw1
  have HZ := Lib.hid (Lies.new w1 (zs 512) _ rfl)
  go_wp2_with (with_reducible refine wpList_store_blk (m := L1) rfl _ _ rfl rfl rfl HZ.out (zs_len 512) HL.out ?_)
  intro w2 h2 g2
  have sz1 : w.heap.size ≤ w1.heap.size := hw1.size
  have b2 : Below w.heap.size w w2 := below_row (hw1.alloc sz1 _) g2 (by go_size) sz1
  have H2 := Lib.hid h2
  clear h2
  go_wp2_with (with_reducible refine wpList_load_blk rfl _ rfl rfl H2.out HL.out ?_)
  go_wp2_with fail
  refine (open_any L1 _ HL.out).mono ?_; rintro e w3 ⟨rfl, hw3⟩
  have b3 : Below w.heap.size w w3 := chain (by repeat' (first | (with_reducible exact Below.refl _ _) | (with_reducible assumption) | (with_reducible refine below_drewN ?_ _) | (with_reducible refine Below.alloc ?_ ?_ _) | (with_reducible refine Below.drew ?_) | (with_reducible refine Below.setCell ?_ ?_ _) | go_size)) hw3
  have s3 := b3.size
  rw [HV.out]
  have H3 := Lib.hid (H2.out.below hw3)
  go_wp2_with (with_reducible refine wpList_load_blk rfl _ rfl rfl H3.out HL.out ?_)
  go_wp2_with fail
  refine (to_any 9 L1 _ HL.out).mono ?_; rintro e w4 ⟨rfl, hw4⟩
  have b4 : Below w.heap.size w w4 := chain (by repeat' (first | (with_reducible exact Below.refl _ _) | (with_reducible assumption) | (with_reducible refine below_drewN ?_ _) | (with_reducible refine Below.alloc ?_ ?_ _) | (with_reducible refine Below.drew ?_) | (with_reducible refine Below.setCell ?_ ?_ _) | go_size)) hw4
  have s4 := b4.size
  rw [HT.out]
  have H4 := Lib.hid ((H3.out.below hw4).alloc (.cells #[.int .i64 9, .int .i64 7, .int .u64 (bSum L1)] 26))
  have p0 : (w4.alloc (.cells #[.int .i64 9, .int .i64 7, .int .u64 (bSum L1)] 26)).cell? ⟨w4.heap.size, 0, none⟩ = some (.int .i64 9) := cell_new _ _ _ _ 0 rfl
  have p1 : (w4.alloc (.cells #[.int .i64 9, .int .i64 7, .int .u64 (bSum L1)] 26)).cell? ⟨w4.heap.size, 1, none⟩ = some (.int .i64 7) := cell_new _ _ _ _ 1 rfl
  have p2 : (w4.alloc (.cells #[.int .i64 9, .int .i64 7, .int .u64 (bSum L1)] 26)).cell? ⟨w4.heap.size, 2, none⟩ = some (.int .u64 (bSum L1)) := cell_new _ _ _ _ 2 rfl
  go_wp2_with (with_reducible refine wpList_load_blk rfl _ rfl rfl H4.out HL.out ?_)
  go_wp2_with fail
  refine (check_any 9 7 (bSum L1) L1 _ HL.out).mono ?_; rintro e w5 ⟨rfl, hw5⟩
  have b5 : Below w.heap.size w w5 := chain (by repeat' (first | (with_reducible exact Below.refl _ _) | (with_reducible assumption) | (with_reducible refine below_drewN ?_ _) | (with_reducible refine Below.alloc ?_ ?_ _) | (with_reducible refine Below.drew ?_) | (with_reducible refine Below.setCell ?_ ?_ _) | go_size)) hw5
  have s5 := b5.size
  rw [HC.out]
  have AW : ∀ W, Below w5.heap.size w5 W → W.cell? ⟨w4.heap.size, 0, none⟩ = some (.int .i64 9) ∧ W.cell? ⟨w4.heap.size, 1, none⟩ = some (.int .i64 7) ∧ W.cell? ⟨w4.heap.size, 2, none⟩ = some (.int .u64 (bSum L1)) ∧
      W.cell? ⟨w1.heap.size, 15, none⟩ = some (.int .u8 0) ∧ W.cell? ⟨w1.heap.size, 511, none⟩ = some (.int .u8 0) ∧ W.rangeAt w1.heap.size 0 (bc L1) ∧
      (convert 43 9 (.slice (some ⟨w1.heap.size, 0, none⟩) 15 512)).run Try.prog W = .ok (.string ⟨#[106, 116, 116, 121, 2, 0, 0, 3, 0, 0, 0, 7, 97, 98, 99]⟩) W := by
    intro W hW
    have hw := hw5.trans (hW.mono hw5.size)
    have L5 := H4.out.below hw
    have hbv := L5.bytes 0 15 512 (by have := HL.out; omega) (by omega) (by unfold maxLen; omega)
    rw [List.drop_zero, H15.out] at hbv
    refine ⟨(hw.cell (p := ⟨w4.heap.size, 0, none⟩) (by simp)).trans p0, (hw.cell (p := ⟨w4.heap.size, 1, none⟩) (by simp)).trans p1, (hw.cell (p := ⟨w4.heap.size, 2, none⟩) (by simp)).trans p2, ?_, ?_, L5.range, hbv.string (P := Try.prog) Try.underlying43 Try.underlying5 Try.underlying9⟩
    · have h := L5.cell (j := 15) (by have := HL.out; omega)
      rwa [← getD_eq (by have := HL.out; omega), H15'.out] at h
    · have h := L5.cell (j := 511) (by have := HL.out; omega)
      rwa [← getD_eq (by have := HL.out; omega), H511.out] at h
  have HW := Lib.hid AW
  have H5 := Lib.hid (H4.out.below hw5)
  have W0 := fun n : Ext w5 => (HW.out n.W n.below).1
  have W1 := fun n : Ext w5 => (HW.out n.W n.below).2.1
  have W2 := fun n : Ext w5 => (HW.out n.W n.below).2.2.1
  have W15 := fun n : Ext w5 => (HW.out n.W n.below).2.2.2.1
  have W511 := fun n : Ext w5 => (HW.out n.W n.below).2.2.2.2.1
  have WC := fun n : Ext w5 => (HW.out n.W n.below).2.2.2.2.2.2
  clear p0 p1 p2 AW
  go_wp2_with fail
  simp only [List.append]
  refine wp_region_ext (by kernel_rfl) (by kernel_rfl) ?_
  repeat (first
    | (go_big_quiet_want; refine quiet_load_blk rfl rfl (fun W ⟨n, e⟩ => by rw [e]; exact H5.out.below n.below) HL.out ?_; go_simp; go_big_quiet_on)
    | go_big_quiet_step ((go_at_call 14; exact Ext.of_call (bsum_any L1 _ HL.out))))
  refine wpQuiet_nil ?_
  intro n1
  go_wp2_with fail
  go_ret
  exact ⟨rfl, chain b5 n1.below⟩
end Go.Proofs.Ytjhgimdpgnnffaa
