/- block.Open. -/
import Derived.Test.YteoomhkdffnkkaaBlkSeal
import Derived.Laws.Cover3
namespace Go.Proofs.Yteoomhkdffnkkaa
set_option linter.unusedVariables false
set_option linter.unusedSimpArgs false
open Go.ChangeShapes Go.WideShapes Go.ChangeAt Go.RowKit Pl
attribute [local go_sem] ba_toList ba_size zeroValueB

def oK (l : List UInt8) : UInt8 := l.getD 4 0
def oN (l : List UInt8) : Nat := (l.getD 6 0).toNat * 256 + (l.getD 7 0).toNat
def oB (l : List UInt8) : Int := (unbe 0 ((l.drop 8).take 4) : Nat)
def oS (l : List UInt8) : List UInt8 := (l.drop 12).take (oN l)
def openOK (l : List UInt8) : Bool := decide (oN l ≤ 500) && (sealE (oB l) (oS l) == 0) && (sealL (oK l) (oB l) (oS l) == l)
def openV (l : List UInt8) : Value := if openOK l = true then .tuple #[.int .u8 ((oK l).toNat : Int), .int .i64 (oB l), sv (oS l), .int .i64 0] else .tuple #[.int .u8 0, .int .i64 0, sv [], .int .i64 4]

theorem getD_eq {l : List UInt8} {j : Nat} (h : j < l.length) : l.getD j 0 = l[j] := by simp [List.getD, h]

set_option maxRecDepth 100000 in
set_option maxHeartbeats 3200000 in
theorem open_any (l : List UInt8) (w : World) (hl : l.length = 512) :
    Calls Try.prog 44 #[blk l] w fun r w' => r = .returned (openV l) ∧ Below w.heap.size w w' := by
  have L0 := Lies.new w l _ rfl
  have c4 := L0.cell (j := 4) (by omega)
  have c6 := L0.cell (j := 6) (by omega)
  have c7 := L0.cell (j := 7) (by omega)
  have c8 := L0.cell (j := 8) (by omega)
  have c9 := L0.cell (j := 9) (by omega)
  have c10 := L0.cell (j := 10) (by omega)
  have c11 := L0.cell (j := 11) (by omega)
  have hK : oK l = l[4] := getD_eq (by omega)
  have hN : oN l = (l[6]).toNat * 256 + (l[7]).toNat := by unfold oN; rw [getD_eq (by omega), getD_eq (by omega)]
  have hB : oB l = (unbe 0 [l[8], l[9], l[10], l[11]] : Nat) := by
    unfold oB
    congr 3
    refine List.ext_getElem (by simp; omega) (fun i h1 h2 => ?_)
    match i, h2 with
    | 0, _ => simp
    | 1, _ => simp
    | 2, _ => simp
    | 3, _ => simp
  have hb6 := (l[6]).toNat_lt
  have hb7 := (l[7]).toNat_lt
  have ho := or2i (l[6]).toNat (l[7]).toNat hb6 hb7
  rw [← hN] at ho
  have hN0 : oN l < 65536 := by omega
  generalize (l[6]).toNat = A at c6 ho hb6
  generalize (l[7]).toNat = B at c7 ho hb7
  generalize hk4 : l[4] = x4 at c4 hK
  generalize l[8] = x8 at c8 hB
  generalize l[9] = x9 at c9 hB
  generalize l[10] = x10 at c10 hB
  generalize l[11] = x11 at c11 hB
  have HK := Lib.hid hK
  have HB := Lib.hid hB
  have HL := Lib.hid hl
  have H0 := Lib.hid L0
  have hS : oS l = (l.drop 12).take (oN l) := rfl
  have HS := Lib.hid hS
  have hV : openV l = if openOK l = true then .tuple #[.int .u8 ((oK l).toNat : Int), .int .i64 (oB l), sv (oS l), .int .i64 0] else .tuple #[.int .u8 0, .int .i64 0, sv [], .int .i64 4] := rfl
  have hO : openOK l = (decide (oN l ≤ 500) && (sealE (oB l) (oS l) == 0) && (sealL (oK l) (oB l) (oS l) == l)) := rfl
  have HV := Lib.hid hV
  have HO := Lib.hid hO
  clear hK hB hl L0 hS hN hk4 hV hO
  generalize oN l = N at *
  by_cases h5 : 500 < N
  · have h5' : (500 : Int) < (N : Int) := by omega
    go_enter Try.func44, Try.ntmps44
    go_wp2_with fail
    ((try simp only [Exit.inBlock, Exit.then]); refine bodyPost_ret (by simp [results, Try.results44, go_sem, HK]; try rfl) rfl ?_)
    refine ⟨?_, by repeat' (first | (with_reducible exact Below.refl _ _) | (with_reducible assumption) | (with_reducible refine below_drewN ?_ _) | (with_reducible refine Below.alloc ?_ ?_ _) | (with_reducible refine Below.drew ?_) | (with_reducible refine Below.setCell ?_ ?_ _) | go_size)⟩
    rw [HV.out, HO.out, decide_eq_false (by omega : ¬ N ≤ 500)]
    rfl
  have h5' : ¬ (500 : Int) < (N : Int) := by omega
  have hN5 : (N : Int) ≤ 500 := by omega
  have hA2 : (12 : Int) + (N : Int) ≤ 512 := by omega
  have hA3 : (12 : Int) ≤ 12 + (N : Int) := by omega
  have ka := fun W : World => run_arrayAt (P := Try.prog) (w := W) 82 5 4 (some ⟨w.heap.size, 8, none⟩) 4 504 Try.underlying82 (by omega)
  go_enter Try.func44, Try.ntmps44
  go_wp2_with fail
  refine (bnumber_any x8 x9 x10 x11 _).mono ?_; rintro e w1 ⟨rfl, hw1⟩
  rw [← HB.out]
  have L1 := H0.out.below hw1
  have hbv := L1.bytes 12 N 500 (by have := HL.out; omega) (by omega) (by unfold maxLen; omega)
  rw [← HS.out] at hbv
  have hcv := hbv.string (P := Try.prog) Try.underlying54 Try.underlying5 Try.underlying9
  have c4' := (hw1.cell (p := ⟨w.heap.size, 4, none⟩) (by simp)).trans c4
  have c4' : w1.cell? ⟨w.heap.size, 4, none⟩ = some (.int .u8 (x4.toNat : Int)) := c4'
  have b1 : Below w.heap.size w w1 := chain (by repeat' (first | (with_reducible exact Below.refl _ _) | (with_reducible assumption) | (with_reducible refine below_drewN ?_ _) | (with_reducible refine Below.alloc ?_ ?_ _) | (with_reducible refine Below.drew ?_) | (with_reducible refine Below.setCell ?_ ?_ _) | go_size)) hw1
  have hSl : (oS l).length = N := by
    rw [HS.out]
    have := HL.out
    simp
    omega
  have H1 := Lib.hid L1
  clear hbv L1 c4 c6 c7 c8 c9 c10 c11 ho
  go_wp2_with fail
  rw [← HK.out]
  go_wp2_with fail
  refine (seal_any (oK l) (oB l) (oS l) _ (by omega)).mono ?_; rintro e w2 ⟨rfl, hw2⟩
  have b2 : Below w.heap.size w w2 := chain (by repeat' (first | (with_reducible exact Below.refl _ _) | (with_reducible assumption) | (with_reducible refine below_drewN ?_ _) | (with_reducible refine Below.alloc ?_ ?_ _) | (with_reducible refine Below.drew ?_) | (with_reducible refine Below.setCell ?_ ?_ _) | go_size)) hw2
  have s2 := b2.size
  have hLs := sealL_len (oK l) (oB l) (oS l)
  have LZ := Lies.new w2 (zs 512) _ rfl
  have L2 := (H1.out.below hw2).alloc (.cells (ac (zs 512)) 25)
  have c4 : w2.cell? ⟨w.heap.size, 4, none⟩ = some (.int .u8 (x4.toNat : Int)) := (hw2.cell (p := ⟨w.heap.size, 4, none⟩) (by have := b1.size; have := H1.out.lt; omega)).trans c4'
  have lt2 : w.heap.size < w2.heap.size := by have := L2.lt; have := H1.out.lt; have := hw2.size; omega
  have HZ := Lib.hid LZ
  have H2 := Lib.hid L2
  have HLs := Lib.hid hLs
  clear LZ L2 hLs c4'
  go_wp2_with (with_reducible refine wpList_store_blk rfl _ _ rfl rfl rfl HZ.out (zs_len 512) HLs.out ?_)
  intro w3 h3 g3
  have L3 : Lies w3 w.heap.size l := H2.out.but g3 (fun e => by have := Option.some.inj e; omega)
  have b3 : Below w.heap.size w w3 := below_row (by repeat' (first | (with_reducible exact Below.refl _ _) | (with_reducible assumption) | (with_reducible refine below_drewN ?_ _) | (with_reducible refine Below.alloc ?_ ?_ _) | (with_reducible refine Below.drew ?_) | (with_reducible refine Below.setCell ?_ ?_ _) | go_size)) g3 (by simp; omega) (by omega)
  have c4' : w3.cell? ⟨w.heap.size, 4, none⟩ = some (.int .u8 (x4.toNat : Int)) := by
    rw [← HK.out]
    have := L3.cell (j := 4) (by have := HL.out; omega)
    rw [this, ← getD_eq (by have := HL.out; omega)]
    rfl
  have HE3 := Lib.hid h3
  have H3 := Lib.hid L3
  have q := fun W : World => run_eq_blk (sealL (oK l) (oB l) (oS l)) l HLs.out HL.out W
  have HQ := Lib.hid q
  have hO := HO.out
  rw [decide_eq_true (by omega : N ≤ 500), Bool.true_and] at hO
  have HO' := Lib.hid hO
  clear h3 L3 q hO c4
  by_cases hse : sealE (oB l) (oS l) = 0
  · have hse' : (sealE (oB l) (oS l) != 0) = false := by rw [hse]; rfl
    have hse2 : (sealE (oB l) (oS l) == 0) = true := by rw [hse]; rfl
    have HS2 := Lib.hid hse2
    clear hse hse2
    cases hq : (sealL (oK l) (oB l) (oS l) == l)
    all_goals
      have q := HQ.out
      simp only [hq] at q
      have HE := HO'.out
      rw [HS2.out, hq] at HE
      have HE2 := Lib.hid HE
      clear HE hq
      go_wp2_with fail
      refine wp_load_blk rfl rfl HE3.out HLs.out ?_
      go_wp2_with fail
      refine wp_load_blk rfl rfl H3.out HL.out ?_
      go_wp2_with fail
      ((try simp only [Exit.inBlock, Exit.then]); refine bodyPost_ret (by simp [results, Try.results44, go_sem, HK]; try rfl) rfl ?_)
      refine ⟨?_, by repeat' (first | (with_reducible exact Below.refl _ _) | (with_reducible assumption) | (with_reducible refine below_drewN ?_ _) | (with_reducible refine Below.alloc ?_ ?_ _) | (with_reducible refine Below.drew ?_) | (with_reducible refine Below.setCell ?_ ?_ _) | go_size)⟩
      rw [HV.out, HE2.out]
      first | rfl | (rw [HK.out]; rfl)
  · have hse' : (sealE (oB l) (oS l) != 0) = true := by rw [bne_iff_ne]; exact hse
    have hse2 : (sealE (oB l) (oS l) == 0) = false := by rw [beq_eq_false_iff_ne]; exact hse
    have HS2 := Lib.hid hse2
    clear hse hse2
    go_wp2_with fail
    ((try simp only [Exit.inBlock, Exit.then]); refine bodyPost_ret (by simp [results, Try.results44, go_sem, HK]; try rfl) rfl ?_)
    refine ⟨?_, by repeat' (first | (with_reducible exact Below.refl _ _) | (with_reducible assumption) | (with_reducible refine below_drewN ?_ _) | (with_reducible refine Below.alloc ?_ ?_ _) | (with_reducible refine Below.drew ?_) | (with_reducible refine Below.setCell ?_ ?_ _) | go_size)⟩
    rw [HV.out, HO'.out, HS2.out]
    rfl
end Go.Proofs.Yteoomhkdffnkkaa
