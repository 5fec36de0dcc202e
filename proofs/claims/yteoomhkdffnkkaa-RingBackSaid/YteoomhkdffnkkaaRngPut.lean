/- ring.Put: a root is written. Conditions: none. -/
import Derived.Test.YteoomhkdffnkkaaRngBlocks
import Derived.Test.YteoomhkdffnkkaaRngPlain
import Derived.Test.YteoomhkdffnkkaaDskMany
namespace Go.Proofs.Yteoomhkdffnkkaa
set_option linter.unusedVariables false
set_option linter.unusedSimpArgs false
open Go.ChangeShapes Go.WideShapes Go.ChangeAt Go.RowKit Pl
attribute [local go_sem] ba_toList ba_size zeroValueB
set_option maxRecDepth 100000

namespace Dk
def putE (d : Dk) (t : Int) (l : List UInt8) : Int := if rsE t l = 0 then d.writeE (plV t) else rsE t l
def putD (d : Dk) (t : Int) (l : List UInt8) : Dk := if rsE t l = 0 then d.write (plV t) (rsL t l) else d
end Dk
theorem Same.weak {own own' : List Nat} {w w' : World} (h : Same own' w w') (hs : ∀ k ∈ own, k ∈ own') : Same own w w' := fun k hk => h k (hs k hk)
theorem put_nil (t : Int) (l : List UInt8) (w : World) : Calls Try.prog 21 #[.pointer none, rootV t l] w fun e w' => e = .returned (.int .i64 2) ∧ Below w.heap.size w w' := by
  go_enter Try.func21, Try.ntmps21
  go_wp2_with fail
  go_ret
  exact ⟨rfl, by repeat' (first | (with_reducible exact Below.refl _ _) | (with_reducible assumption) | (with_reducible refine below_drewN ?_ _) | (with_reducible refine Below.alloc ?_ ?_ _) | (with_reducible refine Below.drew ?_) | (with_reducible refine Below.setCell ?_ ?_ _) | go_size)⟩

set_option maxHeartbeats 3200000 in
theorem put_m {B : Nat} {own : List Nat} {ls : List (Nat × Nat × Dk)} {i g : Nat} {d : Dk} (t : Int) (l : List UInt8) (w : World) (h : Many B own w ((i, g, d) :: ls)) (hr : ∀ x ∈ ls, x.1 ≠ i) (hB : B ≤ w.heap.size) (hl : l.length ≤ 9223372036854775807) (hs : d.sum + 1 ≤ 1073741824)
    {E : Int} {d' : Dk} (hE : d.putE t l = E) (hd : d.putD t l = d') :
    Calls Try.prog 21 #[dptr g, rootV t l] w fun e w' => e = .returned (.int .i64 E) ∧ Many B own w' ((i, g, d') :: ls) ∧ Below B w w' ∧ Same own w w' := by
  subst hE hd
  have hm1 := h.mine (.cells #[.int .i64 t, sv l] 29)
  have hc1 : (w.alloc (.cells #[.int .i64 t, sv l] 29)).heap[w.heap.size]? = some (.cells #[.int .i64 t, sv l] 29 (0, 0)) := heap_alloc_new _ _
  have hsm : Same own w (w.alloc (.cells #[.int .i64 t, sv l] 29)) := Same.below ((Below.refl _ _).alloc (Nat.le_refl _) _) h
  have HS := Lib.hid (fun W : World => ringseal_any t l W hl)
  have hL5 := rsL_len t l
  unfold Dk.putE Dk.putD
  by_cases hE : rsE t l = 0
  · rw [if_pos hE, if_pos hE]
    rw [hE] at HS
    have HR := Lib.hid hr
    have HM1 := Lib.hid hm1
    have HC1 := Lib.hid hc1
    have HSM := Lib.hid hsm
    have HL5 := Lib.hid hL5
    have hpl : 0 ≤ plV t ∧ plV t < 2 := by
      unfold plV
      split
      · omega
      · omega
    generalize rsL t l = R at *
    clear hm1 hc1 hsm hr h hL5 hE
    go_enter Try.func21, Try.ntmps21
    go_wp2_with fail
    refine (HS.out _).mono ?_; rintro e w1 ⟨rfl, hw1⟩
    have b1 : Below w.heap.size w w1 := chain ((Below.refl _ _).alloc (Nat.le_refl _) _) hw1
    have hm2 := (HM1.out.below hw1).mine (.cells (ac (zs 512)) 25)
    have hc2 := (hw1.block w.heap.size (by simp)).trans HC1.out
    have hlt2 : w.heap.size < w1.heap.size := (Array.getElem?_eq_some_iff.1 hc2).1
    have hsm2 := HSM.out.trans ((Same.below hw1 HM1.out).weak (fun _ h => List.mem_cons_of_mem _ h))
    have hown : ∀ k ∈ own, k < w1.heap.size := fun k hk => by
      obtain ⟨col, h1, _⟩ := HM1.out
      exact Nat.lt_of_lt_of_le (h1 k (List.mem_cons_of_mem _ hk)).2 hw1.size
    have HOW := Lib.hid hown
    have HA := Lib.hid (Lies.new w1 (zs 512) _ rfl)
    have HM2 := Lib.hid hm2
    have HC2 := Lib.hid ((heap_alloc_old w1 (.cells (ac (zs 512)) 25) hlt2).trans hc2)
    have HSM2 := Lib.hid hsm2
    have bA : Below w.heap.size w (w1.alloc (.cells (ac (zs 512)) 25)) := b1.alloc b1.size _
    clear hm2 hc2 hsm2 hown HM1 HC1 HSM hw1
    go_wp2_with (with_reducible refine wpList_store_blk (m := R) rfl _ _ rfl rfl rfl HA.out (zs_len 512) HL5.out ?_)
    intro w2 hl2 g2
    have hm3 := HM2.out.own_set (b := w1.heap.size) (by simp) g2
    have hc3 := (g2.block w.heap.size (by simp; omega) (fun e => by have e : w.heap.size = w1.heap.size := Option.some.inj e; omega)).trans HC2.out
    have b3 : Below w.heap.size w w2 := below_row bA g2 bA.size b1.size
    have hsm3 : Same own w w2 := fun k hk => (g2.block k (by have := HOW.out k hk; simp; omega) (fun e => by have e : k = w1.heap.size := Option.some.inj e; have := HOW.out k hk; omega)).trans ((heap_alloc_old w1 _ (HOW.out k hk)).trans (HSM2.out k hk))
    have HM3 := Lib.hid hm3
    have HSM3 := Lib.hid hsm3
    have HL3 := Lib.hid hl2
    have HC3 := Lib.hid hc3
    clear hm3 hsm3 hl2 hc3 g2 HM2 HC2 HSM2 HA bA
    go_wp2_with fail
    have hS : w2.drew.cell? ⟨w.heap.size, 0, none⟩ = some (.int .i64 t) ∧ Lies w2.drew w1.heap.size R := ⟨(cell_of_row w2 w.heap.size 0 _ _ _ HC3.out).trans rfl, HL3.out⟩
    have HM4 : Hid (Many B (w1.heap.size :: w.heap.size :: own) w2.drew ((i, g, d) :: ls)) := Lib.hid HM3.out.drew
    have b4 : Below w.heap.size w w2.drew := b3.drew
    have HSM4 : Hid (Same own w w2.drew) := Lib.hid HSM3.out
    refine wp_region_held_drew (S := fun W => W.cell? ⟨w.heap.size, 0, none⟩ = some (.int .i64 t) ∧ Lies W w1.heap.size R) (by kernel_rfl) hS (fun hHeld => ?_)
    generalize w2.drew = V0 at *
    refine wpAnyH_take (i := 0) (oi := _) (v := ?_) rfl (by kernel_rfl) (by kernel_rfl) (by kernel_rfl) (fun _ _ _ h => h) (Or.inl ⟨by rfl, ?_⟩) (by assumption) ?_
    rotate_left
    · (intro w hSw; (try dsimp only at hSw); (try go_split_ands); go_simp; (try with_reducible rfl))
    (try simp only [List.getElem_toArray, List.getElem_cons_zero, List.getElem_cons_succ, Act.put, List.setIfInBounds_toArray, List.set_cons_zero, List.set_cons_succ])
    refine wpAnyH_take (i := 1) (oi := _) (v := ?_) rfl (by kernel_rfl) (by kernel_rfl) (by kernel_rfl) (fun _ _ _ h => h) (Or.inl ⟨by rfl, ?_⟩) (by assumption) ?_
    rotate_left
    · (intro w hSw; (try dsimp only at hSw); (try go_split_ands); go_simp; (try with_reducible rfl))
    (try simp only [List.getElem_toArray, List.getElem_cons_zero, List.getElem_cons_succ, Act.put, List.setIfInBounds_toArray, List.set_cons_zero, List.set_cons_succ])
    refine wpAnyH_take (i := 2) (oi := _) (v := ?_) rfl (by kernel_rfl) (by kernel_rfl) (by kernel_rfl) (fun _ _ _ h => h) (Or.inl ⟨by rfl, ?_⟩) (by assumption) ?_
    rotate_left
    · (intro w hSw; (try dsimp only at hSw); (try go_split_ands); go_simp; (try with_reducible rfl))
    (try simp only [List.getElem_toArray, List.getElem_cons_zero, List.getElem_cons_succ, Act.put, List.setIfInBounds_toArray, List.set_cons_zero, List.set_cons_succ])
    refine wpAnyH_take (i := 4) (oi := _) (v := blk R) rfl (by kernel_rfl) (by kernel_rfl) (by kernel_rfl) (fun _ _ _ h => h) (yieldsIf_load_mid (by rfl) 25 _ rfl w1.heap.size 0 rfl (bc R) _ (fun W hW => Lies.range0 hW.2) Try.underlying25 rfl (by rw [info_blk, bc_length, HL5.out])) (by assumption) ?_
    (try simp only [List.getElem_toArray, List.getElem_cons_zero, List.getElem_cons_succ, Act.put, List.setIfInBounds_toArray, List.set_cons_zero, List.set_cons_succ])
    refine wpAnyH_ready (rs := [3]) (by kernel_rfl) (by simp) ?_
    refine AllReadyH.cons (o := _) rfl (fun K hK => ?_) AllReadyH.nil
    (try simp only [List.getElem_toArray, List.getElem_cons_zero, List.getElem_cons_succ])
    go_simp
    refine (place_any t V0).mono ?_; rintro e w' ⟨rfl, rfl⟩
    refine hK.out _ _ (hS) (fun hHeld => ?_)
    clear hK K
    (try simp only [List.getElem_toArray, List.getElem_cons_zero, List.getElem_cons_succ, Act.put, List.setIfInBounds_toArray, List.set_cons_zero, List.set_cons_succ])
    refine wpAnyH_ready (rs := [5]) (by kernel_rfl) (by simp) ?_
    refine AllReadyH.cons (o := _) rfl (fun K hK => ?_) AllReadyH.nil
    (try simp only [List.getElem_toArray, List.getElem_cons_zero, List.getElem_cons_succ])
    go_simp
    have hB4 : B ≤ V0.heap.size := Nat.le_trans hB b4.size
    refine (write_m (plV t) R V0 HM4.out HR.out hB4 HL5.out hs rfl rfl).mono ?_; rintro e w5 ⟨rfl, hm5, hb5, hs5⟩
    have hS5 : w5.cell? ⟨w.heap.size, 0, none⟩ = some (.int .i64 t) ∧ Lies w5 w1.heap.size R := ⟨(World.cell?_of_block (a := ⟨w.heap.size, 0, none⟩) (hs5 w.heap.size (by simp))).trans hS.1, (hs5 w1.heap.size (by simp)).trans hS.2⟩
    refine hK.out _ _ (hS5) (fun hHeld => ?_)
    clear hK K
    (try simp only [List.getElem_toArray, List.getElem_cons_zero, List.getElem_cons_succ, Act.put, List.setIfInBounds_toArray, List.set_cons_zero, List.set_cons_succ])
    refine wpAnyH_take (i := 6) (oi := _) (v := ?_) rfl (by kernel_rfl) (by kernel_rfl) (by kernel_rfl) (fun _ _ _ h => h) (Or.inl ⟨by rfl, ?_⟩) (by assumption) ?_
    rotate_left
    · (intro w hSw; (try dsimp only at hSw); (try go_split_ands); go_simp; (try with_reducible rfl))
    (try simp only [List.getElem_toArray, List.getElem_cons_zero, List.getElem_cons_succ, Act.put, List.setIfInBounds_toArray, List.set_cons_zero, List.set_cons_succ])
    refine wpAnyH_done (by kernel_rfl) ?_ _
    have HM5 := Lib.hid (hm5.sub (own' := own) (fun k hk => by simp [hk]) (fun x hx => hx))
    have hsm5 : Same own w w5 := fun k hk => (hs5 k (by simp [hk])).trans (HSM4.out k hk)
    have HS5 := Lib.hid hsm5
    clear hm5 hs5 hsm5 hS hS5
    go_wp2_with fail
    go_ret
    exact ⟨rfl, HM5.out, (b4.mono hB).trans hb5, HS5.out⟩
  · rw [if_neg hE, if_neg hE]
    have hb' : (rsE t l == 0) = false := by simp [hE]
    have HM1 := Lib.hid hm1
    have HSM := Lib.hid hsm
    have HL5 := Lib.hid hL5
    generalize rsL t l = R at *
    generalize rsE t l = E at *
    clear hm1 hc1 hsm hr h hL5 hE
    go_enter Try.func21, Try.ntmps21
    go_wp2_with fail
    refine (HS.out _).mono ?_; rintro e w1 ⟨rfl, hw1⟩
    have b1 : Below w.heap.size w w1 := chain ((Below.refl _ _).alloc (Nat.le_refl _) _) hw1
    have HA := Lib.hid (Lies.new w1 (zs 512) _ rfl)
    have HW1 := Lib.hid hw1
    go_wp2_with (with_reducible refine wpList_store_blk (m := R) rfl _ _ rfl rfl rfl HA.out (zs_len 512) HL5.out ?_)
    intro w2 hl2 g2
    have b12 : Below w1.heap.size w1 w2 := below_row ((Below.refl _ _).alloc (Nat.le_refl _) _) g2 (by simp) (Nat.le_refl _)
    have HB12 := Lib.hid b12
    clear hl2 g2
    go_wp2_with fail
    go_ret
    have hm1' := HM1.out.below (chain HW1.out HB12.out)
    refine ⟨rfl, hm1'.sub (own' := own) (fun k hk => by simp [hk]) (fun x hx => hx), (chain b1 HB12.out).mono hB, ?_⟩
    exact HSM.out.trans ((Same.below (chain HW1.out HB12.out) HM1.out).weak (fun _ h => List.mem_cons_of_mem _ h))
end Go.Proofs.Yteoomhkdffnkkaa
