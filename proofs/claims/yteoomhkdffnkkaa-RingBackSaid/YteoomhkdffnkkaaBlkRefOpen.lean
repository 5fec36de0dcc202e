/- jettyref08.Open. -/
import Derived.Test.YteoomhkdffnkkaaBlkRefSeal
import Derived.Deep.MidRow
namespace Go.Proofs.Yteoomhkdffnkkaa
set_option linter.unusedVariables false
set_option linter.unusedSimpArgs false
open Go.ChangeShapes Go.WideShapes Go.ChangeAt Go.RowKit Pl
attribute [local go_sem] ba_toList ba_size zeroValueB

theorem Lies.there {w : World} {g : Nat} {l : List UInt8} (h : Lies w g l) (h5 : l.length = 512) : w.there g 0 512 := fun j hj => ⟨by rw [Nat.zero_add, h.cell (by omega)]; rfl, by rw [Nat.zero_add]; exact h.free _⟩
set_option maxRecDepth 100000 in
theorem setCells_blk {w : World} {g : Nat} {l m : List UInt8} (hl : Lies w g l) (h5 : l.length = 512) (hm : m.length = 512) : w.setCells g 0 (bc m) = w.setRow g (ac m) := by
  have h1 := run_store_blk hl h5 hm
  have h2 := run_storeAt_mid (P := Try.prog) w g 0 25 (ac m) (by rw [ac_size, hm]; exact hl.there h5) (by rw [info_blk, ac_size, hm]) (ac_one m)
  rw [h1] at h2
  injection h2 with _ h2
  rw [h2]
  simp [ac]
set_option maxRecDepth 100000 in
theorem lies_cells {w : World} {g : Nat} {l m : List UInt8} (hl : Lies w g l) (h5 : l.length = 512) (hm : m.length = 512) : Lies (w.setCells g 0 (bc m)) g m ∧ w.grownBy (w.setCells g 0 (bc m)) (some g) := by
  rw [setCells_blk hl h5 hm]
  exact ⟨setRow_heap w g _ _ _ _ hl, wb_row g _⟩

set_option maxRecDepth 100000 in
set_option maxHeartbeats 3200000 in
theorem ropen_any (l : List UInt8) (w : World) (hl : l.length = 512) :
    Calls Try.prog 47 #[blk l] w fun r w' => r = .returned (openV l) ∧ Below w.heap.size w w' := by
  have L0 := Lies.new w l _ rfl
  have H0 := Lib.hid L0
  have hN : oN l = (l[6]).toNat * 256 + (l[7]).toNat := by unfold oN; rw [getD_eq (by omega), getD_eq (by omega)]
  have hb6 := (l[6]).toNat_lt
  have hb7 := (l[7]).toNat_lt
  have i6 : (6 : Int) < (l.length : Int) := by omega
  have i7 : (7 : Int) < (l.length : Int) := by omega
  have i4 : (4 : Int) < (l.length : Int) := by omega
  have e67 : wrap64 (wrap64 (wrap64 ((l[6]).toNat : Int) * 256) + wrap64 ((l[7]).toNat : Int)) = (oN l : Int) := by
    rw [IntWalk.wrap64_in ((l[6]).toNat : Int) (by omega), IntWalk.wrap64_in ((l[7]).toNat : Int) (by omega), IntWalk.wrap64_in (((l[6]).toNat : Int) * 256) (by omega), IntWalk.wrap64_in _ (by omega), hN]
    omega
  have hn0 : oN l < 65536 := by omega
  have HL := Lib.hid hl
  have HE := Lib.hid e67
  have hS : oS l = (l.drop 12).take (oN l) := rfl
  have HS := Lib.hid hS
  have hV : openV l = if openOK l = true then .tuple #[.int .u8 ((oK l).toNat : Int), .int .i64 (oB l), sv (oS l), .int .i64 0] else .tuple #[.int .u8 0, .int .i64 0, sv [], .int .i64 4] := rfl
  have hO : openOK l = (decide (oN l ≤ 500) && (sealE (oB l) (oS l) == 0) && (sealL (oK l) (oB l) (oS l) == l)) := rfl
  have HV := Lib.hid hV
  have HO := Lib.hid hO
  clear hN L0 e67 hS hV hO
  go_enter Try.func47, Try.ntmps47
  go_wp2_with (with_reducible refine wpList_load_blk rfl _ rfl rfl H0.out HL.out ?_)
  go_wp2_with fail
  refine (bytes_any l _ HL.out).mono ?_; rintro e w1 ⟨rfl, hw1⟩
  have b1 : Below w.heap.size w w1 := chain (by repeat' (first | (with_reducible exact Below.refl _ _) | (with_reducible assumption) | (with_reducible refine below_drewN ?_ _) | (with_reducible refine Below.alloc ?_ ?_ _) | (with_reducible refine Below.drew ?_) | (with_reducible refine Below.setCell ?_ ?_ _) | go_size)) hw1
  have s1 := b1.size
  go_wp2_with fail
  go_quiet (fail)
  have e67' : wrap64 (wrap64 (wrap64 (((⟨l.toArray⟩ : ByteArray)[6]'(by rw [ba_size]; omega)).toNat : Int) * 256) + wrap64 (((⟨l.toArray⟩ : ByteArray)[7]'(by rw [ba_size]; omega)).toNat : Int)) = (oN l : Int) := HE.out
  simp only [e67']
  clear e67'
  have b1' : Below w.heap.size w (w1.drewN nq) := below_drewN b1 _
  have H1 := Lib.hid (show Lies (w1.drewN nq) w.heap.size l from H0.out.below (below_drewN hw1 nq))
  generalize w1.drewN nq = v1 at *
  generalize oN l = N at *
  by_cases h5 : 500 < N
  · have h5' : (500 : Int) < (N : Int) := by omega
    go_wp2_with fail
    ((try simp only [Exit.inBlock, Exit.then]); refine bodyPost_ret (by simp [results, Try.results47, go_sem, HL]; try rfl) rfl ?_)
    refine ⟨?_, b1'⟩
    rw [HV.out, HO.out, decide_eq_false (by omega : ¬ N ≤ 500)]
    rfl
  have h5' : ¬ (500 : Int) < (N : Int) := by omega
  have s4 : ∀ W, (Instr.slice 9 (.string ⟨l.toArray⟩) (some (.int .i64 8)) (some (.int .i64 12)) none).run Try.prog W = .ok (sv ((l.drop 8).take 4)) W := fun W => slice_sv Try.underlying9 l 8 12 (by omega) (by omega) W
  go_wp2_with fail
  refine (number_any ((l.drop 8).take 4) _ (by simp; omega)).mono ?_; rintro e w2 ⟨rfl, nq2, rfl⟩
  have hbB : ((unbe 0 ((l.drop 8).take 4) : Nat) : Int) = oB l := rfl
  rw [hbB]
  have hSL : (oS l).length ≤ 9223372036854775807 := by rw [HS.out]; simp; omega
  have hLs := sealL_len (oK l) (oB l) (oS l)
  have HLs := Lib.hid hLs
  have hA1 : (12 : Int) + (N : Int) ≤ (l.length : Int) := by omega
  have hA2 : (12 : Int) ≤ 12 + (N : Int) := by omega
  have s12 : ∀ W, (Instr.slice 9 (.string ⟨l.toArray⟩) (some (.int .i64 12)) (some (.int .i64 (12 + (N : Int)))) none).run Try.prog W = .ok (sv (oS l)) W := fun W => by
    have := slice_sv (P := Try.prog) Try.underlying9 l 12 (12 + N) (by omega) (by omega) W
    rw [show 12 + N - 12 = N from by omega, ← HS.out] at this
    exact this
  have w12 : IntKind.i64.wrap (12 + (N : Int)) = 12 + (N : Int) := IntWalk.i64_in _ (by omega)
  have k4 : l[4] = oK l := (getD_eq (by omega)).symm
  have HK := Lib.hid k4
  have b2 : Below w.heap.size w (v1.drewN nq2) := below_drewN b1' _
  have H2 := Lib.hid (show Lies (v1.drewN nq2) w.heap.size l from H1.out)
  generalize v1.drewN nq2 = v2 at *
  clear k4 hLs hn0 hb6 hb7
  go_upto_region 6 with (fail)
  go_cut [9, 10] (fun v e wc => ∃ g, v = .pointer (some ⟨g, 0, none⟩) ∧ e = .int .i64 (sealE (oB l) (oS l)) ∧ Lies wc g (sealL (oK l) (oB l) (oS l)) ∧ Lies wc w.heap.size l ∧ Below w.heap.size w wc)
  case first =>
    have hi : (Try.prog.info? 25).map (·.size) = some (bc (sealL (oK l) (oB l) (oS l))).length := by rw [info_blk, bc_length, HLs.out]
    have hc5 : (bc (sealL (oK l) (oB l) (oS l))).length = 512 := by rw [bc_length, HLs.out]
    have h1c := bc_one (sealL (oK l) (oB l) (oS l))
    have XS : ∀ W, Calls Try.prog 41 #[.int .u8 (((⟨l.toArray⟩ : ByteArray)[4]'(by rw [ba_size]; omega)).toNat : Int), .int .i64 (oB l), sv (oS l)] W fun r w' => r = .returned (.tuple #[blk (sealL (oK l) (oB l) (oS l)), .int .i64 (sealE (oB l) (oS l))]) ∧ Below W.heap.size W w' := fun W => by
      have e4 : ((⟨l.toArray⟩ : ByteArray)[4]'(by rw [ba_size]; omega)) = oK l := HK.out
      rw [e4]
      exact rseal_any (oK l) (oB l) (oS l) W hSL
    have GS := Lib.hid XS
    clear XS hSL
    go_region_held3 (fun W => Below v2.heap.size v2 W)
      ((first | exact (Below.refl _ _).drew | assumption | exact ((Below.refl _ _).drew).alloc (Nat.le_refl _) _ | exact Below.alloc bq bq.size _ | exact below_row bq (lies_cells lB (zs_len 512) HLs.out).2 bq.size (Nat.le_refl _) | exact below_row (Below.alloc bq bq.size _) (lies_cells lA (zs_len 512) HLs.out).2 (by have := bq.size; simp; omega) bq.size))
      ((go_at_call 41; refine (GS.out _).mono ?_; rintro r w' ⟨rfl, hw'⟩; have bq : Below v2.heap.size v2 w' := (by assumption : Below v2.heap.size v2 _).trans (hw'.mono (by have := (by assumption : Below v2.heap.size v2 _).size; first | exact this | (simp; done) | (simp; omega))); have lA := Lies.new w' (zs 512) _ rfl; have tA := lA.there (zs_len 512); (try have lB := (Lies.new v2.drew (zs 512) v2.heap.size rfl).below hw'); (try have tB := lB.there (zs_len 512))))
    all_goals
      go_wp2_with fail
      go_meet
      have lt2 := H2.out.lt
      have fin : ∀ (W : World) (g : Nat), v2.heap.size ≤ g → Lies W g (zs 512) → Below v2.heap.size v2 W → ∃ g', (Value.pointer (some ⟨g, 0, none⟩)) = .pointer (some ⟨g', 0, none⟩) ∧ Value.int .i64 (sealE (oB l) (oS l)) = .int .i64 (sealE (oB l) (oS l)) ∧ Lies (W.setCells g 0 (bc (sealL (oK l) (oB l) (oS l)))) g' (sealL (oK l) (oB l) (oS l)) ∧ Lies (W.setCells g 0 (bc (sealL (oK l) (oB l) (oS l)))) w.heap.size l ∧ Below w.heap.size w (W.setCells g 0 (bc (sealL (oK l) (oB l) (oS l)))) := fun W g hg hz hb => by
        obtain ⟨c1, c2⟩ := lies_cells hz (zs_len 512) HLs.out
        have hgg : w.heap.size ≤ g := by omega
        exact ⟨g, rfl, rfl, c1, (H2.out.below hb).but c2 (fun e => by have := Option.some.inj e; omega), below_row (chain b2 hb) c2 (chain b2 hb).size hgg⟩
      first
        | (with_reducible exact fin _ _ (Nat.le_refl _) lB bq)
        | (with_reducible exact fin _ _ bq.size lA (Below.alloc bq bq.size _))
  case rest =>
    obtain ⟨g, rfl, rfl, hLg, hLw, bw⟩ := hcut
    have Hg := Lib.hid hLg
    have Hw := Lib.hid hLw
    have q := fun W : World => run_eq_blk (sealL (oK l) (oB l) (oS l)) l HLs.out HL.out W
    have HQ := Lib.hid q
    have hO := HO.out
    rw [decide_eq_true (by omega : N ≤ 500), Bool.true_and] at hO
    have HO' := Lib.hid hO
    clear hLg hLw q hO
    by_cases hse : sealE (oB l) (oS l) = 0
    · have hse' : (sealE (oB l) (oS l) != 0) = false := by rw [hse]; rfl
      have hse2 : (sealE (oB l) (oS l) == 0) = true := by rw [hse]; rfl
      have HS2 := Lib.hid hse2
      clear hse hse2
      cases hq : (sealL (oK l) (oB l) (oS l) == l)
      all_goals
        have q := HQ.out
        simp only [hq] at q
        have HE3 := HO'.out
        rw [HS2.out, hq] at HE3
        have HE2 := Lib.hid HE3
        clear HE3 hq
        go_wp2_with fail
        refine wp_load_blk rfl rfl Hg.out HLs.out ?_
        go_wp2_with fail
        refine wp_load_blk rfl rfl Hw.out HL.out ?_
        go_wp2_with fail
      · ((try simp only [Exit.inBlock, Exit.then]); refine bodyPost_ret (by simp [results, Try.results47, go_sem, HK]; try rfl) rfl ?_)
        refine ⟨?_, by repeat' (first | (with_reducible exact Below.refl _ _) | (with_reducible assumption) | (with_reducible refine below_drewN ?_ _) | (with_reducible refine Below.alloc ?_ ?_ _) | (with_reducible refine Below.drew ?_) | (with_reducible refine Below.setCell ?_ ?_ _) | go_size)⟩
        rw [HV.out, HE2.out]
        rfl
      · go_quiet (fail)
        go_wp2_with fail
        ((try simp only [Exit.inBlock, Exit.then]); refine bodyPost_ret (by simp [results, Try.results47, go_sem, HK]; try rfl) rfl ?_)
        refine ⟨?_, by repeat' (first | (with_reducible exact Below.refl _ _) | (with_reducible assumption) | (with_reducible refine below_drewN ?_ _) | (with_reducible refine Below.alloc ?_ ?_ _) | (with_reducible refine Below.drew ?_) | (with_reducible refine Below.setCell ?_ ?_ _) | go_size)⟩
        rw [HV.out, HE2.out, ← HK.out]
        rfl
    · have hse' : (sealE (oB l) (oS l) != 0) = true := by rw [bne_iff_ne]; exact hse
      have hse2 : (sealE (oB l) (oS l) == 0) = false := by rw [beq_eq_false_iff_ne]; exact hse
      have HS2 := Lib.hid hse2
      clear hse hse2
      go_wp2_with fail
      ((try simp only [Exit.inBlock, Exit.then]); refine bodyPost_ret (by simp [results, Try.results47, go_sem, HK]; try rfl) rfl ?_)
      refine ⟨?_, by repeat' (first | (with_reducible exact Below.refl _ _) | (with_reducible assumption) | (with_reducible refine below_drewN ?_ _) | (with_reducible refine Below.alloc ?_ ?_ _) | (with_reducible refine Below.drew ?_) | (with_reducible refine Below.setCell ?_ ?_ _) | go_size)⟩
      rw [HV.out, HO'.out, HS2.out]
      rfl
end Go.Proofs.Yteoomhkdffnkkaa
