/- call.Read: the head of what comes. -/
import Derived.Test.YtaobfidjnnhniaaCallOpen
import Derived.Test.YtaobfidjnnhniaaRefRead
namespace Go.Proofs.Ytaobfidjnnhniaa
set_option linter.unusedVariables false
set_option linter.unusedSimpArgs false
open Go.ChangeShapes Go.WideShapes Go.ChangeAt Go.RowKit Pl
attribute [local go_sem] ba_toList ba_size

/-- The q-th word of s. -/
def wd (s : List UInt8) (q : Nat) : Int := (unbe 0 ((s.drop (4 * q)).take 4) : Nat)
/-- The error of what comes. -/
def readE (s : List UInt8) : Int :=
  if (decide (s.length ≤ 4096) && decide (s.length % 4 = 0) && decide (24 ≤ s.length) && decide (wd s 1 = 0) && isC (wd s 4)) = true then
    (if wd s 2 = 284 ∧ wd s 3 = 3 then (if wd s 5 < 19 then 0 else 62) else 63)
  else 4
def readC (s : List UInt8) : Int := if readE s = 4 then 0 else wd s 4
def readX (s : List UInt8) : Int := if readE s = 4 then 0 else wd s 0
def readP (s : List UInt8) : Int := if readE s = 4 then 0 else wd s 5
def readB (s : List UInt8) : List UInt8 := if readE s = 0 then s.drop 24 else []
abbrev readV (s : List UInt8) : Value := .tuple #[headV (readC s) (readX s) (readP s) (readB s), .int .i64 (readE s)]

theorem below_by {B : Nat} {w w1 w' : World} {x : Nat} (h : Below B w w1) (hb : w1.grownBy w' (some x)) (hB : B ≤ w1.heap.size) (hx : B ≤ x) : Below B w w' := h.grown hb hB (fun k e => by cases e; exact hx)
theorem wd_bounds (s : List UInt8) (q : Nat) : 0 ≤ wd s q ∧ wd s q < 4294967296 := by
  have h := unbe_lt ((s.drop (4 * q)).take 4) 0
  have h1 : ((s.drop (4 * q)).take 4).length ≤ 4 := by simp; omega
  have h256 : 256 ^ ((s.drop (4 * q)).take 4).length ≤ 256 ^ 4 := Nat.pow_le_pow_right (by omega) h1
  have e4 : 256 ^ 4 = 4294967296 := rfl
  unfold wd
  generalize 256 ^ ((s.drop (4 * q)).take 4).length = y at h h256
  omega

/-- The reader behind q words. -/
def stR (s : List UInt8) : Nat → Option (List UInt8)
  | 0 => some s
  | q + 1 => (wordR (stR s q)).2
theorem stR_some {s : List UInt8} : ∀ {q : Nat}, 4 * q ≤ s.length → stR s q = some (s.drop (4 * q))
  | 0, _ => rfl
  | q + 1, h => by
    show (wordR (stR s q)).2 = _
    rw [stR_some (by omega)]
    have : wordR (some (s.drop (4 * q))) = (unbe 0 ((s.drop (4 * q)).take 4), some ((s.drop (4 * q)).drop 4)) := if_pos (by simp; omega)
    rw [this, List.drop_drop]
    rfl
theorem stR_none {s : List UInt8} {q : Nat} (h4 : s.length % 4 = 0) (h : s.length < 4 * q) : stR s q = none := by
  induction q with
  | zero => omega
  | succ q ih =>
    show (wordR (stR s q)).2 = none
    by_cases hq : s.length < 4 * q
    · rw [ih hq]; rfl
    · rw [stR_some (by omega)]
      have : wordR (some (s.drop (4 * q))) = (0, none) := if_neg (by simp; omega)
      rw [this]
/-- The word that is read there. -/
def wr? (s : List UInt8) (q : Nat) : Int := ((wordR (stR s q)).1 : Nat)
theorem wr_eq {s : List UInt8} {q : Nat} (h : 4 * (q + 1) ≤ s.length) : wr? s q = wd s q := by
  unfold wr? wd
  rw [stR_some (by omega)]
  have : wordR (some (s.drop (4 * q))) = (unbe 0 ((s.drop (4 * q)).take 4), some ((s.drop (4 * q)).drop 4)) := if_pos (by simp; omega)
  rw [this]
theorem wr_bounds (s : List UInt8) (q : Nat) : 0 ≤ wr? s q ∧ wr? s q < 4294967296 := by
  have := wordR_lt (stR s q)
  unfold wr?
  omega

set_option maxRecDepth 100000 in
set_option maxHeartbeats 3200000 in
theorem read_any (s : List UInt8) (w : World) (hl : s.length ≤ 9223372036854775807) :
    Calls Try.prog 13 #[sv s] w fun r w' => r = .returned (readV s) ∧ Below w.heap.size w w' := by
  by_cases hg : 4096 < s.length ∨ s.length % 4 ≠ 0
  · have he : readE s = 4 := if_neg (fun h => by simp only [Bool.and_eq_true, decide_eq_true_eq] at h; omega)
    have h0 : readV s = .tuple #[headV 0 0 0 [], .int .i64 4] := by
      unfold readV readC readX readP readB
      rw [he]
      rfl
    rw [h0]
    clear he h0
    by_cases h1 : (4096 : Int) < (s.length : Int)
    · go_enter Try.func13, Try.ntmps13
      go_wp2_with fail
      ((try simp only [Exit.inBlock, Exit.then]); refine bodyPost_ret (by simp [results, Try.results13, go_sem, hl]; try rfl) rfl ?_)
      exact ⟨rfl, by repeat' (first | (with_reducible exact Below.refl _ _) | (with_reducible assumption) | (with_reducible refine below_drewN ?_ _) | (with_reducible refine Below.alloc ?_ ?_ _) | (with_reducible refine Below.drew ?_) | (with_reducible refine Below.setCell ?_ ?_ _) | go_size)⟩
    · have h2 : ((s.length : Int) % 4 != 0) = true := by rw [bne_iff_ne]; omega
      clear hg
      go_enter Try.func13, Try.ntmps13
      go_wp2_with fail
      ((try simp only [Exit.inBlock, Exit.then]); refine bodyPost_ret (by simp [results, Try.results13, go_sem, hl]; try rfl) rfl ?_)
      exact ⟨rfl, by repeat' (first | (with_reducible exact Below.refl _ _) | (with_reducible assumption) | (with_reducible refine below_drewN ?_ _) | (with_reducible refine Below.alloc ?_ ?_ _) | (with_reducible refine Below.drew ?_) | (with_reducible refine Below.setCell ?_ ?_ _) | go_size)⟩
  have h1 : ¬ (4096 : Int) < (s.length : Int) := by omega
  have h2 : ((s.length : Int) % 4 != 0) = false := by rw [bne_eq_false_iff_eq]; omega
  have hs4 : s.length % 4 = 0 := by omega
  have hs5 : s.length ≤ 4096 := by omega
  clear hg
  have H4 := Lib.hid hs4
  clear hs4
  have hd : ∀ j, j < 4 → (w.alloc (.cells #[.int .i64 0, .int .i64 0, .int .i64 0, .string ⟨#[]⟩] 29)).cell? ⟨w.heap.size, j, none⟩ = (#[Value.int .i64 0, .int .i64 0, .int .i64 0, .string ⟨#[]⟩] : Array Value)[j]? ∧
      (w.alloc (.cells #[.int .i64 0, .int .i64 0, .int .i64 0, .string ⟨#[]⟩] 29)).frozen? ⟨w.heap.size, j, none⟩ = false := fun j _ => ⟨cell_new _ _ _ _ j rfl, frozen_new _ _ _ _⟩
  have HD := Lib.hid hd
  clear hd
  go_enter Try.func13, Try.ntmps13
  go_wp2_with (with_reducible refine wpList_bytes_of_string rfl _ rfl Try.underlying9 Try.underlying58 Try.underlying5 rfl ?_ ?_)
  · unfold maxLen; omega
  intro v1 w1 hr1 hw1 _
  have s1 : w.heap.size + 1 ≤ w1.heap.size := by have := hw1.size; simpa using this
  have hv1 := hr1.bytes
  go_wp2_with fail
  refine (NewReader_any _ s _ hv1 (by omega)).mono ?_; rintro r w2 ⟨g, h, rfl, rd, hw2, hg0, hh0, hg1, hh1⟩
  have c2 := hw1.trans (hw2.mono s1)
  have s2 := hw2.size
  have rd2 := rd.below ((Below.refl _ _).alloc (Nat.le_refl _) (.cells #[.int .i64 0, .int .i64 0, .int .i64 0, .int .i64 0, .int .i64 0, .int .i64 0] 59))
  have hz : ∀ j, j < 6 → (w2.alloc (.cells #[.int .i64 0, .int .i64 0, .int .i64 0, .int .i64 0, .int .i64 0, .int .i64 0] 59)).cell? ⟨w2.heap.size, j, none⟩ = some (.int .i64 (if j < 0 then wr? s j else 0)) ∧
      (w2.alloc (.cells #[.int .i64 0, .int .i64 0, .int .i64 0, .int .i64 0, .int .i64 0, .int .i64 0] 59)).frozen? ⟨w2.heap.size, j, none⟩ = false := by
    intro j hj
    refine ⟨?_, frozen_new _ _ _ _⟩
    rw [cell_new _ _ _ _ _ rfl, if_neg (by omega)]
    have : j = 0 ∨ j = 1 ∨ j = 2 ∨ j = 3 ∨ j = 4 ∨ j = 5 := by omega
    rcases this with rfl | rfl | rfl | rfl | rfl | rfl <;> rfl
  have HZ := Lib.hid hz
  clear hz rd
  go_wp2_with fail
  go_loopw [6, 21] (fun _ i W => ∃ q : Nat, q ≤ 6 ∧ i = .int .i64 q ∧ Rd W g h (stR s q) ∧
      (∀ j, j < 6 → W.cell? ⟨w2.heap.size, j, none⟩ = some (.int .i64 (if j < q then wr? s j else 0)) ∧ W.frozen? ⟨w2.heap.size, j, none⟩ = false) ∧
      Below (w.heap.size + 1) (w.alloc (.cells #[.int .i64 0, .int .i64 0, .int .i64 0, .string ⟨#[]⟩] 29)) W ∧ w2.heap.size < W.heap.size) (fun _ i _ => 6 - (intOf i).toNat)
  case atStart => exact ⟨0, by omega, rfl, rd2, HZ.out, c2.trans ((Below.refl _ _).alloc (by omega) _), by simp⟩
  case round =>
    obtain ⟨q, hq, rfl, hR, hz, bW, hsz⟩ := hrel
    have HZq := Lib.hid hz
    by_cases hlt : q < 6
    · obtain ⟨cq, fq⟩ := hz q hlt
      clear hz
      have hq6 : (q : Int) < 6 := by omega
      go_wp2_with fail
      refine (rWord_any _ hR).mono ?_; rintro r w3 ⟨rfl, h3, g3⟩
      have bnd := wr_bounds s q
      have hwr : ((wordR (stR s q)).1 : Int) = wr? s q := rfl
      rw [hwr]
      have hgne : w2.heap.size ≠ g := by omega
      have cq3 := g3.cell cq (fun e => hgne (Option.some.inj e))
      have fq3 := (World.frozen?_of_block (a := ⟨w2.heap.size, q, none⟩) (g3.block w2.heap.size hsz (fun e => hgne (Option.some.inj e)))).trans fq
      go_wp2_with fail
      go_roundw
      case rel =>
        refine ⟨q + 1, by omega, by go_num, h3.but (wb_set (World.grownBy.refl _ _) _ _) (fun e => hgne (Option.some.inj e).symm) (fun e => by have := Option.some.inj e; omega), fun j hj => ?_, ?_, by simpa [World.setCell] using Nat.lt_of_lt_of_le hsz g3.size⟩
        · by_cases hjq : j = q
          · subst hjq
            rw [World.cell?_setCell_same _ _ _ cq3, if_pos (by omega)]
            exact ⟨rfl, by simpa using fq3⟩
          · rw [World.cell?_setCell_other _ _ _ _ (fun e => hjq (congrArg Addr.off e).symm)]
            obtain ⟨cj, fj⟩ := HZq.out j hj
            have cj3 := g3.cell cj (fun e => hgne (Option.some.inj e))
            have fj3 := (World.frozen?_of_block (a := ⟨w2.heap.size, j, none⟩) (g3.block w2.heap.size hsz (fun e => hgne (Option.some.inj e)))).trans fj
            refine ⟨?_, by simpa using fj3⟩
            rw [cj3]
            by_cases hjl : j < q
            · rw [if_pos hjl, if_pos (by omega)]
            · rw [if_neg hjl, if_neg (by omega)]
        · exact (below_by bW g3 (by have := bW.size; simp at this; omega) (by omega)).setCell (by simp; omega) _
      case measure => simp [intOf]; omega
    · obtain rfl : 6 = q := by omega
      have z0 := hz 0 (by omega)
      have z1 := hz 1 (by omega)
      have z2 := hz 2 (by omega)
      have z3 := hz 3 (by omega)
      have z4 := hz 4 (by omega)
      have z5 := hz 5 (by omega)
      simp only [show (0 : Nat) < 6 from by omega, show (1 : Nat) < 6 from by omega, show (2 : Nat) < 6 from by omega, show (3 : Nat) < 6 from by omega, show (4 : Nat) < 6 from by omega, show (5 : Nat) < 6 from by omega, if_true] at z0 z1 z2 z3 z4 z5
      obtain ⟨z0, _⟩ := z0
      obtain ⟨z1, _⟩ := z1
      obtain ⟨z2, _⟩ := z2
      obtain ⟨z3, _⟩ := z3
      obtain ⟨z4, _⟩ := z4
      obtain ⟨z5, _⟩ := z5
      have y0 := HD.out 0 (by omega)
      have y1 := HD.out 1 (by omega)
      have y2 := HD.out 2 (by omega)
      have y3 := HD.out 3 (by omega)
      have k0 : wr.cell? ⟨w.heap.size, 0, none⟩ = some (.int .i64 0) := (bW.cell (p := ⟨w.heap.size, 0, none⟩) (by simp)).trans y0.1
      have k1 : wr.cell? ⟨w.heap.size, 1, none⟩ = some (.int .i64 0) := (bW.cell (p := ⟨w.heap.size, 1, none⟩) (by simp)).trans y1.1
      have k2 : wr.cell? ⟨w.heap.size, 2, none⟩ = some (.int .i64 0) := (bW.cell (p := ⟨w.heap.size, 2, none⟩) (by simp)).trans y2.1
      have k3 : wr.cell? ⟨w.heap.size, 3, none⟩ = some (.string ⟨#[]⟩) := (bW.cell (p := ⟨w.heap.size, 3, none⟩) (by simp)).trans y3.1
      have j0 : wr.frozen? ⟨w.heap.size, 0, none⟩ = false := (bW.frozen (p := ⟨w.heap.size, 0, none⟩) (by simp)).trans y0.2
      have j1 : wr.frozen? ⟨w.heap.size, 1, none⟩ = false := (bW.frozen (p := ⟨w.heap.size, 1, none⟩) (by simp)).trans y1.2
      have j2 : wr.frozen? ⟨w.heap.size, 2, none⟩ = false := (bW.frozen (p := ⟨w.heap.size, 2, none⟩) (by simp)).trans y2.2
      have j3 : wr.frozen? ⟨w.heap.size, 3, none⟩ = false := (bW.frozen (p := ⟨w.heap.size, 3, none⟩) (by simp)).trans y3.2
      have lt0 : w.heap.size < wr.heap.size := by have := bW.size; simp at this; omega
      have bw : Below w.heap.size w wr := Below.trans (by repeat' (first | (with_reducible exact Below.refl _ _) | (with_reducible assumption) | (with_reducible refine below_drewN ?_ _) | (with_reducible refine Below.alloc ?_ ?_ _) | (with_reducible refine Below.drew ?_) | (with_reducible refine Below.setCell ?_ ?_ _) | go_size)) (bW.mono (by omega))
      clear y0 y1 y2 y3 hz hlt hq
      by_cases h24 : s.length < 24
      · have hst := stR_none (q := 6) H4.out (by omega)
        rw [hst] at hR
        have he : readV s = .tuple #[headV 0 0 0 [], .int .i64 4] := by
          have he : readE s = 4 := if_neg (fun h => by simp only [Bool.and_eq_true, decide_eq_true_eq] at h; omega)
          unfold readV readC readX readP readB
          rw [he]
          rfl
        have HE := Lib.hid he
        clear hst he
        go_wp2_with fail
        refine (OK_any _ hR).mono ?_; rintro e w' ⟨rfl, rfl⟩
        go_wp2_with fail
        ((try simp only [Exit.inBlock, Exit.then]); refine bodyPost_ret (by simp [results, Try.results13, go_sem, k0, k1, k2, k3, lt0]; try rfl) rfl ?_)
        exact ⟨HE.out.symm ▸ rfl, by repeat' (first | (with_reducible exact Below.refl _ _) | (with_reducible assumption) | (with_reducible refine below_drewN ?_ _) | (with_reducible refine Below.alloc ?_ ?_ _) | (with_reducible refine Below.drew ?_) | (with_reducible refine Below.setCell ?_ ?_ _) | go_size)⟩
      have h24' : 24 ≤ s.length := by omega
      rw [stR_some (by omega)] at hR
      rw [wr_eq (by omega)] at z0 z1 z2 z3 z4 z5
      have hbase : (decide (s.length ≤ 4096) && decide (s.length % 4 = 0) && decide (24 ≤ s.length)) = true := by
        have := H4.out
        simp
        omega
      have HBs := Lib.hid hbase
      have b5 := wd_bounds s 5
      clear hbase h1 h2
      have bad4 : (wd s 1 ≠ 0 ∨ isC (wd s 4) = false) → readV s = .tuple #[headV 0 0 0 [], .int .i64 4] := by
        intro hb
        have he : readE s = 4 := if_neg (fun h => by
          simp only [Bool.and_eq_true, decide_eq_true_eq] at h
          rcases hb with hb | hb
          · exact hb h.1.2
          · rw [h.2] at hb; cases hb)
        unfold readV readC readX readP readB
        rw [he]
        rfl
      have BAD := Lib.hid bad4
      have HCl := fun W : World => client_any (wd s 4) W
      by_cases hw1 : wd s 1 = 0
      · cases hcl : isC (wd s 4)
        · rw [hcl] at HCl
          have GC := Lib.hid HCl
          have he := Lib.hid (BAD.out (.inr hcl))
          clear bad4 HCl hcl
          rw [hw1] at z1
          go_wp2_with fail
          refine (OK_any _ hR).mono ?_; rintro e w' ⟨rfl, rfl⟩
          go_wp2_with fail
          refine (GC.out _).mono ?_; rintro e w' ⟨rfl, rfl⟩
          go_wp2_with fail
          ((try simp only [Exit.inBlock, Exit.then]); refine bodyPost_ret (by simp [results, Try.results13, go_sem, k0, k1, k2, k3, lt0]; try rfl) rfl ?_)
          exact ⟨he.out.symm ▸ rfl, by repeat' (first | (with_reducible exact Below.refl _ _) | (with_reducible assumption) | (with_reducible refine below_drewN ?_ _) | (with_reducible refine Below.alloc ?_ ?_ _) | (with_reducible refine Below.drew ?_) | (with_reducible refine Below.setCell ?_ ?_ _) | go_size)⟩
        · have good : readE s = if wd s 2 = 284 ∧ wd s 3 = 3 then (if wd s 5 < 19 then 0 else 62) else 63 := if_pos (by rw [HBs.out, hcl, hw1]; rfl)
          have GOOD := Lib.hid good
          rw [hcl] at HCl
          have GC := Lib.hid HCl
          clear bad4 HCl hcl good
          rw [hw1] at z1
          have vals : ∀ e, readE s = e → e ≠ 4 → e ≠ 0 → readV s = .tuple #[headV (wd s 4) (wd s 0) (wd s 5) [], .int .i64 e] := by
            intro e he h4 h0
            unfold readV readC readX readP readB
            rw [he, if_neg h4, if_neg h4, if_neg h4, if_neg h0]
          have VALS := Lib.hid vals
          clear vals hw1
          by_cases e2 : wd s 2 = 284
          · rw [e2] at z2
            by_cases e3 : wd s 3 = 3
            · rw [e3] at z3
              by_cases e5 : wd s 5 < 19
              · have hE : readE s = 0 := by rw [GOOD.out, if_pos ⟨e2, e3⟩, if_pos e5]
                have hV : readV s = .tuple #[headV (wd s 4) (wd s 0) (wd s 5) (s.drop 24), .int .i64 0] := by
                  unfold readV readC readX readP readB
                  rw [hE]
                  rfl
                have HVV := Lib.hid hV
                have hfx : fixR ((s.length - 24 : Nat) : Int) (some (s.drop (4 * 6))) = (s.drop 24, some []) := by
                  have hp : padN (s.drop 24).length = 0 := by
                    have := H4.out
                    unfold padN
                    simp
                    omega
                  have hz : (s.drop 24) = fixB (s.drop 24) ++ [] := by
                    unfold fixB
                    rw [hp]
                    simp [zeros]
                  rw [show s.length - 24 = (s.drop 24).length from by simp]
                  show fixR ((s.drop 24).length : Int) (some (s.drop 24)) = _
                  conv => lhs; rw [show (some (s.drop 24)) = some (fixB (s.drop 24) ++ []) from congrArg some hz]
                  exact fixR_fix _ _
                have HFX := Lib.hid hfx
                have e5' : decide (19 ≤ wd s 5) = false := decide_eq_false (by omega)
                clear hE hV hfx e2 e3 e5
                go_wp2_with fail
                refine (OK_any _ hR).mono ?_; rintro e w' ⟨rfl, rfl⟩
                go_wp2_with fail
                refine (GC.out _).mono ?_; rintro e w' ⟨rfl, rfl⟩
                go_wp2_with fail
                have hgw : wr.heap.size ≠ g := by omega
                have hgw0 : w.heap.size ≠ g := by omega
                refine (Left_any _ (hR.below (by repeat' (first | (with_reducible exact Below.refl _ _) | (with_reducible assumption) | (with_reducible refine below_drewN ?_ _) | (with_reducible refine Below.alloc ?_ ?_ _) | (with_reducible refine Below.drew ?_) | (with_reducible refine Below.setCell ?_ ?_ _) | go_size)))).mono ?_; rintro e w' ⟨rfl, rfl⟩
                go_wp2_with fail
                refine (rFixed_any _ _ (hR.below (by repeat' (first | (with_reducible exact Below.refl _ _) | (with_reducible assumption) | (with_reducible refine below_drewN ?_ _) | (with_reducible refine Below.alloc ?_ ?_ _) | (with_reducible refine Below.drew ?_) | (with_reducible refine Below.setCell ?_ ?_ _) | go_size))) (by omega)).mono ?_; rintro e w4 ⟨rfl, h4, g4⟩
                rw [HFX.out]
                have q0 : w4.cell? ⟨wr.heap.size, 0, none⟩ = some (.int .i64 (wd s 4)) := g4.cell (cell_new wr #[.int .i64 (wd s 4), .int .i64 (wd s 0), .int .i64 (wd s 5), .string ⟨#[]⟩] _ wr.heap.size 0 rfl) (fun e => hgw (Option.some.inj e))
                have q1 : w4.cell? ⟨wr.heap.size, 1, none⟩ = some (.int .i64 (wd s 0)) := g4.cell (cell_new wr #[.int .i64 (wd s 4), .int .i64 (wd s 0), .int .i64 (wd s 5), .string ⟨#[]⟩] _ wr.heap.size 1 rfl) (fun e => hgw (Option.some.inj e))
                have q2 : w4.cell? ⟨wr.heap.size, 2, none⟩ = some (.int .i64 (wd s 5)) := g4.cell (cell_new wr #[.int .i64 (wd s 4), .int .i64 (wd s 0), .int .i64 (wd s 5), .string ⟨#[]⟩] _ wr.heap.size 2 rfl) (fun e => hgw (Option.some.inj e))
                have q3 : w4.cell? ⟨wr.heap.size, 3, none⟩ = some (.string ⟨#[]⟩) := g4.cell (cell_new wr #[.int .i64 (wd s 4), .int .i64 (wd s 0), .int .i64 (wd s 5), .string ⟨#[]⟩] _ wr.heap.size 3 rfl) (fun e => hgw (Option.some.inj e))
                have f3 : w4.frozen? ⟨wr.heap.size, 3, none⟩ = false := (World.frozen?_of_block (a := ⟨wr.heap.size, 3, none⟩) (g4.block wr.heap.size (by simp) (fun e => hgw (Option.some.inj e)))).trans (frozen_new _ _ _ _)
                have lt1 : w.heap.size < (wr.alloc (.cells #[.int .i64 (wd s 4), .int .i64 (wd s 0), .int .i64 (wd s 5), .string ⟨#[]⟩] 29)).heap.size := by simp; omega
                have old : ∀ j x, wr.cell? ⟨w.heap.size, j, none⟩ = some x → wr.frozen? ⟨w.heap.size, j, none⟩ = false → w4.cell? ⟨w.heap.size, j, none⟩ = some x ∧ w4.frozen? ⟨w.heap.size, j, none⟩ = false := fun j x h1 h2 =>
                  ⟨g4.cell ((World.cell?_alloc_lt _ _ _ lt0).trans h1) (fun e => hgw0 (Option.some.inj e)), (World.frozen?_of_block (a := ⟨w.heap.size, j, none⟩) (g4.block w.heap.size lt1 (fun e => hgw0 (Option.some.inj e)))).trans ((World.frozen?_alloc_past _ _ _ lt0).trans h2)⟩
                obtain ⟨p0, o0⟩ := old _ _ k0 j0
                obtain ⟨p1, o1⟩ := old _ _ k1 j1
                obtain ⟨p2, o2⟩ := old _ _ k2 j2
                obtain ⟨p3, o3⟩ := old _ _ k3 j3
                have lt4 : w.heap.size < w4.heap.size := Nat.lt_of_lt_of_le lt1 g4.size
                have b4 : Below w.heap.size w w4 := below_by (by repeat' (first | (with_reducible exact Below.refl _ _) | (with_reducible assumption) | (with_reducible refine below_drewN ?_ _) | (with_reducible refine Below.alloc ?_ ?_ _) | (with_reducible refine Below.drew ?_) | (with_reducible refine Below.setCell ?_ ?_ _) | go_size)) g4 (by simp; omega) (by omega)
                clear old k0 k1 k2 k3 j0 j1 j2 j3
                go_wp2_with fail
                ((try simp only [Exit.inBlock, Exit.then]); refine bodyPost_ret (by simp [results, Try.results13, go_sem, p0, p1, p2, p3, lt4]; try rfl) rfl ?_)
                exact ⟨HVV.out.symm ▸ rfl, by repeat' (first | (with_reducible exact Below.refl _ _) | (with_reducible assumption) | (with_reducible refine below_drewN ?_ _) | (with_reducible refine Below.alloc ?_ ?_ _) | (with_reducible refine Below.drew ?_) | (with_reducible refine Below.setCell ?_ ?_ _) | go_size)⟩
              · have he := Lib.hid (VALS.out 62 (by rw [GOOD.out, if_pos ⟨e2, e3⟩, if_neg e5]) (by decide) (by decide))
                have e5' : 19 ≤ wd s 5 := by omega
                clear e2 e3 e5
                go_wp2_with fail
                refine (OK_any _ hR).mono ?_; rintro e w' ⟨rfl, rfl⟩
                go_wp2_with fail
                refine (GC.out _).mono ?_; rintro e w' ⟨rfl, rfl⟩
                go_wp2_with fail
                ((try simp only [Exit.inBlock, Exit.then]); refine bodyPost_ret (by simp [results, Try.results13, go_sem, k0, k1, k2, k3, lt0]; try rfl) rfl ?_)
                exact ⟨he.out.symm ▸ rfl, by repeat' (first | (with_reducible exact Below.refl _ _) | (with_reducible assumption) | (with_reducible refine below_drewN ?_ _) | (with_reducible refine Below.alloc ?_ ?_ _) | (with_reducible refine Below.drew ?_) | (with_reducible refine Below.setCell ?_ ?_ _) | go_size)⟩
            · have he := Lib.hid (VALS.out 63 (by rw [GOOD.out, if_neg (fun h => e3 h.2)]) (by decide) (by decide))
              have e3' : (wd s 3 != 3) = true := by rw [bne_iff_ne]; exact e3
              clear e2 e3
              go_wp2_with fail
              refine (OK_any _ hR).mono ?_; rintro e w' ⟨rfl, rfl⟩
              go_wp2_with fail
              refine (GC.out _).mono ?_; rintro e w' ⟨rfl, rfl⟩
              go_wp2_with fail
              ((try simp only [Exit.inBlock, Exit.then]); refine bodyPost_ret (by simp [results, Try.results13, go_sem, k0, k1, k2, k3, lt0]; try rfl) rfl ?_)
              exact ⟨he.out.symm ▸ rfl, by repeat' (first | (with_reducible exact Below.refl _ _) | (with_reducible assumption) | (with_reducible refine below_drewN ?_ _) | (with_reducible refine Below.alloc ?_ ?_ _) | (with_reducible refine Below.drew ?_) | (with_reducible refine Below.setCell ?_ ?_ _) | go_size)⟩
          · have he := Lib.hid (VALS.out 63 (by rw [GOOD.out, if_neg (fun h => e2 h.1)]) (by decide) (by decide))
            have e2' : (wd s 2 != 284) = true := by rw [bne_iff_ne]; exact e2
            clear e2
            go_wp2_with fail
            refine (OK_any _ hR).mono ?_; rintro e w' ⟨rfl, rfl⟩
            go_wp2_with fail
            refine (GC.out _).mono ?_; rintro e w' ⟨rfl, rfl⟩
            go_wp2_with fail
            ((try simp only [Exit.inBlock, Exit.then]); refine bodyPost_ret (by simp [results, Try.results13, go_sem, k0, k1, k2, k3, lt0]; try rfl) rfl ?_)
            exact ⟨he.out.symm ▸ rfl, by repeat' (first | (with_reducible exact Below.refl _ _) | (with_reducible assumption) | (with_reducible refine below_drewN ?_ _) | (with_reducible refine Below.alloc ?_ ?_ _) | (with_reducible refine Below.drew ?_) | (with_reducible refine Below.setCell ?_ ?_ _) | go_size)⟩
      · have hw1' : (wd s 1 != 0) = true := by rw [bne_iff_ne]; exact hw1
        have he := Lib.hid (BAD.out (.inl hw1))
        clear bad4 HCl hw1
        go_wp2_with fail
        refine (OK_any _ hR).mono ?_; rintro e w' ⟨rfl, rfl⟩
        go_wp2_with fail
        ((try simp only [Exit.inBlock, Exit.then]); refine bodyPost_ret (by simp [results, Try.results13, go_sem, k0, k1, k2, k3, lt0]; try rfl) rfl ?_)
        exact ⟨he.out.symm ▸ rfl, by repeat' (first | (with_reducible exact Below.refl _ _) | (with_reducible assumption) | (with_reducible refine below_drewN ?_ _) | (with_reducible refine Below.alloc ?_ ?_ _) | (with_reducible refine Below.drew ?_) | (with_reducible refine Below.setCell ?_ ?_ _) | go_size)⟩
end Go.Proofs.Ytaobfidjnnhniaa
