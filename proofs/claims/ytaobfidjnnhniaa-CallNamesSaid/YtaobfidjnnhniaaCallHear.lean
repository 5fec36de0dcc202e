/- call.Hear: the answer of what comes. -/
import Derived.Test.YtaobfidjnnhniaaCallRead
namespace Go.Proofs.Ytaobfidjnnhniaa
set_option linter.unusedVariables false
set_option linter.unusedSimpArgs false
open Go.ChangeShapes Go.WideShapes Go.ChangeAt Go.RowKit Pl
attribute [local go_sem] ba_toList ba_size

theorem kept {w w' : World} {g b : Nat} (hb : w.grownBy w' (some g)) (hlt : b < w.heap.size) (hne : b ≠ g) (j : Nat) : w'.cell? ⟨b, j, none⟩ = w.cell? ⟨b, j, none⟩ ∧ w'.frozen? ⟨b, j, none⟩ = w.frozen? ⟨b, j, none⟩ :=
  ⟨World.cell?_of_block (a := ⟨b, j, none⟩) (hb.block b hlt (fun e => hne (Option.some.inj e))), World.frozen?_of_block (a := ⟨b, j, none⟩) (hb.block b hlt (fun e => hne (Option.some.inj e)))⟩

theorem stR_short {s : List UInt8} : ∀ {q : Nat}, s.length < 4 * q → stR s q = none
  | 0, h => by omega
  | q + 1, h => by
    show (wordR (stR s q)).2 = none
    by_cases hq : s.length < 4 * q
    · rw [stR_short hq]; rfl
    · rw [stR_some (by omega)]
      have : wordR (some (s.drop (4 * q))) = (0, none) := if_neg (by simp; omega)
      rw [this]

/-- Is it a reply? -/
def hearOK (s : List UInt8) : Bool := decide (12 ≤ s.length) && (wd s 1 == 1) && mayA (wd s 0) (wd s 2) (s.drop 12)
def hearE (s : List UInt8) : Int := if hearOK s = true then 0 else 4
def hearX (s : List UInt8) : Int := if hearOK s = true then wd s 0 else 0
def hearK (s : List UInt8) : Int := if hearOK s = true then wd s 2 else 0
def hearB (s : List UInt8) : List UInt8 := if hearOK s = true then s.drop 12 else []
abbrev hearV (s : List UInt8) : Value := .tuple #[ansV (hearX s) (hearK s) (hearB s), .int .i64 (hearE s)]

theorem hear_no {s : List UInt8} (h : hearOK s = false) : hearV s = .tuple #[ansV 0 0 [], .int .i64 4] := by
  unfold hearV hearX hearK hearB hearE
  rw [h]
  rfl
theorem hear_yes {s : List UInt8} (h : hearOK s = true) : hearV s = .tuple #[ansV (wd s 0) (wd s 2) (s.drop 12), .int .i64 0] := by
  unfold hearV hearX hearK hearB hearE
  rw [h]
  rfl
theorem fixR_all (l : List UInt8) : fixR (l.length : Int) (some l) = if l.length % 4 = 0 then (l, some []) else ([], none) := by
  by_cases h4 : l.length % 4 = 0
  · rw [if_pos h4]
    have hp : padN l.length = 0 := by unfold padN; omega
    have hz : l = fixB l ++ [] := by
      unfold fixB
      rw [hp]
      simp [zeros]
    conv => lhs; rw [show (some l) = some (fixB l ++ []) from congrArg some hz]
    exact fixR_fix _ _
  · rw [if_neg h4]
    refine if_neg (fun h => ?_)
    have hp : 0 < padN l.length := by unfold padN; omega
    have := h.2.1
    rw [Int.toNat_natCast] at this
    omega

set_option maxRecDepth 100000 in
set_option maxHeartbeats 3200000 in
theorem hear_any (s : List UInt8) (w : World) (hl : s.length ≤ 100000) :
    Calls Try.prog 15 #[sv s] w fun r w' => r = .returned (hearV s) ∧ Below w.heap.size w w' := by
  have hd : ∀ j, j < 3 → (w.alloc (.cells #[.int .i64 0, .int .i64 0, .string ⟨#[]⟩] 32)).cell? ⟨w.heap.size, j, none⟩ = (#[Value.int .i64 0, .int .i64 0, .string ⟨#[]⟩] : Array Value)[j]? ∧
      (w.alloc (.cells #[.int .i64 0, .int .i64 0, .string ⟨#[]⟩] 32)).frozen? ⟨w.heap.size, j, none⟩ = false := fun j _ => ⟨cell_new _ _ _ _ j rfl, frozen_new _ _ _ _⟩
  have HD := Lib.hid hd
  clear hd
  go_enter Try.func15, Try.ntmps15
  go_wp2_with (with_reducible refine wpList_bytes_of_string rfl _ rfl Try.underlying9 Try.underlying58 Try.underlying5 rfl ?_ ?_)
  · unfold maxLen; omega
  intro v1 w1 hr1 hw1 _
  have s1 : w.heap.size + 1 ≤ w1.heap.size := by have := hw1.size; simpa using this
  have hv1 := hr1.bytes
  go_wp2_with fail
  refine (NewReader_any _ s _ hv1 (by omega)).mono ?_; rintro r w2 ⟨g, h, rfl, rd, hw2, hg0, hh0, hg1, hh1⟩
  have c2 := hw1.trans (hw2.mono s1)
  have s2 := hw2.size
  go_wp2_with fail
  refine (rWord_any (r := stR s 0) _ rd).mono ?_; rintro e w3 ⟨rfl, h3, g3⟩
  have h3 : Rd w3 g h (stR s 1) := h3
  have e0 : ((wordR (stR s 0)).1 : Int) = wr? s 0 := rfl
  rw [e0]
  clear e0
  have s3 := g3.size
  have b0 := wr_bounds s 0
  have b1 := wr_bounds s 1
  have b2 := wr_bounds s 2
  have n0 : w3.heap.size ≠ g := by omega
  have m0 : w.heap.size ≠ g := by omega
  go_wp2_with fail
  refine (rWord_any (r := stR s 1) _ (h3.below (by repeat' (first | (with_reducible exact Below.refl _ _) | (with_reducible assumption) | (with_reducible refine below_drewN ?_ _) | (with_reducible refine Below.alloc ?_ ?_ _) | (with_reducible refine Below.drew ?_) | (with_reducible refine Below.setCell ?_ ?_ _) | go_size)))).mono ?_; rintro e w4 ⟨rfl, h4, g4⟩
  have h4 : Rd w4 g h (stR s 2) := h4
  have e1 : ((wordR (stR s 1)).1 : Int) = wr? s 1 := rfl
  rw [e1]
  clear e1
  have s4 : w3.heap.size + 1 ≤ w4.heap.size := by have := g4.size; simpa using this
  go_wp2_with fail
  refine (rWord_any (r := stR s 2) _ h4).mono ?_; rintro e w5 ⟨rfl, h5, g5⟩
  have h5 : Rd w5 g h (stR s 3) := h5
  have e2 : ((wordR (stR s 2)).1 : Int) = wr? s 2 := rfl
  rw [e2]
  clear e2
  have s5 := g5.size
  have k45 := gtrans g4 g5
  have z0 : w5.cell? ⟨w3.heap.size, 0, none⟩ = some (.int .i64 (wr? s 0)) := (kept k45 (by simp) n0 0).1.trans (cell_new _ _ _ _ 0 rfl)
  have z1 : w5.cell? ⟨w3.heap.size, 1, none⟩ = some (.int .i64 0) := (kept k45 (by simp) n0 1).1.trans (cell_new _ _ _ _ 1 rfl)
  have z2 : w5.cell? ⟨w3.heap.size, 2, none⟩ = some (.string ⟨#[]⟩) := (kept k45 (by simp) n0 2).1.trans (cell_new _ _ _ _ 2 rfl)
  have f0 : w5.frozen? ⟨w3.heap.size, 0, none⟩ = false := (kept k45 (by simp) n0 0).2.trans (frozen_new _ _ _ _)
  have f1 : w5.frozen? ⟨w3.heap.size, 1, none⟩ = false := (kept k45 (by simp) n0 1).2.trans (frozen_new _ _ _ _)
  have f2 : w5.frozen? ⟨w3.heap.size, 2, none⟩ = false := (kept k45 (by simp) n0 2).2.trans (frozen_new _ _ _ _)
  have old : ∀ j, j < 3 → w5.cell? ⟨w.heap.size, j, none⟩ = (#[Value.int .i64 0, .int .i64 0, .string ⟨#[]⟩] : Array Value)[j]? ∧ w5.frozen? ⟨w.heap.size, j, none⟩ = false := by
    intro j hj
    have a2 := c2.cell (p := ⟨w.heap.size, j, none⟩) (by simp)
    have a3 := c2.frozen (p := ⟨w.heap.size, j, none⟩) (by simp)
    have a4 := kept g3 (b := w.heap.size) (by omega) m0 j
    have a5 := kept k45 (b := w.heap.size) (by simp; omega) m0 j
    have a6 := HD.out j hj
    have lt3 : w.heap.size < w3.heap.size := by omega
    exact ⟨a5.1.trans ((World.cell?_alloc_lt _ _ _ lt3).trans (a4.1.trans (a2.trans a6.1))), a5.2.trans ((World.frozen?_alloc_past _ _ _ lt3).trans (a4.2.trans (a3.trans a6.2)))⟩
  obtain ⟨p0, o0⟩ := old 0 (by omega)
  obtain ⟨p1, o1⟩ := old 1 (by omega)
  obtain ⟨p2, o2⟩ := old 2 (by omega)
  have p0 : w5.cell? ⟨w.heap.size, 0, none⟩ = some (.int .i64 0) := p0
  have p1 : w5.cell? ⟨w.heap.size, 1, none⟩ = some (.int .i64 0) := p1
  have p2 : w5.cell? ⟨w.heap.size, 2, none⟩ = some (.string ⟨#[]⟩) := p2
  have ltb : w3.heap.size < w5.heap.size := by omega
  have lt0 : w.heap.size < w5.heap.size := by omega
  have nw : w.heap.size ≠ w3.heap.size := by omega
  have bw : Below w.heap.size w w5 := by
    have q2 : Below w.heap.size w w2 := Below.trans (by repeat' (first | (with_reducible exact Below.refl _ _) | (with_reducible assumption) | (with_reducible refine below_drewN ?_ _) | (with_reducible refine Below.alloc ?_ ?_ _) | (with_reducible refine Below.drew ?_) | (with_reducible refine Below.setCell ?_ ?_ _) | go_size)) (c2.mono (by omega))
    have q3 := below_by q2 g3 (by omega) (by omega)
    exact below_by (q3.alloc (by omega) _) k45 (by simp; omega) (by omega)
  clear old
  have hset : Rd (w5.setCell ⟨w3.heap.size, 1, none⟩ (.int .i64 (wr? s 2))) g h (stR s 3) :=
    h5.but (wb_set (World.grownBy.refl _ _) _ _) (fun e => n0 (Option.some.inj e).symm) (fun e => by have := Option.some.inj e; omega)
  have HSET := Lib.hid hset
  clear hset
  by_cases h12 : s.length < 12
  · have hst := stR_short (s := s) (q := 3) (by omega)
    have he := Lib.hid (hear_no (s := s) (by unfold hearOK; simp; omega))
    rw [hst] at h5 HSET
    clear hst
    go_wp2_with fail
    refine (OK_any _ HSET.out).mono ?_; rintro e w' ⟨rfl, rfl⟩
    go_wp2_with fail
    ((try simp only [Exit.inBlock, Exit.then]); refine bodyPost_ret (by simp [results, Try.results15, go_sem, p0, p1, p2, lt0]; try rfl) rfl ?_)
    exact ⟨he.out.symm ▸ rfl, by repeat' (first | (with_reducible exact Below.refl _ _) | (with_reducible assumption) | (with_reducible refine below_drewN ?_ _) | (with_reducible refine Below.alloc ?_ ?_ _) | (with_reducible refine Below.drew ?_) | (with_reducible refine Below.setCell ?_ ?_ _) | go_size)⟩
  have h12' : 12 ≤ s.length := by omega
  have hst := stR_some (s := s) (q := 3) (by omega)
  have v0 := wr_eq (s := s) (q := 0) (by omega)
  have v1' := wr_eq (s := s) (q := 1) (by omega)
  have v2 := wr_eq (s := s) (q := 2) (by omega)
  rw [hst, v2] at HSET
  rw [v0] at z0
  rw [v0] at b0
  rw [v1'] at b1
  rw [v2] at b2
  rw [v1', v2]
  clear hst v0 v1' v2 h5 h3 h4 rd
  by_cases hw1 : wd s 1 = 1
  · rw [hw1]
    go_wp2_with fail
    refine (OK_any _ HSET.out).mono ?_; rintro e w' ⟨rfl, rfl⟩
    go_wp2_with fail
    refine (Left_any _ HSET.out).mono ?_; rintro e w' ⟨rfl, rfl⟩
    have hx := fixR_all (s.drop (4 * 3))
    have hlen : (s.drop (4 * 3)).length = s.length - 12 := by simp
    have hlen' : (s.drop 12).length ≤ 9223372036854775807 := by simp; omega
    rw [hlen] at hx
    clear hlen
    have HX := Lib.hid hx
    clear hx
    go_wp2_with fail
    refine (rFixed_any _ _ HSET.out (by omega)).mono ?_; rintro e w6 ⟨rfl, h6, g6⟩
    rw [HX.out] at h6 ⊢
    have HM := fun W : World => amay_any (wd s 0) (wd s 2) (s.drop 12) W hlen'
    have k0 : w6.cell? ⟨w3.heap.size, 0, none⟩ = some (.int .i64 (wd s 0)) := (kept g6 (by simpa using ltb) n0 0).1.trans ((World.cell?_setCell_other _ _ _ _ (fun e => by cases e)).trans z0)
    have k1 : w6.cell? ⟨w3.heap.size, 1, none⟩ = some (.int .i64 (wd s 2)) := (kept g6 (by simpa using ltb) n0 1).1.trans (World.cell?_setCell_same _ _ _ z1)
    have k2 : w6.cell? ⟨w3.heap.size, 2, none⟩ = some (.string ⟨#[]⟩) := (kept g6 (by simpa using ltb) n0 2).1.trans ((World.cell?_setCell_other _ _ _ _ (fun e => by cases e)).trans z2)
    have j2 : w6.frozen? ⟨w3.heap.size, 2, none⟩ = false := (kept g6 (by simpa using ltb) n0 2).2.trans (by simpa using f2)
    have P : ∀ j x, w5.cell? ⟨w.heap.size, j, none⟩ = some x → w5.frozen? ⟨w.heap.size, j, none⟩ = false → w6.cell? ⟨w.heap.size, j, none⟩ = some x ∧ w6.frozen? ⟨w.heap.size, j, none⟩ = false := fun j x h1 h2 =>
      ⟨(kept g6 (by simpa using lt0) m0 j).1.trans ((World.cell?_setCell_other _ _ _ _ (fun e => nw (congrArg Addr.block e).symm)).trans h1), (kept g6 (by simpa using lt0) m0 j).2.trans (by simpa using h2)⟩
    obtain ⟨q0, i0⟩ := P 0 _ p0 o0
    obtain ⟨q1, i1⟩ := P 1 _ p1 o1
    obtain ⟨q2, i2⟩ := P 2 _ p2 o2
    have lt6 : w.heap.size < w6.heap.size := by have := g6.size; simp at this; omega
    have ltc : w3.heap.size < w6.heap.size := by have := g6.size; simp at this; omega
    have bw6 : Below w.heap.size w w6 := below_by (by repeat' (first | (with_reducible exact Below.refl _ _) | (with_reducible assumption) | (with_reducible refine below_drewN ?_ _) | (with_reducible refine Below.alloc ?_ ?_ _) | (with_reducible refine Below.drew ?_) | (with_reducible refine Below.setCell ?_ ?_ _) | go_size)) g6 (by simp; omega) (by omega)
    clear P z0 z1 z2 f0 f1 f2 p0 p1 p2 o0 o1 o2 HSET HD
    by_cases h4 : (s.length - 12) % 4 = 0
    · rw [if_pos h4] at h6 ⊢
      have hh := h6.but (wb_set (World.grownBy.refl w6 (some w3.heap.size)) 2 (sv (s.drop 12))) (fun e => n0 (Option.some.inj e).symm) (fun e => by have := Option.some.inj e; omega)
      have HH := Lib.hid hh
      clear hh h6
      cases hm : mayA (wd s 0) (wd s 2) (s.drop 12)
      · have he := Lib.hid (hear_no (s := s) (by unfold hearOK; rw [hm]; simp))
        rw [hm] at HM
        have GM := Lib.hid HM
        clear HM hm
        go_wp2_with fail
        refine (OK_any _ HH.out).mono ?_; rintro e w' ⟨rfl, rfl⟩
        go_wp2_with fail
        refine (GM.out _).mono ?_; rintro r w7 ⟨rfl, hw7⟩
        have P : ∀ j x, w6.cell? ⟨w.heap.size, j, none⟩ = some x → w6.frozen? ⟨w.heap.size, j, none⟩ = false → w7.cell? ⟨w.heap.size, j, none⟩ = some x ∧ w7.frozen? ⟨w.heap.size, j, none⟩ = false := fun j x h1 h2 =>
          ⟨(hw7.cell (p := ⟨w.heap.size, j, none⟩) (by simpa using lt6)).trans ((World.cell?_setCell_other _ _ _ _ (fun e => nw (congrArg Addr.block e).symm)).trans h1), (hw7.frozen (p := ⟨w.heap.size, j, none⟩) (by simpa using lt6)).trans (by simpa using h2)⟩
        obtain ⟨x0, y0⟩ := P 0 _ q0 i0
        obtain ⟨x1, y1⟩ := P 1 _ q1 i1
        obtain ⟨x2, y2⟩ := P 2 _ q2 i2
        have u0 : w7.cell? ⟨w3.heap.size, 0, none⟩ = some (.int .i64 (wd s 0)) := (hw7.cell (p := ⟨w3.heap.size, 0, none⟩) (by simpa using ltc)).trans ((World.cell?_setCell_other _ _ _ _ (fun e => by cases e)).trans k0)
        have u1 : w7.cell? ⟨w3.heap.size, 1, none⟩ = some (.int .i64 (wd s 2)) := (hw7.cell (p := ⟨w3.heap.size, 1, none⟩) (by simpa using ltc)).trans ((World.cell?_setCell_other _ _ _ _ (fun e => by cases e)).trans k1)
        have u2 : w7.cell? ⟨w3.heap.size, 2, none⟩ = some (sv (s.drop 12)) := (hw7.cell (p := ⟨w3.heap.size, 2, none⟩) (by simpa using ltc)).trans (World.cell?_setCell_same _ _ _ k2)
        have lt7 : w.heap.size < w7.heap.size := by have := hw7.size; simp at this; omega
        have bw7 : Below w.heap.size w w7 := Below.trans (by repeat' (first | (with_reducible exact Below.refl _ _) | (with_reducible assumption) | (with_reducible refine below_drewN ?_ _) | (with_reducible refine Below.alloc ?_ ?_ _) | (with_reducible refine Below.drew ?_) | (with_reducible refine Below.setCell ?_ ?_ _) | go_size)) (hw7.mono (by simp; omega))
        clear P k0 k1 k2 j2 q0 q1 q2 i0 i1 i2 HH
        go_wp2_with fail
        ((try simp only [Exit.inBlock, Exit.then]); refine bodyPost_ret (by simp [results, Try.results15, go_sem, x0, x1, x2, lt7]; try rfl) rfl ?_)
        exact ⟨he.out.symm ▸ rfl, by repeat' (first | (with_reducible exact Below.refl _ _) | (with_reducible assumption) | (with_reducible refine below_drewN ?_ _) | (with_reducible refine Below.alloc ?_ ?_ _) | (with_reducible refine Below.drew ?_) | (with_reducible refine Below.setCell ?_ ?_ _) | go_size)⟩
      · have he := Lib.hid (hear_yes (s := s) (by unfold hearOK; rw [hm, hw1]; simp; omega))
        rw [hm] at HM
        have GM := Lib.hid HM
        clear HM hm
        go_wp2_with fail
        refine (OK_any _ HH.out).mono ?_; rintro e w' ⟨rfl, rfl⟩
        go_wp2_with fail
        refine (GM.out _).mono ?_; rintro r w7 ⟨rfl, hw7⟩
        have P : ∀ j x, w6.cell? ⟨w.heap.size, j, none⟩ = some x → w6.frozen? ⟨w.heap.size, j, none⟩ = false → w7.cell? ⟨w.heap.size, j, none⟩ = some x ∧ w7.frozen? ⟨w.heap.size, j, none⟩ = false := fun j x h1 h2 =>
          ⟨(hw7.cell (p := ⟨w.heap.size, j, none⟩) (by simpa using lt6)).trans ((World.cell?_setCell_other _ _ _ _ (fun e => nw (congrArg Addr.block e).symm)).trans h1), (hw7.frozen (p := ⟨w.heap.size, j, none⟩) (by simpa using lt6)).trans (by simpa using h2)⟩
        obtain ⟨x0, y0⟩ := P 0 _ q0 i0
        obtain ⟨x1, y1⟩ := P 1 _ q1 i1
        obtain ⟨x2, y2⟩ := P 2 _ q2 i2
        have u0 : w7.cell? ⟨w3.heap.size, 0, none⟩ = some (.int .i64 (wd s 0)) := (hw7.cell (p := ⟨w3.heap.size, 0, none⟩) (by simpa using ltc)).trans ((World.cell?_setCell_other _ _ _ _ (fun e => by cases e)).trans k0)
        have u1 : w7.cell? ⟨w3.heap.size, 1, none⟩ = some (.int .i64 (wd s 2)) := (hw7.cell (p := ⟨w3.heap.size, 1, none⟩) (by simpa using ltc)).trans ((World.cell?_setCell_other _ _ _ _ (fun e => by cases e)).trans k1)
        have u2 : w7.cell? ⟨w3.heap.size, 2, none⟩ = some (sv (s.drop 12)) := (hw7.cell (p := ⟨w3.heap.size, 2, none⟩) (by simpa using ltc)).trans (World.cell?_setCell_same _ _ _ k2)
        have lt7 : w.heap.size < w7.heap.size := by have := hw7.size; simp at this; omega
        have bw7 : Below w.heap.size w w7 := Below.trans (by repeat' (first | (with_reducible exact Below.refl _ _) | (with_reducible assumption) | (with_reducible refine below_drewN ?_ _) | (with_reducible refine Below.alloc ?_ ?_ _) | (with_reducible refine Below.drew ?_) | (with_reducible refine Below.setCell ?_ ?_ _) | go_size)) (hw7.mono (by simp; omega))
        clear P k0 k1 k2 j2 q0 q1 q2 i0 i1 i2 HH
        go_wp2_with fail
        ((try simp only [Exit.inBlock, Exit.then]); refine bodyPost_ret (by simp [results, Try.results15, go_sem, x0, x1, x2, lt7]; try rfl) rfl ?_)
        exact ⟨he.out.symm ▸ rfl, by repeat' (first | (with_reducible exact Below.refl _ _) | (with_reducible assumption) | (with_reducible refine below_drewN ?_ _) | (with_reducible refine Below.alloc ?_ ?_ _) | (with_reducible refine Below.drew ?_) | (with_reducible refine Below.setCell ?_ ?_ _) | go_size)⟩
    · rw [if_neg h4] at h6 ⊢
      have hh := h6.but (wb_set (World.grownBy.refl w6 (some w3.heap.size)) 2 (sv [])) (fun e => n0 (Option.some.inj e).symm) (fun e => by have := Option.some.inj e; omega)
      have HH := Lib.hid hh
      have he := Lib.hid (hear_no (s := s) (by unfold hearOK mayA; have : ((((s.drop 12).length : Nat) : Int) % 4 == 0) = false := by (rw [beq_eq_false_iff_ne]; simp; omega)
                                               rw [this]; simp))
      clear hh h6
      go_wp2_with fail
      refine (OK_any _ HH.out).mono ?_; rintro e w' ⟨rfl, rfl⟩
      go_wp2_with fail
      ((try simp only [Exit.inBlock, Exit.then]); refine bodyPost_ret (by simp [results, Try.results15, go_sem, q0, q1, q2, lt6]; try rfl) rfl ?_)
      exact ⟨he.out.symm ▸ rfl, by repeat' (first | (with_reducible exact Below.refl _ _) | (with_reducible assumption) | (with_reducible refine below_drewN ?_ _) | (with_reducible refine Below.alloc ?_ ?_ _) | (with_reducible refine Below.drew ?_) | (with_reducible refine Below.setCell ?_ ?_ _) | go_size)⟩
  · have hw1' : (wd s 1 != 1) = true := by rw [bne_iff_ne]; exact hw1
    have he := Lib.hid (hear_no (s := s) (by unfold hearOK; rw [beq_eq_false_iff_ne.2 hw1]; simp))
    clear hw1
    go_wp2_with fail
    refine (OK_any _ HSET.out).mono ?_; rintro e w' ⟨rfl, rfl⟩
    go_wp2_with fail
    ((try simp only [Exit.inBlock, Exit.then]); refine bodyPost_ret (by simp [results, Try.results15, go_sem, p0, p1, p2, lt0]; try rfl) rfl ?_)
    exact ⟨he.out.symm ▸ rfl, by repeat' (first | (with_reducible exact Below.refl _ _) | (with_reducible assumption) | (with_reducible refine below_drewN ?_ _) | (with_reducible refine Below.alloc ?_ ?_ _) | (with_reducible refine Below.drew ?_) | (with_reducible refine Below.setCell ?_ ?_ _) | go_size)⟩
end Go.Proofs.Ytaobfidjnnhniaa
