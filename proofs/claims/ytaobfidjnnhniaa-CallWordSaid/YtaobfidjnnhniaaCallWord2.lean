/- CallWord: another word in the place of one of the first six changes just what it says: for every head, place and word the law returns true. Conditions: none. -/
import Derived.Test.YtaobfidjnnhniaaCallWord
namespace Go.Proofs.Ytaobfidjnnhniaa
set_option linter.unusedVariables false
set_option linter.unusedSimpArgs false
open Go.ChangeShapes Go.WideShapes Go.ChangeAt Go.RowKit Pl
attribute [local go_sem] ba_toList ba_size ba_app

theorem slice_sv_l {P : Program} {t : TypeId} (ht : P.underlying t = some .string) (l : List UInt8) (i : Nat) (hi : i ≤ l.length) (w : World) :
    (Instr.slice t (.string ⟨l.toArray⟩) (some (.int .i64 (i : Int))) none none).run P w = .ok (.string ⟨(l.drop i).toArray⟩) w := by
  rw [run_slice_string_l w t ⟨l.toArray⟩ ht .i64 i (by omega) (by rw [ba_size]; omega), ba_size, ba_extract, List.take_of_length_le (by simp), Int.toNat_natCast]

theorem umod6 (a : Int) : ∃ k : Nat, wrap64 ((IntKind.u64.wrap a).tmod 6) = (k : Int) ∧ k < 6 := by
  have hn : 0 ≤ IntKind.u64.wrap a := by rw [IntKind.wrap_u64]; omega
  have hl := Int.emod_lt_of_pos (IntKind.u64.wrap a) (b := 6) (by omega)
  have hg := Int.emod_nonneg (IntKind.u64.wrap a) (b := 6) (by omega)
  refine ⟨(IntKind.u64.wrap a % 6).toNat, ?_, by omega⟩
  rw [Int.tmod_eq_emod_of_nonneg hn, IntWalk.wrap64_in _ (by omega)]
  omega

theorem cw_read {a b c d e f : Nat} (ha : a < 4294967296) (hb : b < 4294967296) (hc : c < 4294967296) (hd : d < 4294967296) (he : e < 4294967296) (hf : f < 4294967296) {r : List UInt8} (hr : r.length % 4 = 0) (hl : r.length ≤ 4072) (E : Int)
    (hE : (if b = 0 ∧ isC (e : Int) = true then (if c = 284 ∧ d = 3 then (if f < 19 then (0 : Int) else 62) else 63) else 4) = E) :
    readV (callW a b c d e f r) = .tuple #[headV (if E = 4 then 0 else (e : Int)) (if E = 4 then 0 else (a : Int)) (if E = 4 then 0 else (f : Int)) (if E = 0 then r else []), .int .i64 E] :=
  readV_six ha hb hc hd he hf ((readE_six ha hb hc hd he hf hr hl).trans hE)

set_option maxRecDepth 100000 in
set_option maxHeartbeats 3200000 in
theorem cword_go (c x p : Int) (l : List UInt8) (at_ v : Int) (w : World) (hE : callE c x p l = 0) (hp : ¬ 19 ≤ p) (hv0 : 0 ≤ v) (hv1 : v < 4294967296) (t1 : ¬ (5000 : Int) < (l.length : Int)) :
    Calls Try.prog 5 #[headV c x p l, .int .i64 at_, .int .u32 v] w fun r w' => r = .returned (.bool true) ∧ Below w.heap.size w w' := by
  obtain ⟨a1, a2, a3, a4, a5, a6⟩ := callE_ok hE
  have hC := a1
  have a1 := isC_bounds a1
  have a2 := isW_bounds a2
  have a3 := isW_bounds a3
  obtain ⟨c, rfl⟩ := Int.eq_ofNat_of_zero_le (by omega : 0 ≤ c)
  obtain ⟨x, rfl⟩ := Int.eq_ofNat_of_zero_le (by omega : 0 ≤ x)
  obtain ⟨p, rfl⟩ := Int.eq_ofNat_of_zero_le (by omega : 0 ≤ p)
  obtain ⟨v, rfl⟩ := Int.eq_ofNat_of_zero_le hv0
  have hS : callS (c : Int) (x : Int) (p : Int) l = callW x 0 284 3 c p l := by
    rw [a6, callB_eq]; rfl
  have hSl : (callW x 0 284 3 c p l).length = 24 + l.length := by unfold callW; simp; omega
  obtain ⟨k, hk, hk6⟩ := umod6 at_
  have CA : ∀ W : World, Calls Try.prog 9 #[headV (c : Int) (x : Int) (p : Int) l] W fun r w' => r = .returned (.tuple #[sv (callW x 0 284 3 c p l), .int .i64 0]) ∧ Below W.heap.size W w' := fun W => by
    have := cWrite_any (c : Int) (x : Int) (p : Int) l W (by omega)
    rwa [hE, hS] at this
  have WB : ∀ (V : Value) (W : World), IntsV W V [(v : Int)] → Calls Try.prog 18 #[V] W fun r w' => r = .returned (sv (be 4 v)) ∧ Below W.heap.size W w' := fun V W h => by
    have := words_any V [(v : Int)] W h (by simp)
    rwa [show wordsB [(v : Int)] = be 4 v from by unfold wordsB; simp [show ((v : Int) % 4294967296).toNat = v from by omega]] at this
  have hs1 : ∀ W, (Instr.slice 9 (sv (callW x 0 284 3 c p l)) none (some (.int .i64 (4 * (k : Int)))) none).run Try.prog W = .ok (sv ((callW x 0 284 3 c p l).take (4 * k))) W := fun W => by
    have := slice_sv_h (P := Try.prog) Try.underlying9 (callW x 0 284 3 c p l) (4 * k) (by omega) W
    rwa [show ((4 * k : Nat) : Int) = 4 * (k : Int) from by omega] at this
  have hs2 : ∀ W, (Instr.slice 9 (sv (callW x 0 284 3 c p l)) (some (.int .i64 (4 * (k : Int) + 4))) none none).run Try.prog W = .ok (sv ((callW x 0 284 3 c p l).drop (4 * k + 4))) W := fun W => by
    have := slice_sv_l (P := Try.prog) Try.underlying9 (callW x 0 284 3 c p l) (4 * k + 4) (by omega) W
    rwa [show ((4 * k + 4 : Nat) : Int) = 4 * (k : Int) + 4 from by omega] at this
  have hA : ((callW x 0 284 3 c p l).take (4 * k)).length ≤ 5000 := by simp; omega
  have hD : ((callW x 0 284 3 c p l).drop (4 * k + 4)).length ≤ 5000 := by simp; omega
  have fin : ∀ (s : List UInt8), (callW x 0 284 3 c p l).take (4 * k) ++ (be 4 v ++ (callW x 0 284 3 c p l).drop (4 * k + 4)) = s → ∀ (c1 x1 p1 e1 : Int) (l1 : List UInt8), readV s = .tuple #[headV c1 x1 p1 l1, .int .i64 e1] →
      ((k = 0 → e1 = 0 ∧ eqD c1 x1 p1 l1 c v p l = true) ∧
      (k = 1 → ((v : Int) = 0 → e1 = 0 ∧ eqD c1 x1 p1 l1 c x p l = true) ∧ ((v : Int) ≠ 0 → e1 = 4)) ∧
      (k = 2 → ((v : Int) = 284 → e1 = 0) ∧ ((v : Int) ≠ 284 → e1 = 63)) ∧
      (k = 3 → ((v : Int) = 3 → e1 = 0) ∧ ((v : Int) ≠ 3 → e1 = 63)) ∧
      (k = 4 → (1 ≤ (v : Int) ∧ (v : Int) ≤ 16 → e1 = 0 ∧ eqD c1 x1 p1 l1 v x p l = true) ∧ (¬ (1 ≤ (v : Int) ∧ (v : Int) ≤ 16) → e1 = 4)) ∧
      (k = 5 → ((v : Int) < 19 → e1 = 0 ∧ eqD c1 x1 p1 l1 c x v l = true) ∧ (¬ (v : Int) < 19 → e1 = 62 ∧ p1 = v))) →
      Calls Try.prog 5 #[headV (c : Int) (x : Int) (p : Int) l, .int .i64 at_, .int .u32 (v : Int)] w fun r w' => r = .returned (.bool true) ∧ Below w.heap.size w w' := by
    intro s hs c1 x1 p1 e1 l1 hV hF
    rw [← hs] at hV
    have hlen : ((callW x 0 284 3 c p l).take (4 * k) ++ (be 4 v ++ (callW x 0 284 3 c p l).drop (4 * k + 4))).length ≤ 9223372036854775807 := by
      simp only [List.length_append, be_length]; omega
    exact word_ok c x p l at_ v w _ _ _ _ k (Lib.hid CA) (Lib.hid WB) hs1 hs2 hk hk6 hv0 hv1 hA (by simp) hD c1 x1 p1 e1 l1 (Lib.hid fun W => by have := read_any _ W hlen; rwa [hV] at this) (Lib.hid hF) t1 (by omega)
  have bx : x < 4294967296 := by omega
  have bv : v < 4294967296 := by omega
  have bc : c < 4294967296 := by omega
  have bp : p < 4294967296 := by omega
  have hp19 : p < 19 := by omega
  have self : ∀ (c x p : Int) (l : List UInt8), eqD c x p l c x p l = true := fun c x p l => decide_eq_true ⟨rfl, rfl, rfl, rfl⟩
  clear CA WB hs1 hs2 hA hD hS hSl hk
  obtain rfl | rfl | rfl | rfl | rfl | rfl : k = 0 ∨ k = 1 ∨ k = 2 ∨ k = 3 ∨ k = 4 ∨ k = 5 := by omega
  · have h := cw_read (a := v) (b := 0) (c := 284) (d := 3) (e := c) (f := p) bv (by omega) (by omega) (by omega) bc bp a4 a5 0 (by rw [if_pos ⟨rfl, hC⟩, if_pos ⟨rfl, rfl⟩, if_pos hp19])
    refine fin (callW v 0 284 3 c p l) (cw_split x 0 284 3 c p l 0 (by omega) v) c v p 0 l (by simpa using h) ⟨(fun _ => ⟨rfl, self _ _ _ _⟩), (fun h0 => absurd h0 (by decide)), (fun h0 => absurd h0 (by decide)), (fun h0 => absurd h0 (by decide)), (fun h0 => absurd h0 (by decide)), (fun h0 => absurd h0 (by decide))⟩
  · by_cases hv : v = 0
    · subst hv
      have h := cw_read (a := x) (b := 0) (c := 284) (d := 3) (e := c) (f := p) bx (by omega) (by omega) (by omega) bc bp a4 a5 0 (by rw [if_pos ⟨rfl, hC⟩, if_pos ⟨rfl, rfl⟩, if_pos hp19])
      refine fin (callW x 0 284 3 c p l) (cw_split x 0 284 3 c p l 1 (by omega) 0) c x p 0 l (by simpa using h) ⟨(fun h0 => absurd h0 (by decide)), (fun _ => ⟨fun _ => ⟨rfl, self _ _ _ _⟩, fun h => absurd rfl h⟩), (fun h0 => absurd h0 (by decide)), (fun h0 => absurd h0 (by decide)), (fun h0 => absurd h0 (by decide)), (fun h0 => absurd h0 (by decide))⟩
    · have h := cw_read (a := x) (b := v) (c := 284) (d := 3) (e := c) (f := p) bx bv (by omega) (by omega) bc bp a4 a5 4 (by rw [if_neg (fun h => hv h.1)])
      refine fin (callW x v 284 3 c p l) (cw_split x 0 284 3 c p l 1 (by omega) v) 0 0 0 4 [] (by simpa using h) ⟨(fun h0 => absurd h0 (by decide)), (fun _ => ⟨fun h => absurd h (by omega), fun _ => rfl⟩), (fun h0 => absurd h0 (by decide)), (fun h0 => absurd h0 (by decide)), (fun h0 => absurd h0 (by decide)), (fun h0 => absurd h0 (by decide))⟩
  · by_cases hv : v = 284
    · subst hv
      have h := cw_read (a := x) (b := 0) (c := 284) (d := 3) (e := c) (f := p) bx (by omega) (by omega) (by omega) bc bp a4 a5 0 (by rw [if_pos ⟨rfl, hC⟩, if_pos ⟨rfl, rfl⟩, if_pos hp19])
      refine fin (callW x 0 284 3 c p l) (cw_split x 0 284 3 c p l 2 (by omega) 284) c x p 0 l (by simpa using h) ⟨(fun h0 => absurd h0 (by decide)), (fun h0 => absurd h0 (by decide)), (fun _ => ⟨fun _ => rfl, fun h => absurd rfl h⟩), (fun h0 => absurd h0 (by decide)), (fun h0 => absurd h0 (by decide)), (fun h0 => absurd h0 (by decide))⟩
    · have h := cw_read (a := x) (b := 0) (c := v) (d := 3) (e := c) (f := p) bx (by omega) bv (by omega) bc bp a4 a5 63 (by rw [if_pos ⟨rfl, hC⟩, if_neg (fun h => hv h.1)])
      refine fin (callW x 0 v 3 c p l) (cw_split x 0 284 3 c p l 2 (by omega) v) c x p 63 [] (by simpa using h) ⟨(fun h0 => absurd h0 (by decide)), (fun h0 => absurd h0 (by decide)), (fun _ => ⟨fun h => absurd h (by omega), fun _ => rfl⟩), (fun h0 => absurd h0 (by decide)), (fun h0 => absurd h0 (by decide)), (fun h0 => absurd h0 (by decide))⟩
  · by_cases hv : v = 3
    · subst hv
      have h := cw_read (a := x) (b := 0) (c := 284) (d := 3) (e := c) (f := p) bx (by omega) (by omega) (by omega) bc bp a4 a5 0 (by rw [if_pos ⟨rfl, hC⟩, if_pos ⟨rfl, rfl⟩, if_pos hp19])
      refine fin (callW x 0 284 3 c p l) (cw_split x 0 284 3 c p l 3 (by omega) 3) c x p 0 l (by simpa using h) ⟨(fun h0 => absurd h0 (by decide)), (fun h0 => absurd h0 (by decide)), (fun h0 => absurd h0 (by decide)), (fun _ => ⟨fun _ => rfl, fun h => absurd rfl h⟩), (fun h0 => absurd h0 (by decide)), (fun h0 => absurd h0 (by decide))⟩
    · have h := cw_read (a := x) (b := 0) (c := 284) (d := v) (e := c) (f := p) bx (by omega) (by omega) bv bc bp a4 a5 63 (by rw [if_pos ⟨rfl, hC⟩, if_neg (fun h => hv h.2)])
      refine fin (callW x 0 284 v c p l) (cw_split x 0 284 3 c p l 3 (by omega) v) c x p 63 [] (by simpa using h) ⟨(fun h0 => absurd h0 (by decide)), (fun h0 => absurd h0 (by decide)), (fun h0 => absurd h0 (by decide)), (fun _ => ⟨fun h => absurd h (by omega), fun _ => rfl⟩), (fun h0 => absurd h0 (by decide)), (fun h0 => absurd h0 (by decide))⟩
  · by_cases hv : 1 ≤ (v : Int) ∧ (v : Int) ≤ 16
    · have hCv : isC (v : Int) = true := by simp [isC]; omega
      have h := cw_read (a := x) (b := 0) (c := 284) (d := 3) (e := v) (f := p) bx (by omega) (by omega) (by omega) bv bp a4 a5 0 (by rw [if_pos ⟨rfl, hCv⟩, if_pos ⟨rfl, rfl⟩, if_pos hp19])
      refine fin (callW x 0 284 3 v p l) (cw_split x 0 284 3 c p l 4 (by omega) v) v x p 0 l (by simpa using h) ⟨(fun h0 => absurd h0 (by decide)), (fun h0 => absurd h0 (by decide)), (fun h0 => absurd h0 (by decide)), (fun h0 => absurd h0 (by decide)), (fun _ => ⟨fun _ => ⟨rfl, self _ _ _ _⟩, fun h => absurd hv h⟩), (fun h0 => absurd h0 (by decide))⟩
    · have h := cw_read (a := x) (b := 0) (c := 284) (d := 3) (e := v) (f := p) bx (by omega) (by omega) (by omega) bv bp a4 a5 4 (by rw [if_neg (fun h => hv (isC_bounds h.2))])
      refine fin (callW x 0 284 3 v p l) (cw_split x 0 284 3 c p l 4 (by omega) v) 0 0 0 4 [] (by simpa using h) ⟨(fun h0 => absurd h0 (by decide)), (fun h0 => absurd h0 (by decide)), (fun h0 => absurd h0 (by decide)), (fun h0 => absurd h0 (by decide)), (fun _ => ⟨fun h => absurd h hv, fun _ => rfl⟩), (fun h0 => absurd h0 (by decide))⟩
  · by_cases hv : v < 19
    · have h := cw_read (a := x) (b := 0) (c := 284) (d := 3) (e := c) (f := v) bx (by omega) (by omega) (by omega) bc bv a4 a5 0 (by rw [if_pos ⟨rfl, hC⟩, if_pos ⟨rfl, rfl⟩, if_pos hv])
      refine fin (callW x 0 284 3 c v l) (cw_split x 0 284 3 c p l 5 (by omega) v) c x v 0 l (by simpa using h) ⟨(fun h0 => absurd h0 (by decide)), (fun h0 => absurd h0 (by decide)), (fun h0 => absurd h0 (by decide)), (fun h0 => absurd h0 (by decide)), (fun h0 => absurd h0 (by decide)), (fun _ => ⟨fun _ => ⟨rfl, self _ _ _ _⟩, fun h => absurd (by omega) h⟩)⟩
    · have h := cw_read (a := x) (b := 0) (c := 284) (d := 3) (e := c) (f := v) bx (by omega) (by omega) (by omega) bc bv a4 a5 62 (by rw [if_pos ⟨rfl, hC⟩, if_pos ⟨rfl, rfl⟩, if_neg hv])
      refine fin (callW x 0 284 3 c v l) (cw_split x 0 284 3 c p l 5 (by omega) v) c x v 62 [] (by simpa using h) ⟨(fun h0 => absurd h0 (by decide)), (fun h0 => absurd h0 (by decide)), (fun h0 => absurd h0 (by decide)), (fun h0 => absurd h0 (by decide)), (fun h0 => absurd h0 (by decide)), (fun _ => ⟨fun h => absurd h (by omega), fun _ => ⟨rfl, rfl⟩⟩)⟩

set_option maxRecDepth 100000 in
set_option maxHeartbeats 3200000 in
theorem cword_any (c x p : Int) (l : List UInt8) (at_ v : Int) (w : World) (hl : l.length ≤ 9223372036854775807) (hv0 : 0 ≤ v) (hv1 : v < 4294967296) :
    Calls Try.prog 5 #[headV c x p l, .int .i64 at_, .int .u32 v] w fun r w' => r = .returned (.bool true) ∧ Below w.heap.size w w' := by
  have D0 := BoxD.new w c x p l 23
  by_cases t1 : (5000 : Int) < (l.length : Int)
  · go_enter Try.func5, Try.ntmps5
    go_wp2_with fail
    refine (works_any _).mono ?_; rintro e w1 ⟨rfl, hw1⟩
    have b1 : Below w.heap.size w w1 := chain (by repeat' (first | (with_reducible exact Below.refl _ _) | (with_reducible assumption) | (with_reducible refine below_drewN ?_ _) | (with_reducible refine Below.alloc ?_ ?_ _) | (with_reducible refine Below.drew ?_) | (with_reducible refine Below.setCell ?_ ?_ _) | go_size)) hw1
    have s1 := b1.size
    obtain ⟨la, x0, x1_, x2, x3⟩ := D0.step (by repeat' (first | (with_reducible exact Below.refl _ _) | (with_reducible assumption) | (with_reducible refine below_drewN ?_ _) | (with_reducible refine Below.alloc ?_ ?_ _) | (with_reducible refine Below.drew ?_) | (with_reducible refine Below.setCell ?_ ?_ _) | go_size)) hw1
    go_wp2_with fail
    refine (works_any _).mono ?_; rintro e w2 ⟨rfl, hw2⟩
    have b2 : Below w.heap.size w w2 := chain (by repeat' (first | (with_reducible exact Below.refl _ _) | (with_reducible assumption) | (with_reducible refine below_drewN ?_ _) | (with_reducible refine Below.alloc ?_ ?_ _) | (with_reducible refine Below.drew ?_) | (with_reducible refine Below.setCell ?_ ?_ _) | go_size)) hw2
    have s2 := b2.size
    go_wp2_with fail
    go_ret
    exact ⟨rfl, by assumption⟩
  by_cases hE : callE c x p l = 0
  · by_cases hp : 19 ≤ p
    · have CA := fun W : World => cWrite_any c x p l W hl
      rw [hE] at CA
      have GA := Lib.hid CA
      clear CA hE
      generalize callS c x p l = S at *
      go_enter Try.func5, Try.ntmps5
      go_wp2_with fail
      refine (works_any _).mono ?_; rintro e w1 ⟨rfl, hw1⟩
      have b1 : Below w.heap.size w w1 := chain (by repeat' (first | (with_reducible exact Below.refl _ _) | (with_reducible assumption) | (with_reducible refine below_drewN ?_ _) | (with_reducible refine Below.alloc ?_ ?_ _) | (with_reducible refine Below.drew ?_) | (with_reducible refine Below.setCell ?_ ?_ _) | go_size)) hw1
      have s1 := b1.size
      obtain ⟨la, x0, x1_, x2, x3⟩ := D0.step (by repeat' (first | (with_reducible exact Below.refl _ _) | (with_reducible assumption) | (with_reducible refine below_drewN ?_ _) | (with_reducible refine Below.alloc ?_ ?_ _) | (with_reducible refine Below.drew ?_) | (with_reducible refine Below.setCell ?_ ?_ _) | go_size)) hw1
      have D7 := BoxD.new w1 c x p l 29
      go_wp2_with fail
      refine (GA.out _).mono ?_; rintro e w2 ⟨rfl, hw2⟩
      have b2 : Below w.heap.size w w2 := chain (by repeat' (first | (with_reducible exact Below.refl _ _) | (with_reducible assumption) | (with_reducible refine below_drewN ?_ _) | (with_reducible refine Below.alloc ?_ ?_ _) | (with_reducible refine Below.drew ?_) | (with_reducible refine Below.setCell ?_ ?_ _) | go_size)) hw2
      have s2 := b2.size
      clear la x0 x1_ x2 x3
      obtain ⟨la, x0, x1_, x2, x3⟩ := D7.step (by repeat' (first | (with_reducible exact Below.refl _ _) | (with_reducible assumption) | (with_reducible refine below_drewN ?_ _) | (with_reducible refine Below.alloc ?_ ?_ _) | (with_reducible refine Below.drew ?_) | (with_reducible refine Below.setCell ?_ ?_ _) | go_size)) hw2
      go_wp2_with fail
      go_ret
      exact ⟨rfl, by assumption⟩
    · exact cword_go c x p l at_ v w hE hp hv0 hv1 t1
  · have CA := fun W : World => cWrite_any c x p l W hl
    have he : (callE c x p l != 0) = true := by rw [bne_iff_ne]; exact hE
    generalize callS c x p l = S at *
    generalize callE c x p l = E at *
    have GA := Lib.hid CA
    clear CA hE
    go_enter Try.func5, Try.ntmps5
    go_wp2_with fail
    refine (works_any _).mono ?_; rintro e w1 ⟨rfl, hw1⟩
    have b1 : Below w.heap.size w w1 := chain (by repeat' (first | (with_reducible exact Below.refl _ _) | (with_reducible assumption) | (with_reducible refine below_drewN ?_ _) | (with_reducible refine Below.alloc ?_ ?_ _) | (with_reducible refine Below.drew ?_) | (with_reducible refine Below.setCell ?_ ?_ _) | go_size)) hw1
    have s1 := b1.size
    obtain ⟨la, x0, x1_, x2, x3⟩ := D0.step (by repeat' (first | (with_reducible exact Below.refl _ _) | (with_reducible assumption) | (with_reducible refine below_drewN ?_ _) | (with_reducible refine Below.alloc ?_ ?_ _) | (with_reducible refine Below.drew ?_) | (with_reducible refine Below.setCell ?_ ?_ _) | go_size)) hw1
    go_wp2_with fail
    refine (GA.out _).mono ?_; rintro e w2 ⟨rfl, hw2⟩
    have b2 : Below w.heap.size w w2 := chain (by repeat' (first | (with_reducible exact Below.refl _ _) | (with_reducible assumption) | (with_reducible refine below_drewN ?_ _) | (with_reducible refine Below.alloc ?_ ?_ _) | (with_reducible refine Below.drew ?_) | (with_reducible refine Below.setCell ?_ ?_ _) | go_size)) hw2
    have s2 := b2.size
    go_wp2_with fail
    go_ret
    exact ⟨rfl, by assumption⟩

theorem word_law : Walks Try.prog 5 Try.f5 := by
  intro H enc W args ds p base hval hA hz
  rw [Try.params5] at hA hval hz
  obtain ⟨v0, v1, v2, d0, d1, d2, p0, p1, p2, rfl, rfl, rfl, h0, h1, h2⟩ := trodAll_three hA
  obtain ⟨a0, a1, a2, l, rfl, _, _, _, hl⟩ := open_headW (hval 0 _ v0 rfl rfl) h0
  obtain ⟨at_, rfl, _⟩ := open_int Try.underlying3 (hval 1 _ v1 rfl rfl) h1
  obtain ⟨v, rfl, _, _, w2⟩ := open_int Try.underlying44 (hval 2 _ v2 rfl rfl) h2
  obtain ⟨b0, b1⟩ := bounds_u32 w2
  have hll := sized_of hz (j := 0) rfl rfl hl
  exact cword_any a0 a1 a2 l at_ v W (by omega) b0 (by omega)

theorem CallWord_holds : Rows.CallWordSaid :=
  OpenClaim.holds_of_wide 5 Try.f5 rfl rfl rfl rfl rfl rfl rfl ⟨rfl, rfl, rfl, rfl, rfl⟩ rfl rfl rfl rfl rfl (by kernel_rfl) Try.func5 (by kernel_rfl)
    (of_decide_eq_true (by kernel_rfl)) (by unfold Func.isWrapper; first | (rw [if_pos (by decide +kernel)]; kernel_rfl) | (rw [if_neg (by decide +kernel)]; exact ⟨rfl, rfl⟩))
    (fun os started H enc _ => law_lifted (C := Try.checked) (s := Rows.callWordSpec) own started (by kernel_rfl) Try.func5 laidOut rfl rfl Try.underlying4
      (by have h : ∀ u ∈ Try.f5.params.toList, (Try.prog.readableRec u && decide (u < Try.prog.types.size)) = true := List.all_eq_true.1 (by kernel_rfl)
          intro u hu; have := h u hu; rw [Bool.and_eq_true, decide_eq_true_eq] at this; exact this)
      (by intro H l hl; rw [show Try.f5.params.size = 3 from by rw [Try.params5]; rfl] at hl; match l, hl with | [d0, d1, d2], _ => rfl)
      H enc (ChangeSpec.witness6 (enc := enc) (C := Try.checked) false ⟨#[], #[.agg #[.int .i64 0, .int .i64 0, .int .i64 0, .string ⟨#[]⟩], .int .i64 0, .int .u32 0], []⟩ 8 (by kernel_rfl) (by kernel_rfl) (by kernel_rfl) (by kernel_rfl)) word_law)
#print axioms CallWord_holds
end Go.Proofs.Ytaobfidjnnhniaa
