/- The examples of the layer (jettylaw03.works); words, many. -/
import Derived.Test.YtaobfidjnnhniaaCallRefHear
import Derived.Lib.SmallJoins
namespace Go.Proofs.Ytaobfidjnnhniaa
set_option linter.unusedVariables false
set_option linter.unusedSimpArgs false
open Go.ChangeShapes Go.WideShapes Go.ChangeAt Go.RowKit Pl
attribute [local go_sem] ba_toList ba_size

/-- A slice value that reads as a list of ints. -/
def IntsV (w : World) (v : Value) (zs : List Int) : Prop :=
  ∃ b, v = .slice (some ⟨b, 0, none⟩) zs.length zs.length ∧ b < w.heap.size ∧ ∀ j, (h : j < zs.length) → w.cell? ⟨b, j, none⟩ = some (.int .i64 zs[j])
theorem IntsV.lit (w : World) (zs : List Int) (t : TypeId) (n g : Nat) (hn : zs.length = n) (hg : g = w.heap.size) : IntsV (w.alloc (.cells (zs.map (Value.int .i64)).toArray t)) (.slice (some ⟨g, 0, none⟩) n n) zs := by
  subst hn hg
  exact ⟨w.heap.size, rfl, by simp, fun j hj => by rw [cell_new _ _ _ _ _ rfl]; simp [hj]⟩
theorem IntsV.below {w w' : World} {v : Value} {zs : List Int} (h : IntsV w v zs) (hb : Below w.heap.size w w') : IntsV w' v zs := by
  obtain ⟨b, hv, hlt, hc⟩ := h
  exact ⟨b, hv, Nat.lt_of_lt_of_le hlt hb.size, fun j hj => (hb.cell (p := ⟨b, j, none⟩) hlt).trans (hc j hj)⟩

theorem BoxD.step {w X w' : World} {g : Nat} {c x p : Int} {l : List UInt8} (h : BoxD w g c x p l) (hX : Below w.heap.size w X) (hb : Below X.heap.size X w') : BoxD w' g c x p l := h.below (chain hX hb)
theorem BoxA.step {w X w' : World} {g : Nat} {x e : Int} {l : List UInt8} (h : BoxA w g x e l) (hX : Below w.heap.size w X) (hb : Below X.heap.size X w') : BoxA w' g x e l := h.below (chain hX hb)

def wordsB (zs : List Int) : List UInt8 := zs.flatMap fun z => be 4 (z % 4294967296).toNat
theorem wordsB_snoc (zs : List Int) (z : Int) : wordsB (zs ++ [z]) = wordsB zs ++ be 4 (z % 4294967296).toNat := by simp [wordsB]
theorem wordsB_len (zs : List Int) : (wordsB zs).length = 4 * zs.length := by
  induction zs with
  | nil => rfl
  | cons z zs ih =>
    have : wordsB (z :: zs) = be 4 (z % 4294967296).toNat ++ wordsB zs := by simp [wordsB]
    rw [this]
    simp
    omega
theorem Word_u32 (v : Value) (l : List UInt8) (n : Int) (w : World) (hl : BytesV w v l) (hsum : l.length + 4 ≤ 140737488355328) :
    Calls Try.prog 22 #[v, .int .u32 (IntKind.u32.wrap n)] w fun e w' => ∃ v', e = .returned v' ∧ RowB w' w.heap.size v' (l ++ be 4 (n % 4294967296).toNat) ∧ Below w.heap.size w w' := by
  have h : IntKind.u32.wrap n = n % 4294967296 := by rw [IntKind.wrap_u32]
  rw [h]
  exact Word_any v l _ w hl (by omega) (by omega) hsum

set_option maxHeartbeats 800000 in
theorem words_any (v : Value) (zs : List Int) (w : World) (hv : IntsV w v zs) (hl : zs.length ≤ 100) :
    Calls Try.prog 18 #[v] w fun r w' => r = .returned (sv (wordsB zs)) ∧ Below w.heap.size w w' := by
  have HV := Lib.hid hv
  obtain ⟨b, rfl, hlt, hc⟩ := hv
  clear hc
  go_enter Try.func18, Try.ntmps18
  go_wp2_with fail
  go_loopw [3, 4] (fun v i W => ∃ q : Nat, q ≤ zs.length ∧ i = .int .i64 q ∧ BytesV W v (wordsB (zs.take q)) ∧ Below w.heap.size w W) (fun _ i _ => zs.length - (intOf i).toNat)
  case atStart => exact ⟨0, Nat.zero_le _, rfl, BytesV.nil _, Below.refl _ _⟩
  case round =>
    obtain ⟨q, hq, rfl, hB, bW⟩ := hrel
    by_cases hlt' : q < zs.length
    · obtain ⟨b', e, hb', hc⟩ := HV.out.below bW
      injection e with e1
      injection e1 with e1
      injection e1 with e1
      subst e1
      have cq := hc q hlt'
      have hbl : (wordsB (zs.take q)).length + 4 ≤ 140737488355328 := by rw [wordsB_len]; simp; omega
      have hts : zs.take (q + 1) = zs.take q ++ [zs[q]] := List.take_succ_eq_append_getElem hlt'
      have HT := Lib.hid hts
      clear hc hts
      have hqi : (q : Int) < (zs.length : Int) := by omega
      go_wp2_with fail
      refine (Word_u32 _ _ _ _ hB hbl).mono ?_; rintro r w3 ⟨v3, rfl, r3, hw3⟩
      go_wp2_with fail
      go_roundw
      case rel => exact ⟨q + 1, hlt', by go_num, by rw [HT.out, wordsB_snoc]; exact r3.bytes, chain bW hw3⟩
      case measure => simp [intOf]; omega
    · obtain rfl : q = zs.length := by omega
      rw [List.take_length] at hB
      have hcv := hB.string (P := Try.prog) Try.underlying58 Try.underlying5 Try.underlying9
      go_wp2_with fail
      go_ret
      exact ⟨rfl, bW⟩
set_option maxHeartbeats 800000 in
theorem many_any (n : Nat) (w : World) (hn : n ≤ 100000) :
    Calls Try.prog 19 #[.int .i64 n] w fun r w' => r = .returned (sv (zeros n)) ∧ Below w.heap.size w w' := by
  obtain ⟨i0, hi, hz0, hz1, hz2⟩ := info_parts info_u8
  have HI := Lib.hid hi
  clear hi
  go_enter Try.func19, Try.ntmps19
  go_wp2_with (with_reducible refine wpList_make_bytes rfl _ _ rfl Try.underlying58 HI.out hz0 hz1 hz2 n rfl rfl rfl rfl ?_ ?_)
  · omega
  intro v1 w1 hb hw1
  have hcv := hb.string (P := Try.prog) Try.underlying58 Try.underlying5 Try.underlying9
  go_wp2_with fail
  go_ret
  exact ⟨rfl, by repeat' (first | (with_reducible exact Below.refl _ _) | (with_reducible assumption) | (with_reducible refine below_drewN ?_ _) | (with_reducible refine Below.alloc ?_ ?_ _) | (with_reducible refine Below.drew ?_) | (with_reducible refine Below.setCell ?_ ?_ _) | go_size)⟩

set_option maxRecDepth 100000 in
set_option maxHeartbeats 800000 in
theorem works_any (w : World) : Calls Try.prog 17 #[] w fun e w' => e = .returned (.bool true) ∧ Below w.heap.size w w' := by
  have p1 : readV (wordsB [7, 0, 284, 3, 1, 1]) = .tuple #[headV 1 7 1 [], .int .i64 0] := by kernel_rfl
  have p2 : readV (wordsB [7, 0, 285, 3, 1, 1]) = .tuple #[headV 1 7 1 [], .int .i64 63] := by kernel_rfl
  have p3 : readV (wordsB [7, 0, 284, 3, 1, 19]) = .tuple #[headV 1 7 19 [], .int .i64 62] := by kernel_rfl
  have p4 : readV (wordsB [7, 0, 284, 3, 17, 1]) = .tuple #[headV 0 0 0 [], .int .i64 4] := by kernel_rfl
  have p5 : callS 1 7 1 [] = wordsB [7, 0, 284, 3, 1, 1] := by kernel_rfl
  have p6 : callE 1 7 1 [] = 0 := by kernel_rfl
  have p7 : tellS 7 62 [] = wordsB [7, 1, 62] := by kernel_rfl
  have p8 : tellE 7 62 [] = 0 := by kernel_rfl
  have l6 : ∀ a b c d e f : Int, (wordsB [a, b, c, d, e, f]).length ≤ 10000 := fun a b c d e f => by rw [wordsB_len]; simp
  have P1 := Lib.hid p1
  have P2 := Lib.hid p2
  have P3 := Lib.hid p3
  have P4 := Lib.hid p4
  have P5 := Lib.hid p5
  have P6 := Lib.hid p6
  have P7 := Lib.hid p7
  have P8 := Lib.hid p8
  have L6 := Lib.hid l6
  clear p1 p2 p3 p4 p5 p6 p7 p8 l6
  go_enter Try.func17, Try.ntmps17
  go_wp2_with fail
  refine (cWrite_any 1 7 1 [] _ (by simp)).mono ?_; rintro e w1 ⟨rfl, hw1⟩
  have b1 : Below w.heap.size w w1 := chain (by repeat' (first | (with_reducible exact Below.refl _ _) | (with_reducible assumption) | (with_reducible refine below_drewN ?_ _) | (with_reducible refine Below.alloc ?_ ?_ _) | (with_reducible refine Below.drew ?_) | (with_reducible refine Below.setCell ?_ ?_ _) | go_size)) hw1
  have s1 := b1.size
  rw [P5.out, P6.out]
  go_wp2_with fail
  refine (words_any _ [7, 0, 284, 3, 1, 1] _ (IntsV.lit _ _ _ _ _ rfl (by simp)) (by simp)).mono ?_; rintro e w2 ⟨rfl, hw2⟩
  have b2 : Below w.heap.size w w2 := chain (by repeat' (first | (with_reducible exact Below.refl _ _) | (with_reducible assumption) | (with_reducible refine below_drewN ?_ _) | (with_reducible refine Below.alloc ?_ ?_ _) | (with_reducible refine Below.drew ?_) | (with_reducible refine Below.setCell ?_ ?_ _) | go_size)) hw2
  have s2 := b2.size
  go_wp2_with fail
  refine (read_any (wordsB [7, 0, 284, 3, 1, 1]) _ (by have := L6.out 7 0 284 3 1 1; omega)).mono ?_; rintro e w3 ⟨rfl, hw3⟩
  have b3 : Below w.heap.size w w3 := chain (by repeat' (first | (with_reducible exact Below.refl _ _) | (with_reducible assumption) | (with_reducible refine below_drewN ?_ _) | (with_reducible refine Below.alloc ?_ ?_ _) | (with_reducible refine Below.drew ?_) | (with_reducible refine Below.setCell ?_ ?_ _) | go_size)) hw3
  have s3 := b3.size
  rw [P1.out]
  have D1 : BoxD (w3.alloc (.cells #[.int .i64 1, .int .i64 7, .int .i64 1, .string ⟨#[]⟩] 29)) w3.heap.size 1 7 1 [] := BoxD.new w3 1 7 1 [] 29
  go_wp2_with fail
  refine (words_any _ [7, 0, 285, 3, 1, 1] _ (IntsV.lit _ _ _ _ _ rfl (by simp)) (by simp)).mono ?_; rintro e w4 ⟨rfl, hw4⟩
  have b4 : Below w.heap.size w w4 := chain (by repeat' (first | (with_reducible exact Below.refl _ _) | (with_reducible assumption) | (with_reducible refine below_drewN ?_ _) | (with_reducible refine Below.alloc ?_ ?_ _) | (with_reducible refine Below.drew ?_) | (with_reducible refine Below.setCell ?_ ?_ _) | go_size)) hw4
  have s4 := b4.size
  have D1 := D1.step (by repeat' (first | (with_reducible exact Below.refl _ _) | (with_reducible assumption) | (with_reducible refine below_drewN ?_ _) | (with_reducible refine Below.alloc ?_ ?_ _) | (with_reducible refine Below.drew ?_) | (with_reducible refine Below.setCell ?_ ?_ _) | go_size)) hw4
  go_wp2_with fail
  refine (read_any (wordsB [7, 0, 285, 3, 1, 1]) _ (by have := L6.out 7 0 285 3 1 1; omega)).mono ?_; rintro e w5 ⟨rfl, hw5⟩
  have b5 : Below w.heap.size w w5 := chain (by repeat' (first | (with_reducible exact Below.refl _ _) | (with_reducible assumption) | (with_reducible refine below_drewN ?_ _) | (with_reducible refine Below.alloc ?_ ?_ _) | (with_reducible refine Below.drew ?_) | (with_reducible refine Below.setCell ?_ ?_ _) | go_size)) hw5
  have s5 := b5.size
  rw [P2.out]
  have D1 := D1.step (by repeat' (first | (with_reducible exact Below.refl _ _) | (with_reducible assumption) | (with_reducible refine below_drewN ?_ _) | (with_reducible refine Below.alloc ?_ ?_ _) | (with_reducible refine Below.drew ?_) | (with_reducible refine Below.setCell ?_ ?_ _) | go_size)) hw5
  have D2 : BoxD (w5.alloc (.cells #[.int .i64 1, .int .i64 7, .int .i64 1, .string ⟨#[]⟩] 29)) w5.heap.size 1 7 1 [] := BoxD.new w5 1 7 1 [] 29
  go_wp2_with fail
  refine (words_any _ [7, 0, 284, 3, 1, 19] _ (IntsV.lit _ _ _ _ _ rfl (by simp)) (by simp)).mono ?_; rintro e w6 ⟨rfl, hw6⟩
  have b6 : Below w.heap.size w w6 := chain (by repeat' (first | (with_reducible exact Below.refl _ _) | (with_reducible assumption) | (with_reducible refine below_drewN ?_ _) | (with_reducible refine Below.alloc ?_ ?_ _) | (with_reducible refine Below.drew ?_) | (with_reducible refine Below.setCell ?_ ?_ _) | go_size)) hw6
  have s6 := b6.size
  have D1 := D1.step (by repeat' (first | (with_reducible exact Below.refl _ _) | (with_reducible assumption) | (with_reducible refine below_drewN ?_ _) | (with_reducible refine Below.alloc ?_ ?_ _) | (with_reducible refine Below.drew ?_) | (with_reducible refine Below.setCell ?_ ?_ _) | go_size)) hw6
  have D2 := D2.step (by repeat' (first | (with_reducible exact Below.refl _ _) | (with_reducible assumption) | (with_reducible refine below_drewN ?_ _) | (with_reducible refine Below.alloc ?_ ?_ _) | (with_reducible refine Below.drew ?_) | (with_reducible refine Below.setCell ?_ ?_ _) | go_size)) hw6
  go_wp2_with fail
  refine (read_any (wordsB [7, 0, 284, 3, 1, 19]) _ (by have := L6.out 7 0 284 3 1 19; omega)).mono ?_; rintro e w7 ⟨rfl, hw7⟩
  have b7 : Below w.heap.size w w7 := chain (by repeat' (first | (with_reducible exact Below.refl _ _) | (with_reducible assumption) | (with_reducible refine below_drewN ?_ _) | (with_reducible refine Below.alloc ?_ ?_ _) | (with_reducible refine Below.drew ?_) | (with_reducible refine Below.setCell ?_ ?_ _) | go_size)) hw7
  have s7 := b7.size
  rw [P3.out]
  have D1 := D1.step (by repeat' (first | (with_reducible exact Below.refl _ _) | (with_reducible assumption) | (with_reducible refine below_drewN ?_ _) | (with_reducible refine Below.alloc ?_ ?_ _) | (with_reducible refine Below.drew ?_) | (with_reducible refine Below.setCell ?_ ?_ _) | go_size)) hw7
  have D2 := D2.step (by repeat' (first | (with_reducible exact Below.refl _ _) | (with_reducible assumption) | (with_reducible refine below_drewN ?_ _) | (with_reducible refine Below.alloc ?_ ?_ _) | (with_reducible refine Below.drew ?_) | (with_reducible refine Below.setCell ?_ ?_ _) | go_size)) hw7
  have D3 : BoxD (w7.alloc (.cells #[.int .i64 1, .int .i64 7, .int .i64 19, .string ⟨#[]⟩] 29)) w7.heap.size 1 7 19 [] := BoxD.new w7 1 7 19 [] 29
  go_wp2_with fail
  refine (words_any _ [7, 0, 284, 3, 17, 1] _ (IntsV.lit _ _ _ _ _ rfl (by simp)) (by simp)).mono ?_; rintro e w8 ⟨rfl, hw8⟩
  have b8 : Below w.heap.size w w8 := chain (by repeat' (first | (with_reducible exact Below.refl _ _) | (with_reducible assumption) | (with_reducible refine below_drewN ?_ _) | (with_reducible refine Below.alloc ?_ ?_ _) | (with_reducible refine Below.drew ?_) | (with_reducible refine Below.setCell ?_ ?_ _) | go_size)) hw8
  have s8 := b8.size
  have D1 := D1.step (by repeat' (first | (with_reducible exact Below.refl _ _) | (with_reducible assumption) | (with_reducible refine below_drewN ?_ _) | (with_reducible refine Below.alloc ?_ ?_ _) | (with_reducible refine Below.drew ?_) | (with_reducible refine Below.setCell ?_ ?_ _) | go_size)) hw8
  have D2 := D2.step (by repeat' (first | (with_reducible exact Below.refl _ _) | (with_reducible assumption) | (with_reducible refine below_drewN ?_ _) | (with_reducible refine Below.alloc ?_ ?_ _) | (with_reducible refine Below.drew ?_) | (with_reducible refine Below.setCell ?_ ?_ _) | go_size)) hw8
  have D3 := D3.step (by repeat' (first | (with_reducible exact Below.refl _ _) | (with_reducible assumption) | (with_reducible refine below_drewN ?_ _) | (with_reducible refine Below.alloc ?_ ?_ _) | (with_reducible refine Below.drew ?_) | (with_reducible refine Below.setCell ?_ ?_ _) | go_size)) hw8
  go_wp2_with fail
  refine (read_any (wordsB [7, 0, 284, 3, 17, 1]) _ (by have := L6.out 7 0 284 3 17 1; omega)).mono ?_; rintro e w9 ⟨rfl, hw9⟩
  have b9 : Below w.heap.size w w9 := chain (by repeat' (first | (with_reducible exact Below.refl _ _) | (with_reducible assumption) | (with_reducible refine below_drewN ?_ _) | (with_reducible refine Below.alloc ?_ ?_ _) | (with_reducible refine Below.drew ?_) | (with_reducible refine Below.setCell ?_ ?_ _) | go_size)) hw9
  have s9 := b9.size
  rw [P4.out]
  have D1 := D1.step (by repeat' (first | (with_reducible exact Below.refl _ _) | (with_reducible assumption) | (with_reducible refine below_drewN ?_ _) | (with_reducible refine Below.alloc ?_ ?_ _) | (with_reducible refine Below.drew ?_) | (with_reducible refine Below.setCell ?_ ?_ _) | go_size)) hw9
  have D2 := D2.step (by repeat' (first | (with_reducible exact Below.refl _ _) | (with_reducible assumption) | (with_reducible refine below_drewN ?_ _) | (with_reducible refine Below.alloc ?_ ?_ _) | (with_reducible refine Below.drew ?_) | (with_reducible refine Below.setCell ?_ ?_ _) | go_size)) hw9
  have D3 := D3.step (by repeat' (first | (with_reducible exact Below.refl _ _) | (with_reducible assumption) | (with_reducible refine below_drewN ?_ _) | (with_reducible refine Below.alloc ?_ ?_ _) | (with_reducible refine Below.drew ?_) | (with_reducible refine Below.setCell ?_ ?_ _) | go_size)) hw9
  have D4 : BoxD (w9.alloc (.cells #[.int .i64 0, .int .i64 0, .int .i64 0, .string ⟨#[]⟩] 29)) w9.heap.size 0 0 0 [] := BoxD.new w9 0 0 0 [] 29
  go_wp2_with fail
  refine (tell_any 7 62 [] _ (by simp)).mono ?_; rintro e w10 ⟨rfl, hw10⟩
  have b10 : Below w.heap.size w w10 := chain (by repeat' (first | (with_reducible exact Below.refl _ _) | (with_reducible assumption) | (with_reducible refine below_drewN ?_ _) | (with_reducible refine Below.alloc ?_ ?_ _) | (with_reducible refine Below.drew ?_) | (with_reducible refine Below.setCell ?_ ?_ _) | go_size)) hw10
  have s10 := b10.size
  rw [P7.out, P8.out]
  have D1 := D1.step (by repeat' (first | (with_reducible exact Below.refl _ _) | (with_reducible assumption) | (with_reducible refine below_drewN ?_ _) | (with_reducible refine Below.alloc ?_ ?_ _) | (with_reducible refine Below.drew ?_) | (with_reducible refine Below.setCell ?_ ?_ _) | go_size)) hw10
  have D2 := D2.step (by repeat' (first | (with_reducible exact Below.refl _ _) | (with_reducible assumption) | (with_reducible refine below_drewN ?_ _) | (with_reducible refine Below.alloc ?_ ?_ _) | (with_reducible refine Below.drew ?_) | (with_reducible refine Below.setCell ?_ ?_ _) | go_size)) hw10
  have D3 := D3.step (by repeat' (first | (with_reducible exact Below.refl _ _) | (with_reducible assumption) | (with_reducible refine below_drewN ?_ _) | (with_reducible refine Below.alloc ?_ ?_ _) | (with_reducible refine Below.drew ?_) | (with_reducible refine Below.setCell ?_ ?_ _) | go_size)) hw10
  have D4 := D4.step (by repeat' (first | (with_reducible exact Below.refl _ _) | (with_reducible assumption) | (with_reducible refine below_drewN ?_ _) | (with_reducible refine Below.alloc ?_ ?_ _) | (with_reducible refine Below.drew ?_) | (with_reducible refine Below.setCell ?_ ?_ _) | go_size)) hw10
  go_wp2_with fail
  refine (words_any _ [7, 0, 284, 3, 1, 1] _ (IntsV.lit _ _ _ _ _ rfl (by simp)) (by simp)).mono ?_; rintro e w11 ⟨rfl, hw11⟩
  have b11 : Below w.heap.size w w11 := chain (by repeat' (first | (with_reducible exact Below.refl _ _) | (with_reducible assumption) | (with_reducible refine below_drewN ?_ _) | (with_reducible refine Below.alloc ?_ ?_ _) | (with_reducible refine Below.drew ?_) | (with_reducible refine Below.setCell ?_ ?_ _) | go_size)) hw11
  have s11 := b11.size
  have D1 := D1.step (by repeat' (first | (with_reducible exact Below.refl _ _) | (with_reducible assumption) | (with_reducible refine below_drewN ?_ _) | (with_reducible refine Below.alloc ?_ ?_ _) | (with_reducible refine Below.drew ?_) | (with_reducible refine Below.setCell ?_ ?_ _) | go_size)) hw11
  have D2 := D2.step (by repeat' (first | (with_reducible exact Below.refl _ _) | (with_reducible assumption) | (with_reducible refine below_drewN ?_ _) | (with_reducible refine Below.alloc ?_ ?_ _) | (with_reducible refine Below.drew ?_) | (with_reducible refine Below.setCell ?_ ?_ _) | go_size)) hw11
  obtain ⟨l1, a0, a1, a2, a3⟩ := D1
  obtain ⟨l2, c0, c1, c2, c3⟩ := D2
  clear D3 D4
  go_wp2_with fail
  refine (words_any _ [7, 1, 62] _ (IntsV.lit _ _ _ _ _ rfl (by simp)) (by simp)).mono ?_; rintro e w12 ⟨rfl, hw12⟩
  have b12 : Below w.heap.size w w12 := chain (by repeat' (first | (with_reducible exact Below.refl _ _) | (with_reducible assumption) | (with_reducible refine below_drewN ?_ _) | (with_reducible refine Below.alloc ?_ ?_ _) | (with_reducible refine Below.drew ?_) | (with_reducible refine Below.setCell ?_ ?_ _) | go_size)) hw12
  have s12 := b12.size
  go_wp2_with fail
  go_ret
  exact ⟨rfl, b12⟩
end Go.Proofs.Ytaobfidjnnhniaa
