/- The reader of bytes: words. -/
import Derived.Test.YtaobfidjnnhniaaRead
import Derived.Test.YtaobfidjnnhniaaBe
import Derived.Laws.Cover3
namespace Go.Proofs.Ytaobfidjnnhniaa
set_option linter.unusedVariables false
set_option linter.unusedSimpArgs false
open Go.ChangeShapes Go.WideShapes Go.ChangeAt Go.RowKit Pl

def wordR : Option (List UInt8) → Nat × Option (List UInt8)
  | none => (0, none)
  | some l => if 4 ≤ l.length then (unbe 0 (l.take 4), some (l.drop 4)) else (0, none)

theorem u32_or (x y k : Nat) (hy : y < 2 ^ k) (hx : x % 2 ^ k = 0) (hs : x + y < 4294967296) : bits BinOp.or IntKind.u32 (x : Int) (y : Int) = ((x + y : Nat) : Int) := by
  show IntKind.u32.wrap ((BitVec.ofInt 32 (x : Int) ||| BitVec.ofInt 32 (y : Int)).toNat : Int) = _
  rw [BitVec.toNat_or, BitVec.ofInt_natCast, BitVec.ofInt_natCast, BitVec.toNat_ofNat, BitVec.toNat_ofNat, Nat.mod_eq_of_lt (by omega), Nat.mod_eq_of_lt (by omega), nat_or x y k hy hx, IntKind.wrap_u32]
  omega
theorem u64_or (x y k : Nat) (hy : y < 2 ^ k) (hx : x % 2 ^ k = 0) (hs : x + y < 18446744073709551616) : bits BinOp.or IntKind.u64 (x : Int) (y : Int) = ((x + y : Nat) : Int) := by
  show IntKind.u64.wrap ((BitVec.ofInt 64 (x : Int) ||| BitVec.ofInt 64 (y : Int)).toNat : Int) = _
  rw [BitVec.toNat_or, BitVec.ofInt_natCast, BitVec.ofInt_natCast, BitVec.toNat_ofNat, BitVec.toNat_ofNat, Nat.mod_eq_of_lt (by omega), Nat.mod_eq_of_lt (by omega), nat_or x y k hy hx, IntKind.wrap_u64]
  omega

theorem or4 (a b c d : Nat) (ha : a < 256) (hb : b < 256) (hc : c < 256) (hd : d < 256) :
    bits BinOp.or IntKind.u32 (bits BinOp.or IntKind.u32 (bits BinOp.or IntKind.u32 ((a : Int) * 16777216) ((b : Int) * 65536)) ((c : Int) * 256)) (d : Int) = ((((a * 256 + b) * 256 + c) * 256 + d : Nat) : Int) := by
  rw [show (a : Int) * 16777216 = ((a * 16777216 : Nat) : Int) from by omega, show (b : Int) * 65536 = ((b * 65536 : Nat) : Int) from by omega, show (c : Int) * 256 = ((c * 256 : Nat) : Int) from by omega,
    u32_or (a * 16777216) (b * 65536) 24 (by omega) (by omega) (by omega), u32_or _ (c * 256) 16 (by omega) (by omega) (by omega), u32_or _ d 8 (by omega) (by omega) (by omega)]
  omega

theorem rnumber_any (a b c d : UInt8) (w : World) : Calls Try.prog 39 #[.agg #[.int .u8 (a.toNat : Int), .int .u8 (b.toNat : Int), .int .u8 (c.toNat : Int), .int .u8 (d.toNat : Int)]] w fun e w' => e = .returned (.int .u32 (unbe 0 [a, b, c, d] : Nat)) ∧ Below w.heap.size w w' := by
  have ha := a.toNat_lt
  have hb := b.toNat_lt
  have hc := c.toNat_lt
  have hd := d.toNat_lt
  have ho := or4 a.toNat b.toNat c.toNat d.toNat ha hb hc hd
  have hu : unbe 0 [a, b, c, d] = ((a.toNat * 256 + b.toNat) * 256 + c.toNat) * 256 + d.toNat := by simp [unbe]
  rw [hu]
  generalize a.toNat = A at *
  have HO := Lib.hid ho
  clear ho hu
  go_enter Try.func39, Try.ntmps39
  go_wp2_with fail
  go_ret
  refine ⟨?_, by repeat' (first | (with_reducible exact Below.refl _ _) | (with_reducible assumption) | (with_reducible refine below_drewN ?_ _) | (with_reducible refine Below.alloc ?_ ?_ _) | (with_reducible refine Below.drew ?_) | (with_reducible refine Below.setCell ?_ ?_ _) | go_size)⟩
  rw [← HO.out]
  rfl

theorem wordR_some {l : List UInt8} (h : 4 ≤ l.length) : ∃ a b c d m, l = a :: b :: c :: d :: m ∧ wordR (some l) = (unbe 0 [a, b, c, d], some m) ∧ takeR 4 (some l) = ([a, b, c, d], some m) := by
  match l, h with
  | a :: b :: c :: d :: m, h =>
    refine ⟨a, b, c, d, m, rfl, ?_, ?_⟩
    · exact if_pos (e := ((0, none) : Nat × Option (List UInt8))) h
    · exact (if_pos (c := 0 ≤ (4 : Int) ∧ (4 : Int) ≤ ((a :: b :: c :: d :: m).length : Int)) ⟨by omega, by simp at h ⊢; omega⟩).trans rfl
theorem wordR_bad {r : Option (List UInt8)} (h : ¬ ∃ l, r = some l ∧ 4 ≤ l.length) : wordR r = (0, none) ∧ takeR 4 r = ([], none) := by
  cases r with
  | none => exact ⟨rfl, rfl⟩
  | some l =>
    have h4 : ¬ 4 ≤ l.length := fun e => h ⟨l, rfl, e⟩
    exact ⟨if_neg h4, if_neg (fun e => h4 (by have := e.2; omega))⟩
theorem wordR_lt (r : Option (List UInt8)) : (wordR r).1 < 4294967296 := by
  by_cases h : ∃ l, r = some l ∧ 4 ≤ l.length
  · obtain ⟨l, rfl, h4⟩ := h
    obtain ⟨a, b, c, d, m, rfl, hw, _⟩ := wordR_some h4
    rw [hw]
    have := unbe_lt [a, b, c, d] 0
    simpa using this
  · rw [(wordR_bad h).1]; omega

theorem rWord_any {g h : Nat} {r : Option (List UInt8)} (w : World) (hr : Rd w g h r) :
    Calls Try.prog 29 #[ptr g] w fun e w' => e = .returned (.int .u32 ((wordR r).1 : Int)) ∧ Rd w' g h (wordR r).2 ∧ w.grownBy w' (some g) := by
  by_cases hl : ∃ l, r = some l ∧ 4 ≤ l.length
  · obtain ⟨l, rfl, h4⟩ := hl
    obtain ⟨a, b, c, d, m, rfl, hw, ht⟩ := wordR_some h4
    rw [hw]
    have HT := Lib.hid ht
    clear hw ht h4
    go_enter Try.func29, Try.ntmps29
    go_wp2_with fail
    refine (take_any 4 _ hr).mono ?_; rintro e w1 ⟨v1, rfl, hv1, ho1, hr1, hg1⟩
    rw [HT.out] at hv1 ho1 hr1
    obtain ⟨A, cc, rfl, k1, k2, k3, hx⟩ := hv1
    obtain ⟨bk, off, rfl, hb, hcell⟩ := hx (by simp)
    have HO := Lib.hid ho1
    have HR := Lib.hid hr1
    have HG := Lib.hid hg1
    have k1 : (4 : Int) ≤ (cc : Int) := by simp at k1; omega
    have e0 := hcell 0 (by simp)
    have e1 := hcell 1 (by simp)
    have e2 := hcell 2 (by simp)
    have e3 := hcell 3 (by simp)
    simp only [List.getElem_cons_zero, List.getElem_cons_succ, Nat.add_zero] at e0 e1 e2 e3
    clear hcell ho1 hr1 hg1
    have hat : ∀ w, (Instr.arrayAt 69 (.slice (some ⟨bk, off, none⟩) 4 cc)).run Try.prog w = .ok (.pointer (some ⟨bk, off, none⟩)) w := fun w => run_arrayAt w 69 _ 4 _ 4 cc Try.underlying69 (by omega)
    go_wp2_with (simp only [hat])
    refine (rnumber_any a b c d _).mono ?_; rintro e w2 ⟨rfl, hw2⟩
    go_wp2_with fail
    go_ret
    exact ⟨rfl, HR.out.below hw2, gtrans HG.out (wb_of hw2 _)⟩
  · obtain ⟨hw, ht⟩ := wordR_bad hl
    rw [hw]
    have HT := Lib.hid ht
    clear hw ht hl
    go_enter Try.func29, Try.ntmps29
    go_wp2_with fail
    refine (take_any 4 _ hr).mono ?_; rintro e w1 ⟨v1, rfl, hv1, ho1, hr1, hg1⟩
    rw [HT.out] at hv1 ho1 hr1
    obtain ⟨A, cc, rfl, k1, k2, k3, hx⟩ := hv1
    have HO := Lib.hid ho1
    have HR := Lib.hid hr1
    have HG := Lib.hid hg1
    clear ho1 hr1 hg1 hx k3
    go_wp2_with fail
    go_ret
    exact ⟨rfl, HR.out, HG.out⟩

def longR (r : Option (List UInt8)) : Nat × Option (List UInt8) :=
  match (wordR (wordR r).2).2 with
  | none => (0, none)
  | some l => ((wordR r).1 * 4294967296 + (wordR (wordR r).2).1, some l)
def flagR (r : Option (List UInt8)) : Bool × Option (List UInt8) := if 1 < (wordR r).1 then (false, none) else ((wordR r).1 == 1, (wordR r).2)
def countR (most : Int) (r : Option (List UInt8)) : Nat × Option (List UInt8) :=
  match (wordR r).2 with
  | none => (0, none)
  | some l => if most < ((wordR r).1 : Int) then (0, none) else ((wordR r).1, some l)

end Go.Proofs.Ytaobfidjnnhniaa
