/- The sum of bytes: digest.Sum, jettyref06.Sum; block.Sum, jettyref08.Sum. -/
import Derived.Test.YteoomhkdffnkkaaBlkOpen
namespace Go.Proofs.Yteoomhkdffnkkaa
set_option linter.unusedVariables false
set_option linter.unusedSimpArgs false
open Go.ChangeShapes Go.WideShapes Go.ChangeAt Go.RowKit Pl
attribute [local go_sem] ba_toList ba_size

theorem fnv_snoc (l : List UInt8) (c : UInt8) (u : Nat) : fnv u (l ++ [c]) = ((fnv u l ^^^ c.toNat) * 1099511628211) % 18446744073709551616 := by
  rw [fnv_append]; rfl

theorem fnv_step (u : Nat) (c : UInt8) (hu : u < 18446744073709551616) :
    IntKind.u64.wrap (bits BinOp.xor IntKind.u64 (u : Int) (IntKind.u64.wrap (c.toNat : Int)) * 1099511628211) = (((u ^^^ c.toNat) * 1099511628211 % 18446744073709551616 : Nat) : Int) := by
  have hc := c.toNat_lt
  have e1 : IntKind.u64.wrap (c.toNat : Int) = (c.toNat : Int) := IntWalk.u64_in _ (by omega)
  have hx : u ^^^ c.toNat < 2 ^ 64 := Nat.xor_lt_two_pow (by omega) (by omega)
  have e2 : bits BinOp.xor IntKind.u64 (u : Int) (c.toNat : Int) = ((u ^^^ c.toNat : Nat) : Int) := by
    show IntKind.u64.wrap ((BitVec.ofInt 64 (u : Int) ^^^ BitVec.ofInt 64 (c.toNat : Int)).toNat : Int) = _
    rw [BitVec.toNat_xor, BitVec.ofInt_natCast, BitVec.ofInt_natCast, BitVec.toNat_ofNat, BitVec.toNat_ofNat, Nat.mod_eq_of_lt (by omega), Nat.mod_eq_of_lt (by omega), IntKind.wrap_u64]
    omega
  rw [e1, e2, IntKind.wrap_u64]
  omega

theorem take_snoc {α : Type} (l : List α) (k : Nat) (h : k < l.length) : l.take (k + 1) = l.take k ++ [l[k]] := by
  rw [List.take_succ_eq_append_getElem h]

theorem take_snocL (l : List UInt8) (k : Nat) (h : k < l.length) : l.take (k + 1) = l.take k ++ [l[k]] := List.take_succ_eq_append_getElem h

set_option maxHeartbeats 800000 in
theorem on_any (l : List UInt8) (w : World) (hl : l.length ≤ 9223372036854775807) : Calls Try.prog 59 #[.int .u64 (fnv0 : Int), sv l] w fun e w' => e = .returned (.int .u64 (fnv fnv0 l : Int)) ∧ w = w' := by
  go_enter Try.func59, Try.ntmps59
  go_wp2
  go_loop [0, 5, 8] (fun u _ i => ∃ k : Nat, k ≤ l.length ∧ i = .int .i64 k ∧ u = .int .u64 (fnv fnv0 (l.take k) : Int)) (fun _ _ i => l.length - (intOf i).toNat)
  case atStart => exact ⟨0, Nat.zero_le _, rfl, rfl⟩
  case round =>
    obtain ⟨k, hk, rfl, rfl⟩ := hrel
    by_cases hlt : k < l.length
    · have hx : (k : Int) < (l.length : Int) := by omega
      have hu := fnv_lt (l.take k) (u := fnv0) (by decide)
      have hst := fnv_step (fnv fnv0 (l.take k)) l[k] hu
      have hts : fnv fnv0 (l.take (k + 1)) = ((fnv fnv0 (l.take k) ^^^ (l[k]).toNat) * 1099511628211) % 18446744073709551616 := by rw [take_snocL l k hlt, fnv_snoc]
      have HT := Lib.hid hts
      have HST := Lib.hid hst
      clear hts hst
      go_wp2
      go_round
      case rel => exact ⟨k + 1, hlt, by go_num, by rw [HT.out, ← HST.out]; rfl⟩
      case measure => simp [intOf]; omega
    · obtain rfl : k = l.length := by omega
      rw [List.take_length]
      go_wp2
      go_ret
      exact ⟨rfl, rfl⟩

theorem fnv0_int : ((fnv0 : Nat) : Int) = 14695981039346656037 := rfl
theorem dsum_any (l : List UInt8) (w : World) (hl : l.length ≤ 9223372036854775807) : Calls Try.prog 40 #[sv l] w fun e w' => e = .returned (.int .u64 (fnv fnv0 l : Int)) ∧ w = w' := by
  have h := fun W : World => on_any l W hl
  rw [fnv0_int] at h
  have H := Lib.hid h
  clear h
  go_enter Try.func40, Try.ntmps40
  go_wp2_with fail
  refine (H.out _).mono ?_; rintro e w' ⟨rfl, rfl⟩
  go_wp2_with fail
  go_ret
  exact ⟨rfl, rfl⟩

theorem On_any (u : Int) (c : UInt8) (w : World) : Calls Try.prog 72 #[.int .u64 u, .int .u8 (c.toNat : Int)] w fun e w' => e = .returned (.int .u64 (IntKind.u64.wrap (bits BinOp.xor IntKind.u64 u (IntKind.u64.wrap (c.toNat : Int)) * 1099511628211))) ∧ w = w' := by
  go_enter Try.func72, Try.ntmps72
  go_wp2_with fail
  go_ret
  exact ⟨rfl, rfl⟩

set_option maxHeartbeats 800000 in
theorem From_any (l : List UInt8) (w : World) (hl : l.length ≤ 9223372036854775807) : Calls Try.prog 61 #[.int .u64 (fnv0 : Int), sv l] w fun e w' => e = .returned (.int .u64 (fnv fnv0 l : Int)) ∧ w = w' := by
  go_enter Try.func61, Try.ntmps61
  go_wp2
  go_loop [0, 5] (fun u i => ∃ k : Nat, k ≤ l.length ∧ i = .int .i64 k ∧ u = .int .u64 (fnv fnv0 (l.take k) : Int)) (fun _ i => l.length - (intOf i).toNat)
  case atStart => exact ⟨0, Nat.zero_le _, rfl, rfl⟩
  case round =>
    obtain ⟨k, hk, rfl, rfl⟩ := hrel
    by_cases hlt : k < l.length
    · have hx : (k : Int) < (l.length : Int) := by omega
      have hu := fnv_lt (l.take k) (u := fnv0) (by decide)
      have hst := fnv_step (fnv fnv0 (l.take k)) l[k] hu
      have hts : fnv fnv0 (l.take (k + 1)) = ((fnv fnv0 (l.take k) ^^^ (l[k]).toNat) * 1099511628211) % 18446744073709551616 := by rw [take_snocL l k hlt, fnv_snoc]
      have HT := Lib.hid hts
      have HST := Lib.hid hst
      clear hts hst
      go_wp2_with fail
      refine (On_any _ l[k] _).mono ?_; rintro e w' ⟨rfl, rfl⟩
      rw [HST.out, ← HT.out]
      go_wp2_with fail
      go_round
      case rel => exact ⟨k + 1, hlt, by go_num, rfl⟩
      case measure => simp [intOf]; omega
    · obtain rfl : k = l.length := by omega
      rw [List.take_length]
      go_wp2
      go_ret
      exact ⟨rfl, rfl⟩
theorem rsum_any (l : List UInt8) (w : World) (hl : l.length ≤ 9223372036854775807) : Calls Try.prog 43 #[sv l] w fun e w' => e = .returned (.int .u64 (fnv fnv0 l : Int)) ∧ w = w' := by
  have h := fun W : World => From_any l W hl
  rw [fnv0_int] at h
  have H := Lib.hid h
  clear h
  go_enter Try.func43, Try.ntmps43
  go_wp2_with fail
  refine (H.out _).mono ?_; rintro e w' ⟨rfl, rfl⟩
  go_wp2_with fail
  go_ret
  exact ⟨rfl, rfl⟩

def bSum (l : List UInt8) : Int := (fnv fnv0 l : Nat)
theorem bytes_any (l : List UInt8) (w : World) (hl : l.length = 512) : Calls Try.prog 66 #[blk l] w fun e w' => e = .returned (sv l) ∧ Below w.heap.size w w' := by
  have L0 := Lies.new w l _ rfl
  have hb := L0.bytes 0 512 512 (by omega) (by omega) (by unfold maxLen; omega)
  rw [List.drop_zero, List.take_of_length_le (by omega)] at hb
  have hcv := hb.string (P := Try.prog) Try.underlying54 Try.underlying5 Try.underlying9
  clear hb hl L0
  go_enter Try.func66, Try.ntmps66
  go_wp2_with fail
  go_ret
  exact ⟨rfl, by repeat' (first | (with_reducible exact Below.refl _ _) | (with_reducible assumption) | (with_reducible refine below_drewN ?_ _) | (with_reducible refine Below.alloc ?_ ?_ _) | (with_reducible refine Below.drew ?_) | (with_reducible refine Below.setCell ?_ ?_ _) | go_size)⟩
end Go.Proofs.Yteoomhkdffnkkaa
