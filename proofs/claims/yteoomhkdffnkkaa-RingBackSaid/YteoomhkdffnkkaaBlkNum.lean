/- Words of four bytes: block.word, block.number, jettyref04.Word, jettyref04.Number. Conditions: bounds of machine numbers. -/
import Derived.Test.YteoomhkdffnkkaaArr
import Derived.Test.YteoomhkdffnkkaaBe
import Derived.Deep.QuietTactic
namespace Go.Proofs.Yteoomhkdffnkkaa
set_option linter.unusedVariables false
set_option linter.unusedSimpArgs false
open Go.RowKit Pl

theorem word_cells (n : Nat) (w : World) (hn : n < 9223372036854775808) :
    (convert 54 9 (.slice (some ⟨w.heap.size, 0, none⟩) 4 4)).run Try.prog (w.alloc (.cells #[.int .u8 ((n : Int) / 16777216 % 256), .int .u8 ((n : Int) / 65536 % 256), .int .u8 ((n : Int) / 256 % 256), .int .u8 ((n : Int) % 256)] 5)) =
      .ok (sv (be 4 n)) (w.alloc (.cells #[.int .u8 ((n : Int) / 16777216 % 256), .int .u8 ((n : Int) / 65536 % 256), .int .u8 ((n : Int) / 256 % 256), .int .u8 ((n : Int) % 256)] 5)) := by
  have hb : (#[.int .u8 ((n : Int) / 16777216 % 256), .int .u8 ((n : Int) / 65536 % 256), .int .u8 ((n : Int) / 256 % 256), .int .u8 ((n : Int) % 256)] : Array Value) = (bc (be 4 n)).toArray := by
    rw [be4]
    simp only [bc, List.map_cons, List.map_nil, b_int]
    rfl
  rw [hb]
  refine BytesV.string (l := be 4 n) (w := w.alloc (.cells (bc (be 4 n)).toArray 5)) ?_ Try.underlying54 Try.underlying5 Try.underlying9
  have := BytesV.of_own (w := w.alloc (.cells (bc (be 4 n)).toArray 5)) (l := be 4 n) (v := .slice (some ⟨w.heap.size, 0, none⟩) 4 4) (base := 0) (e := 5) (n := 4)
    ⟨by simp, .inr ⟨w.heap.size, 4, _, rfl, Nat.zero_le _, heap_alloc_new w _, by omega, by unfold maxLen; omega, by simp, by rw [show 4 * 1 = (bc (be 4 n)).length from by simp, List.take_length]⟩⟩
  exact this

theorem word_any (n : Nat) (w : World) (hn : n < 9223372036854775808) : Calls Try.prog 60 #[.int .i64 (n : Int)] w fun e w' => e = .returned (sv (be 4 n)) ∧ Below w.heap.size w w' := by
  have hcv := word_cells n w hn
  have hcv' := Lib.hid hcv
  go_enter Try.func60, Try.ntmps60
  go_wp2_with fail
  go_ret
  exact ⟨rfl, by go_grown⟩

theorem num4 (x0 x1 x2 x3 : UInt8) : wrap64 (wrap64 (wrap64 (wrap64 (wrap64 (x0.toNat : Int) * 16777216) + wrap64 (wrap64 (x1.toNat : Int) * 65536)) + wrap64 (wrap64 (x2.toNat : Int) * 256)) + wrap64 (x3.toNat : Int)) = (unbe 0 [x0, x1, x2, x3] : Int) := by
  have h0 := x0.toNat_lt
  have h1 := x1.toNat_lt
  have h2 := x2.toNat_lt
  have h3 := x3.toNat_lt
  have e0 := IntWalk.wrap64_in (x0.toNat : Int) (by omega)
  have e1 := IntWalk.wrap64_in (x1.toNat : Int) (by omega)
  have e2 := IntWalk.wrap64_in (x2.toNat : Int) (by omega)
  have e3 := IntWalk.wrap64_in (x3.toNat : Int) (by omega)
  rw [e0, e1, e2, e3, IntWalk.wrap64_in ((x0.toNat : Int) * 16777216) (by omega), IntWalk.wrap64_in ((x1.toNat : Int) * 65536) (by omega), IntWalk.wrap64_in ((x2.toNat : Int) * 256) (by omega),
    IntWalk.wrap64_in ((x0.toNat : Int) * 16777216 + (x1.toNat : Int) * 65536) (by omega), IntWalk.wrap64_in ((x0.toNat : Int) * 16777216 + (x1.toNat : Int) * 65536 + (x2.toNat : Int) * 256) (by omega),
    IntWalk.wrap64_in ((x0.toNat : Int) * 16777216 + (x1.toNat : Int) * 65536 + (x2.toNat : Int) * 256 + (x3.toNat : Int)) (by omega)]
  have : unbe 0 [x0, x1, x2, x3] = ((x0.toNat * 256 + x1.toNat) * 256 + x2.toNat) * 256 + x3.toNat := by simp [unbe]
  rw [this]
  omega

theorem number_any (l : List UInt8) (w : World) (hn : l.length = 4) : Calls Try.prog 67 #[sv l] w fun e w' => e = .returned (.int .i64 (unbe 0 l : Int)) ∧ ∃ n, w' = w.drewN n := by
  match l, hn with
  | [x0, x1, x2, x3], _ =>
    unfold sv
    go_enter Try.func67, Try.ntmps67
    go_wp2_with fail
    go_quiet (fail)
    go_wp2
    go_ret
    exact ⟨ret_int (num4 x0 x1 x2 x3), nq, rfl⟩

theorem word_int (n : Int) (w : World) (h0 : 0 ≤ n) (hn : n < 9223372036854775808) : Calls Try.prog 60 #[.int .i64 n] w fun e w' => e = .returned (sv (be 4 n.toNat)) ∧ Below w.heap.size w w' := by
  obtain ⟨n, rfl⟩ := Int.eq_ofNat_of_zero_le h0
  rw [Int.toNat_natCast]
  exact word_any n w (by omega)

theorem bword_any (n : Nat) (w : World) (hn : n < 9223372036854775808) : Calls Try.prog 48 #[.int .i64 (n : Int)] w fun e w' => e = .returned (.agg (bc (be 4 n)).toArray) ∧ Below w.heap.size w w' := by
  have hb : (bc (be 4 n)).toArray = (#[.int .u8 ((n : Int) / 16777216 % 256), .int .u8 ((n : Int) / 65536 % 256), .int .u8 ((n : Int) / 256 % 256), .int .u8 ((n : Int) % 256)] : Array Value) := by
    rw [be4]
    simp only [bc, List.map_cons, List.map_nil, b_int]
    rfl
  have HB := Lib.hid hb
  clear hb
  go_enter Try.func48, Try.ntmps48
  go_wp2
  go_returns
  rw [HB.out]
  exact ⟨rfl, by go_grown⟩

theorem i64_or (x y k : Nat) (hy : y < 2 ^ k) (hx : x % 2 ^ k = 0) (hs : x + y < 9223372036854775808) : bits BinOp.or IntKind.i64 (x : Int) (y : Int) = ((x + y : Nat) : Int) := by
  show IntKind.i64.wrap ((BitVec.ofInt 64 (x : Int) ||| BitVec.ofInt 64 (y : Int)).toNat : Int) = _
  rw [BitVec.toNat_or, BitVec.ofInt_natCast, BitVec.ofInt_natCast, BitVec.toNat_ofNat, BitVec.toNat_ofNat, Nat.mod_eq_of_lt (by omega), Nat.mod_eq_of_lt (by omega), nat_or x y k hy hx]
  exact IntWalk.i64_in _ (by omega)
theorem or4i (a b c d : Nat) (ha : a < 256) (hb : b < 256) (hc : c < 256) (hd : d < 256) :
    bits BinOp.or IntKind.i64 (bits BinOp.or IntKind.i64 (bits BinOp.or IntKind.i64 ((a : Int) * 16777216) ((b : Int) * 65536)) ((c : Int) * 256)) (d : Int) = ((((a * 256 + b) * 256 + c) * 256 + d : Nat) : Int) := by
  rw [show (a : Int) * 16777216 = ((a * 16777216 : Nat) : Int) from by omega, show (b : Int) * 65536 = ((b * 65536 : Nat) : Int) from by omega, show (c : Int) * 256 = ((c * 256 : Nat) : Int) from by omega,
    i64_or (a * 16777216) (b * 65536) 24 (by omega) (by omega) (by omega), i64_or _ (c * 256) 16 (by omega) (by omega) (by omega), i64_or _ d 8 (by omega) (by omega) (by omega)]
  omega
theorem or2i (a b : Nat) (ha : a < 256) (hb : b < 256) : bits BinOp.or IntKind.i64 ((a : Int) * 256) (b : Int) = ((a * 256 + b : Nat) : Int) := by
  rw [show (a : Int) * 256 = ((a * 256 : Nat) : Int) from by omega, i64_or (a * 256) b 8 (by omega) (by omega) (by omega)]
theorem bnumber_any (a b c d : UInt8) (w : World) : Calls Try.prog 62 #[.agg #[.int .u8 (a.toNat : Int), .int .u8 (b.toNat : Int), .int .u8 (c.toNat : Int), .int .u8 (d.toNat : Int)]] w fun e w' => e = .returned (.int .i64 (unbe 0 [a, b, c, d] : Nat)) ∧ Below w.heap.size w w' := by
  have ha := a.toNat_lt
  have hb := b.toNat_lt
  have hc := c.toNat_lt
  have hd := d.toNat_lt
  have ho := or4i a.toNat b.toNat c.toNat d.toNat ha hb hc hd
  have hu : unbe 0 [a, b, c, d] = ((a.toNat * 256 + b.toNat) * 256 + c.toNat) * 256 + d.toNat := by simp [unbe]
  rw [hu]
  generalize a.toNat = A at *
  have HO := Lib.hid ho
  clear ho hu
  go_enter Try.func62, Try.ntmps62
  go_wp2_with fail
  go_ret
  refine ⟨?_, by repeat' (first | (with_reducible exact Below.refl _ _) | (with_reducible assumption) | (with_reducible refine below_drewN ?_ _) | (with_reducible refine Below.alloc ?_ ?_ _) | (with_reducible refine Below.drew ?_) | (with_reducible refine Below.setCell ?_ ?_ _) | go_size)⟩
  rw [← HO.out]
  rfl
end Go.Proofs.Yteoomhkdffnkkaa
