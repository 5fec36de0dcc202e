/- What the references' Word, Number and Encode compute (walks). Conditions: bounds of machine numbers. -/
import Derived.Test.YtchldgedpncggaaHandleEncode
namespace Go.Proofs.Ytchldgedpncggaa
set_option linter.unusedVariables false
set_option linter.unusedSimpArgs false
open Go.RowKit Pl

theorem ret_int {k : IntKind} {a b : Int} (h : a = b) : Ending.returned (.int k a) = .returned (.int k b) := by rw [h]

theorem be4 (n : Nat) : be 4 n = [UInt8.ofNat (n / 16777216), UInt8.ofNat (n / 65536), UInt8.ofNat (n / 256), UInt8.ofNat n] := by
  simp [be]
theorem b_int (n : Nat) : ((UInt8.ofNat n).toNat : Int) = (n : Int) % 256 := by rw [ofNat_toNat]; rfl

theorem word_cells (n : Nat) (w : World) (hn : n < 9223372036854775808) :
    (convert 33 9 (.slice (some ⟨w.heap.size, 0, none⟩) 4 4)).run Try.prog (w.alloc (.cells #[.int .u8 ((n : Int) / 16777216 % 256), .int .u8 ((n : Int) / 65536 % 256), .int .u8 ((n : Int) / 256 % 256), .int .u8 ((n : Int) % 256)] 5)) =
      .ok (sv (be 4 n)) (w.alloc (.cells #[.int .u8 ((n : Int) / 16777216 % 256), .int .u8 ((n : Int) / 65536 % 256), .int .u8 ((n : Int) / 256 % 256), .int .u8 ((n : Int) % 256)] 5)) := by
  have hb : (#[.int .u8 ((n : Int) / 16777216 % 256), .int .u8 ((n : Int) / 65536 % 256), .int .u8 ((n : Int) / 256 % 256), .int .u8 ((n : Int) % 256)] : Array Value) = (bc (be 4 n)).toArray := by
    rw [be4]
    simp only [bc, List.map_cons, List.map_nil, b_int]
    rfl
  rw [hb]
  refine BytesV.string (l := be 4 n) (w := w.alloc (.cells (bc (be 4 n)).toArray 5)) ?_ Try.underlying33 Try.underlying5 Try.underlying9
  have := BytesV.of_own (w := w.alloc (.cells (bc (be 4 n)).toArray 5)) (l := be 4 n) (v := .slice (some ⟨w.heap.size, 0, none⟩) 4 4) (base := 0) (e := 5) (n := 4)
    ⟨by simp, .inr ⟨w.heap.size, 4, _, rfl, Nat.zero_le _, heap_alloc_new w _, by omega, by unfold maxLen; omega, by simp, by rw [show 4 * 1 = (bc (be 4 n)).length from by simp, List.take_length]⟩⟩
  exact this

theorem word_any (n : Nat) (w : World) (hn : n < 9223372036854775808) : Calls Try.prog 23 #[.int .i64 (n : Int)] w fun e w' => e = .returned (sv (be 4 n)) ∧ Below w.heap.size w w' := by
  have hcv := word_cells n w hn
  have hcv' := Lib.hid hcv
  go_enter Try.func23, Try.ntmps23
  go_wp2_with fail
  go_ret
  exact ⟨rfl, by go_grown⟩

theorem num4 (x0 x1 x2 x3 : UInt8) : wrap64 (wrap64 (wrap64 (wrap64 (wrap64 (x0.toNat : Int) * 16777216) + wrap64 (wrap64 (x1.toNat : Int) * 65536)) + wrap64 (wrap64 (x2.toNat : Int) * 256)) + wrap64 (x3.toNat : Int)) = (unbe 0 [x0, x1, x2, x3] : Int) := by
  have h0 := x0.toNat_lt
  have h1 := x1.toNat_lt
  have h2 := x2.toNat_lt
  have h3 := x3.toNat_lt
  have e0 := IntWalk.wrap64_in (x0.toNat : Int) (by omega)
  have e1 := IntWalk.wrap64_in (x1.toNat : Int) (by omega)
  have e2 := IntWalk.wrap64_in (x2.toNat : Int) (by omega)
  have e3 := IntWalk.wrap64_in (x3.toNat : Int) (by omega)
  rw [e0, e1, e2, e3, IntWalk.wrap64_in ((x0.toNat : Int) * 16777216) (by omega), IntWalk.wrap64_in ((x1.toNat : Int) * 65536) (by omega), IntWalk.wrap64_in ((x2.toNat : Int) * 256) (by omega),
    IntWalk.wrap64_in ((x0.toNat : Int) * 16777216 + (x1.toNat : Int) * 65536) (by omega), IntWalk.wrap64_in ((x0.toNat : Int) * 16777216 + (x1.toNat : Int) * 65536 + (x2.toNat : Int) * 256) (by omega),
    IntWalk.wrap64_in ((x0.toNat : Int) * 16777216 + (x1.toNat : Int) * 65536 + (x2.toNat : Int) * 256 + (x3.toNat : Int)) (by omega)]
  have : unbe 0 [x0, x1, x2, x3] = ((x0.toNat * 256 + x1.toNat) * 256 + x2.toNat) * 256 + x3.toNat := by simp [unbe]
  rw [this]
  omega

theorem number_any (l : List UInt8) (w : World) (hn : l.length = 4) : Calls Try.prog 24 #[sv l] w fun e w' => e = .returned (.int .i64 (unbe 0 l : Int)) ∧ ∃ n, w' = w.drewN n := by
  match l, hn with
  | [x0, x1, x2, x3], _ =>
    unfold sv
    go_enter Try.func24, Try.ntmps24
    go_wp2_with fail
    go_quiet (fail)
    go_wp2
    go_ret
    exact ⟨ret_int (num4 x0 x1 x2 x3), nq, rfl⟩
end Go.Proofs.Ytchldgedpncggaa
