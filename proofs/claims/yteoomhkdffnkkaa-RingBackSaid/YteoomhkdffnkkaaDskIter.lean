/- slices.Backward over a disk's writes. Conditions: none. -/
import Derived.Test.YteoomhkdffnkkaaDskWrite
import Derived.RangeFuncNested
import Derived.RangeFuncLeaves
import Derived.Shelf.Abstract
import Derived.WalkKit
import Derived.OwnWalkIn
import Derived.TacticsInMore
import Derived.LoopNIn
import Derived.LoopIn
namespace Go.Proofs.Yteoomhkdffnkkaa
set_option linter.unusedVariables false
set_option linter.unusedSimpArgs false
open Go.ChangeShapes Go.WideShapes Go.ChangeAt Go.RowKit Go.Shelf
set_option maxRecDepth 100000

attribute [local go_sem] Oper.semAt_some

abbrev W5 := { p : Wr // p.2.length = 512 }
section
variable {F : Fence} {nF : Nat} {ops : Array Oper} {rest : List Oper} {o : Oper} {a : Act} {Q : Exit → Act → World → Prop} {w : World}
theorem wpListIn_load_at (hg : o.guard = none) {ty : TypeId} (x : Operand) (ho : o.op = .load ty x) {p v : Value} (hr : (Instr.loadAt ty p).run Try.prog w = .ok v w) (hx : a.eval x = p)
    (h : wpListIn F nF Try.prog ops Q rest (a.put o.dst v) w) : wpListIn F nF Try.prog ops Q (o :: rest) a w := by
  refine wpListIn_plain hg fun K' hK' => ?_
  unfold Oper.wpIn
  refine ⟨by simp [Oper.about, ho], ?_⟩
  rw [Oper.semAt_plain F _ _ (by rw [ho]; intro c hc'; cases hc')]
  unfold execOp
  simp only [ho, hx, Sem.run_bind, hr, Sem.run_pure, Result.andThen_ok]
  exact hK' _ _ h
theorem wpListIn_store_at (hg : o.guard = none) {ty : TypeId} (x y : Operand) (ho : o.op = .store ty x y) {p v : Value} {w' : World} (hr : (Instr.storeAt ty p v).run Try.prog w = .ok () w') (hx : a.eval x = p) (hy : a.eval y = v)
    (h : wpListIn F nF Try.prog ops Q rest (a.put o.dst undef) w') : wpListIn F nF Try.prog ops Q (o :: rest) a w := by
  refine wpListIn_plain hg fun K' hK' => ?_
  unfold Oper.wpIn
  refine ⟨by simp [Oper.about, ho], ?_⟩
  rw [Oper.semAt_plain F _ _ (by rw [ho]; intro c hc'; cases hc')]
  unfold execOp
  simp only [ho, hx, hy, Sem.run_bind, hr, Sem.run_pure, Result.andThen_ok]
  exact hK' _ _ h
end
theorem run_load_wr {w : World} {b k : Nat} {p : Wr} (hc : w.rangeAt b k (wcell p)) (h5 : p.2.length = 512) : (Instr.loadAt 90 (.pointer (some ⟨b, k, none⟩))).run Try.prog w = .ok (wv p) w :=
  run_loadAt_mid w b k 90 (wcell p) _ hc Try.underlying90 rfl (by rw [size_wr, wcell_len h5])

set_option maxRecDepth 100000 in
set_option maxHeartbeats 2000000 in
theorem back1_in (F : Fence) (n : Nat) (hf : F.fn 75) (hro : F.round = none) (hn : 1 ≤ n) (l Bs n₀ len cap : Nat) (A : Option Addr) (xs : List (Nat × W5)) (hxl : xs.length = len) (hlen : len ≤ 1073741824) (J Jx : List (Nat × W5) → World → Prop)
    (hY : ∀ pre x W, J pre W → pre.length < len → YieldAt F (n - 1) Try.prog l #[.int .i64 (x.1 : Int), wv x.2.1] W fun e W' =>
      (e = .returned (.bool true) ∧ J (pre ++ [x]) W' ∧ Below n₀ W W') ∨ (e = .returned (.bool false) ∧ Jx (pre ++ [x]) W'))
    (W : World) (hBs : W.cell? ⟨Bs, 0, none⟩ = some (.slice A len cap)) (hBl : Bs < n₀) (hlc : len ≤ cap)
    (hx : ∀ k (hk : k < xs.length), (xs[k]).1 = len - 1 - k ∧ ∃ b, A = some ⟨b, 0, none⟩ ∧ ∀ W', Below n₀ W W' → W'.rangeAt b ((len - 1 - k) * 513) (wcell (xs[k]).2.1)) (h0 : J [] W) :
    CallsIn F n Try.prog 75 #[.func (.yield l) #[] #[], .pointer (some ⟨Bs, 0, none⟩)] W fun e W' => (∃ v, e = .returned v) ∧
      ((∃ ys, ys = xs ∧ J ys W') ∨ (∃ pre, pre <+: xs ∧ Jx pre W')) := by
  have HX := Lib.hid hx
  clear hx
  refine callsIn_of_wp Try.func75 rfl hf ?_ hro
  simp only [Try.ntmps75, List.size_toArray, List.length_cons, List.length_nil, Nat.reduceAdd, Nat.reduceSub, Array.replicate_succ, Array.replicate_zero, List.push_toArray, List.append_toArray, List.nil_append, List.cons_append]
  gi_wp2
  gi_loopw [3] (fun i wr => ∃ k : Nat, k ≤ len ∧ i = .int .i64 ((len : Int) - 1 - (k : Int)) ∧ J (xs.take k) wr ∧ Below n₀ W wr)
    (fun i _ => (intOf i + 1).toNat)
  case atStart => exact ⟨0, Nat.zero_le _, by simp, by rw [List.take_zero]; exact h0, Below.refl _ _⟩
  case round =>
    obtain ⟨k, hk, rfl, hJs, hnx⟩ := hrel
    by_cases hlt : k < len
    · obtain ⟨j, hj⟩ : ∃ j : Nat, j + k + 1 = len := ⟨len - 1 - k, by omega⟩
      have hji : (len : Int) - 1 - (k : Int) = (j : Int) := by omega
      have hjl : (j : Int) < (len : Int) := by omega
      have hj0 : (0 : Int) ≤ (j : Int) := by omega
      obtain ⟨hx1, b, rfl, hxr⟩ := HX.out k (by omega)
      have hxr' := hxr wr hnx
      rw [show len - 1 - k = j from by omega] at hx1 hxr'
      have htk : xs.take (k + 1) = xs.take k ++ [xs[k]'(by omega)] := List.take_succ_eq_append_getElem (by omega)
      have hpl : (xs.take k).length < len := by rw [List.length_take]; omega
      clear hxr
      obtain ⟨x, hxe⟩ : ∃ x, x = xs[k]'(by omega) := ⟨_, rfl⟩
      rw [← hxe] at hx1 hxr' htk
      clear hxe
      obtain ⟨x1, xp, x5⟩ := x
      dsimp only at hx1 hxr'
      subst hx1
      obtain ⟨fn, tmps, assign, body, hy, hR⟩ := hY _ (x1, ⟨xp, x5⟩) wr hJs hpl
      dsimp only at hy
      have hbs : wr.cell? ⟨Bs, 0, none⟩ = some (.slice (some ⟨b, 0, none⟩) len cap) := (hnx.cell (p := ⟨Bs, 0, none⟩) hBl).trans hBs
      have HR := Lib.hid (run_load_wr hxr' x5)
      have HT := Lib.hid htk
      clear hxr' htk hBs
      rw [hji]
      gi_wp2_with (with_reducible refine wpListIn_load_at rfl _ rfl HR.out rfl ?_)
      refine hR.mono ?_
      rintro e W3 (⟨rfl, hJ3, hk3⟩ | ⟨rfl, hJx3⟩)
      · gi_wp2
        go_roundw
        case rel => exact ⟨k + 1, by omega, by simp; omega, by rw [HT.out]; exact hJ3, hnx.trans hk3⟩
        case measure => simp [intOf]
      · gi_wp2
        refine bodyPost_ret (results_none rfl _ _ _) rfl ?_
        exact ⟨⟨_, rfl⟩, .inr ⟨_, by rw [← HT.out]; exact List.take_prefix _ _, hJx3⟩⟩
    · obtain rfl : k = len := by omega
      have hji : (k : Int) - 1 - (k : Int) = -1 := by omega
      rw [hji]
      gi_wp2
      go_end0
      exact ⟨⟨_, rfl⟩, .inl ⟨_, rfl, by rw [← hxl, List.take_length] at hJs; exact hJs⟩⟩

set_option maxHeartbeats 1000000 in
theorem back_in (F : Fence) (n : Nat) (hf : F.fn 68) (hro : F.round = none) (a : Option Addr) (len cap : Nat) (w : World) :
    CallsIn F n Try.prog 68 #[.slice a len cap] w fun e w' => e = .returned (.func (.func 75) #[] #[.pointer (some ⟨w.heap.size, 0, none⟩)]) ∧ w' = w.alloc (.cells #[.slice a len cap] 85) := by
  refine callsIn_of_wp Try.func68 rfl hf ?_ hro
  simp only [Try.ntmps68, List.size_toArray, List.length_cons, List.length_nil, Nat.reduceAdd, Nat.reduceSub, Array.replicate_succ, Array.replicate_zero, List.push_toArray, List.append_toArray, List.nil_append, List.cons_append]
  gi_wp2
  go_ret
  exact ⟨rfl, rfl⟩

/-- The writes as they come: the last one first. -/
theorem back_stops (F : Fence) (n : Nat) (hf : F.fn 75) (hro : F.round = none) (hn : 1 ≤ n) (Bs n₀ len cap : Nat) (A : Option Addr) (xs : List (Nat × W5)) (hxl : xs.length = len) (hlen : len ≤ 1073741824) (w : World) (hBs : Bs < n₀) (hn₀ : n₀ ≤ w.heap.size)
    (hc : w.cell? ⟨Bs, 0, none⟩ = some (.slice A len cap)) (hlc : len ≤ cap)
    (hx : ∀ k (hk : k < xs.length), (xs[k]).1 = len - 1 - k ∧ ∃ b, A = some ⟨b, 0, none⟩ ∧ ∀ W', Below n₀ w W' → W'.rangeAt b ((len - 1 - k) * 513) (wcell (xs[k]).2.1)) :
    SeqStopsK F n Try.prog 75 #[.pointer (some ⟨Bs, 0, none⟩)] (fun x : Nat × W5 => #[.int .i64 (x.1 : Int), wv x.2.1]) (Below n₀) (fun ys => ys = xs) (fun pre => pre <+: xs) len w := fun l J Jx W hW _ _ hY h0 =>
  back1_in F n hf hro hn l Bs n₀ len cap A xs hxl hlen J Jx hY W ((hW.cell (p := ⟨Bs, 0, none⟩) (by show Bs < _; omega)).trans hc) hBs hlc
    (fun k hk => by obtain ⟨h1, b, h2, h3⟩ := hx k hk; exact ⟨h1, b, h2, fun W' hW' => h3 W' ((hW.mono hn₀).trans hW')⟩) h0
end Go.Proofs.Yteoomhkdffnkkaa
