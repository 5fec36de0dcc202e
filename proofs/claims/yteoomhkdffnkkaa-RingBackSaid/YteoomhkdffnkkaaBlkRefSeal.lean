/- jettyref08.Seal. -/
import Derived.Test.YteoomhkdffnkkaaBlkSum
import Derived.Deep.RegionWith
import Derived.Deep.DeepCutAuto
namespace Go.Proofs.Yteoomhkdffnkkaa
set_option linter.unusedVariables false
set_option linter.unusedSimpArgs false
open Go.ChangeShapes Go.WideShapes Go.ChangeAt Go.RowKit Pl
attribute [local go_sem] ba_toList ba_size zeroValueB

theorem Lies.put {w : World} {g : Nat} {s : List UInt8} {q : Nat} (hq : q < s.length) (hs : s.length ≤ 512) (h : Lies w g (s.take q ++ zs (512 - q))) :
    Lies (w.setCell ⟨g, q, none⟩ (.int .u8 (s[q].toNat : Int))) g (s.take (q + 1) ++ zs (512 - (q + 1))) := by
  have h1 := h.set (j := q) s[q] (by simp; omega)
  have e : (s.take q ++ zs (512 - q)).set q s[q] = s.take (q + 1) ++ zs (512 - (q + 1)) := by
    rw [List.set_append_right _ _ (by simp; omega), List.length_take, Nat.min_eq_left (by omega), Nat.sub_self, List.take_succ_eq_append_getElem hq, List.append_assoc]
    congr 1
    unfold zs
    rw [show 512 - q = (512 - (q + 1)) + 1 from by omega, List.replicate_succ]
    rfl
  rw [e] at h1
  exact h1

def P4 (k : UInt8) (m : Nat) : List UInt8 := [k, 0, UInt8.ofNat (m / 256), UInt8.ofNat m]
abbrev c4 (k : UInt8) (m : Nat) : Array Value := #[.int .u8 (k.toNat : Int), .int .u8 0, .int .u8 (IntKind.u8.wrap ((m : Int) / 256)), .int .u8 (IntKind.u8.wrap (m : Int))]
theorem c4_eq (k : UInt8) (m : Nat) (hm : m ≤ 500) : c4 k m = (bc (P4 k m)).toArray := by
  have e6 : ((UInt8.ofNat (m / 256)).toNat : Int) = IntKind.u8.wrap ((m : Int) / 256) := by rw [b_int, IntKind.wrap_u8]; omega
  have e7 : ((UInt8.ofNat m).toNat : Int) = IntKind.u8.wrap (m : Int) := by rw [b_int, IntKind.wrap_u8]
  unfold P4 c4
  simp only [bc, List.map_cons, List.map_nil, e6, e7]
  rfl
theorem v4 (k : UInt8) (m : Nat) (hm : m ≤ 500) (W : World) (g : Nat) (hg : g = W.heap.size) : BytesV (W.alloc (.cells (c4 k m) 5)) (.slice (some ⟨g, 0, none⟩) 4 4) (P4 k m) := by
  subst hg
  rw [c4_eq k m hm]
  exact bytesV_new W (P4 k m) 5 (by unfold maxLen P4; simp)
theorem cvA (k : UInt8) (m : Nat) (hm : m ≤ 500) (W : World) (g : Nat) (hg : g = W.heap.size) : (convert 54 9 (.slice (some ⟨g, 0, none⟩) 4 4)).run Try.prog (W.alloc (.cells (c4 k m) 5)) = .ok (sv (P4 k m)) (W.alloc (.cells (c4 k m) 5)) :=
  (v4 k m hm W g hg).string Try.underlying54 Try.underlying5 Try.underlying9
theorem cvD (k : UInt8) (m : Nat) (hm : m ≤ 500) (W : World) (g : Nat) (hg : g = W.heap.size) : (convert 54 9 (.slice (some ⟨g, 0, none⟩) 4 4)).run Try.prog (W.alloc (.cells (c4 k m) 5)).drew = .ok (sv (P4 k m)) (W.alloc (.cells (c4 k m) 5)).drew :=
  (v4 k m hm W g hg).drew.string Try.underlying54 Try.underlying5 Try.underlying9
theorem cvB (k : UInt8) (m : Nat) (hm : m ≤ 500) (W w' : World) (g : Nat) (hg : g = W.heap.size) (hb : Below (W.alloc (.cells (c4 k m) 5)).drew.heap.size (W.alloc (.cells (c4 k m) 5)).drew w') :
    (convert 54 9 (.slice (some ⟨g, 0, none⟩) 4 4)).run Try.prog w' = .ok (sv (P4 k m)) w' :=
  ((v4 k m hm W g hg).drew.below hb).string Try.underlying54 Try.underlying5 Try.underlying9

set_option maxRecDepth 100000 in
set_option maxHeartbeats 3200000 in
theorem rseal_any (k : UInt8) (b : Int) (l : List UInt8) (w : World) (hl : l.length ≤ 9223372036854775807) :
    Calls Try.prog 41 #[.int .u8 (k.toNat : Int), .int .i64 b, sv l] w fun r w' => r = .returned (.tuple #[blk (sealL k b l), .int .i64 (sealE b l)]) ∧ Below w.heap.size w w' := by
  have L6 := Lies.new w (zs 512) _ rfl
  have H6 := Lib.hid L6
  clear L6
  by_cases hb : b < 0 ∨ 2147483647 < b
  · have hE : sealE b l = 1 := if_pos hb
    have hL : sealL k b l = zs 512 := if_neg (by rw [hE]; decide)
    rw [hE, hL]
    clear hE hL
    by_cases h1 : b < 0
    all_goals
      try have h2 : 2147483647 < b := by omega
      clear hb
      go_enter Try.func41, Try.ntmps41
      go_wp2_with (with_reducible refine wpList_store_blk (m := zs 512) rfl _ _ rfl rfl rfl H6.out (zs_len 512) (zs_len 512) ?_)
      intro w1 h1 g1
      go_wp2_with fail
      have b1 : Below w.heap.size w w1 := below_row (by repeat' (first | (with_reducible exact Below.refl _ _) | (with_reducible assumption) | (with_reducible refine below_drewN ?_ _) | (with_reducible refine Below.alloc ?_ ?_ _) | (with_reducible refine Below.drew ?_) | (with_reducible refine Below.setCell ?_ ?_ _) | go_size)) g1 (by go_size) (Nat.le_refl _)
      refine bodyPost_ret (results_blk_tmp (p := 6) (q := 7) Try.results41 _ rfl h1 (zs_len 512)) rfl ?_
      exact ⟨rfl, b1⟩
  have hb1 : ¬ b < 0 := by omega
  have hb2 : ¬ 2147483647 < b := by omega
  by_cases h5 : (500 : Int) < (l.length : Int)
  · have hE : sealE b l = 40 := by
      unfold sealE
      rw [if_neg hb, if_pos (by omega)]
    have hL : sealL k b l = zs 512 := if_neg (by rw [hE]; decide)
    rw [hE, hL]
    clear hE hL hb
    go_enter Try.func41, Try.ntmps41
    go_wp2_with (with_reducible refine wpList_store_blk (m := zs 512) rfl _ _ rfl rfl rfl H6.out (zs_len 512) (zs_len 512) ?_)
    intro w1 h1 g1
    go_wp2_with fail
    have b1 : Below w.heap.size w w1 := below_row (by repeat' (first | (with_reducible exact Below.refl _ _) | (with_reducible assumption) | (with_reducible refine below_drewN ?_ _) | (with_reducible refine Below.alloc ?_ ?_ _) | (with_reducible refine Below.drew ?_) | (with_reducible refine Below.setCell ?_ ?_ _) | go_size)) g1 (by go_size) (Nat.le_refl _)
    refine bodyPost_ret (results_blk_tmp (p := 6) (q := 7) Try.results41 _ rfl h1 (zs_len 512)) rfl ?_
    exact ⟨rfl, b1⟩
  obtain ⟨n, rfl⟩ := Int.eq_ofNat_of_zero_le (by omega : 0 ≤ b)
  have hl5 : l.length ≤ 500 := by omega
  have K1 := cvD k l.length hl5 (w.alloc (.cells (ac (zs 512)) 25)) (w.heap.size + 1) (by simp)
  have ad1 : ∀ W : World, (Op.stringOp .add ⟨#[106, 116, 116, 121]⟩ ⟨(P4 k l.length).toArray⟩).run Try.prog W = .ok (sv ([106, 116, 116, 121] ++ P4 k l.length)) W := fun W => by
    have := run_string_add_sum (P := Try.prog) W ⟨([106, 116, 116, 121] : List UInt8).toArray⟩ ⟨(P4 k l.length).toArray⟩ (by rw [ba_size, ba_size]; unfold P4; simp)
    rw [ba_app] at this
    exact this
  have hP4 : (P4 k l.length).length = 4 := rfl
  have n1 : 12 + l.length ≤ 9223372036854775807 := by omega
  have n2 : l.length ≤ 9223372036854775795 := by omega
  have n3 : 4 + 4 + 4 + l.length ≤ 9223372036854775807 := by omega
  have n4 : 8 + 4 + l.length ≤ 9223372036854775807 := by omega
  have HAD := Lib.hid ad1
  go_enter Try.func41, Try.ntmps41
  go_upto_region 5 with (fail)
  go_cut [8] (fun v wc => v = sv (([106, 116, 116, 121] ++ P4 k l.length) ++ be 4 n ++ l) ∧ Below (w.alloc (.cells (ac (zs 512)) 25)).heap.size (w.alloc (.cells (ac (zs 512)) 25)) wc)
  case first =>
    go_region_with
      ((go_at_call 60; refine (word_any n _ (by omega)).mono ?_; rintro r w' ⟨rfl, hw'⟩; have bq := chain (show Below (w.alloc (.cells (ac (zs 512)) 25)).heap.size (w.alloc (.cells (ac (zs 512)) 25)) _ from (by repeat' (first | (with_reducible exact Below.refl _ _) | (with_reducible assumption) | (with_reducible refine below_drewN ?_ _) | (with_reducible refine Below.alloc ?_ ?_ _) | (with_reducible refine Below.drew ?_) | (with_reducible refine Below.setCell ?_ ?_ _) | go_size))) hw'; have sq := bq.size; have K3 := cvA k l.length hl5 w' _ rfl; have K4 := cvD k l.length hl5 w' _ rfl; (try have K2 := cvB k l.length hl5 _ w' (w.heap.size + 1) (by simp) hw')))
    all_goals
      go_wp2_with fail
      go_meet
      refine ⟨by rw [ba_app, ba_app]; rfl, by repeat' (first | (with_reducible exact Below.refl _ _) | (with_reducible assumption) | (with_reducible refine below_drewN ?_ _) | (with_reducible refine Below.alloc ?_ ?_ _) | (with_reducible refine Below.drew ?_) | (with_reducible refine Below.setCell ?_ ?_ _) | go_size)⟩
  case rest =>
    obtain ⟨rfl, hbw⟩ := hcut
    have hE : sealE (n : Int) l = 0 := by
      unfold sealE
      rw [if_neg hb, if_neg (by omega)]
    have hSl : (([106, 116, 116, 121] ++ P4 k l.length) ++ be 4 n ++ l).length = 12 + l.length := by unfold P4; simp; omega
    have hSL : sealL k (n : Int) l = (([106, 116, 116, 121] ++ P4 k l.length) ++ be 4 n ++ l) ++ zs (512 - (12 + l.length)) := by
      unfold sealL
      rw [if_pos hE]
      unfold sealB P4
      rw [Int.toNat_natCast, show 512 - (12 + l.length) = 500 - l.length from by omega]
      simp
    have HE := Lib.hid hE
    have HSL := Lib.hid hSL
    generalize (([106, 116, 116, 121] ++ P4 k l.length) ++ be 4 n ++ l) = S at *
    have hS5 : S.length ≤ 512 := by omega
    have hq5 : (S.length : Int) ≤ 512 := by omega
    have bw : Below w.heap.size w wc := chain (by repeat' (first | (with_reducible exact Below.refl _ _) | (with_reducible assumption) | (with_reducible refine below_drewN ?_ _) | (with_reducible refine Below.alloc ?_ ?_ _) | (with_reducible refine Below.drew ?_) | (with_reducible refine Below.setCell ?_ ?_ _) | go_size)) hbw
    have sw := bw.size
    have h6 := H6.out.below hbw
    have HS := Lib.hid hSl
    have H6c := Lib.hid h6
    have HZ := Lib.hid (Lies.new wc (zs 512) _ rfl)
    clear hE hSL hSl K1 ad1 hP4 n1 n2 n3 n4 HAD h6 hb hb1 hb2 h5
    go_wp2_with (with_reducible refine wpList_store_blk (m := zs 512) rfl _ _ rfl rfl rfl HZ.out (zs_len 512) (zs_len 512) ?_)
    intro w3 h3 g3
    have b3 : Below w.heap.size w w3 := below_row (by repeat' (first | (with_reducible exact Below.refl _ _) | (with_reducible assumption) | (with_reducible refine below_drewN ?_ _) | (with_reducible refine Below.alloc ?_ ?_ _) | (with_reducible refine Below.drew ?_) | (with_reducible refine Below.setCell ?_ ?_ _) | go_size)) g3 (by have := bw.size; simp; omega) bw.size
    have lt6 : w.heap.size < wc.heap.size := H6c.out.lt
    have h63 : Lies w3 w.heap.size (zs 512) := (H6c.out.alloc (.cells (ac (zs 512)) 25)).but g3 (fun e => by have := Option.some.inj e; omega)
    have H3 := Lib.hid h3
    have H63 := Lib.hid h63
    clear h3 h63
    go_wp2_with fail
    go_loopw [10] (fun i W => ∃ q : Nat, q ≤ S.length ∧ i = .int .i64 q ∧ Lies W wc.heap.size (S.take q ++ zs (512 - q)) ∧ Lies W w.heap.size (zs 512) ∧ Below w.heap.size w W) (fun i _ => S.length - (intOf i).toNat)
    case atStart => exact ⟨0, Nat.zero_le _, rfl, H3.out, H63.out, b3⟩
    case round =>
      obtain ⟨q, hq, rfl, hA, hB, bW⟩ := hrel
      by_cases hlt : q < S.length
      · have cq := hA.cell (j := q) (by simp; omega)
        have fq := hA.free q
        have hq1 : (q : Int) < (S.length : Int) := by omega
        have hq2 : (q : Int) < 512 := by omega
        have HA := Lib.hid (hA.put hlt hS5)
        have HB := Lib.hid (hB.setOther ⟨wc.heap.size, q, none⟩ (.int .u8 (S[q].toNat : Int)) (by simp; omega))
        clear hA hB
        go_wp2_with fail
        go_roundw
        case rel => exact ⟨q + 1, hlt, by go_num, HA.out, HB.out, bW.setCell (by simp; omega) _⟩
        case measure => simp [intOf]; omega
      · obtain rfl : S.length = q := by omega
        rw [List.take_length, HS.out, ← HSL.out] at hA
        have hlen := sealL_len k (n : Int) l
        have HL := Lib.hid hlen
        have HA := Lib.hid hA
        have HB := Lib.hid hB
        clear hA hB hlen
        go_wp2_with (first | (with_reducible refine wpList_load_blk rfl _ rfl rfl HA.out HL.out ?_) | (with_reducible refine wpList_store_blk rfl _ _ rfl rfl rfl HB.out (zs_len 512) HL.out ?_))
        intro w5 h5 g5
        go_wp2_with fail
        have b5 : Below w.heap.size w w5 := below_row bW g5 bW.size (Nat.le_refl _)
        rw [HE.out]
        refine bodyPost_ret (results_blk_tmp (p := 6) (q := 7) Try.results41 _ rfl h5 HL.out) rfl ?_
        exact ⟨rfl, b5⟩
end Go.Proofs.Yteoomhkdffnkkaa
