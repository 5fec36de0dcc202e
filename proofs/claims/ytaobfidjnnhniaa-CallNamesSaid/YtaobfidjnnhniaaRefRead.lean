/- The document's reader (jettyref01.Reader): new; Word. -/
import Derived.Test.YtaobfidjnnhniaaRead3
namespace Go.Proofs.Ytaobfidjnnhniaa
set_option linter.unusedVariables false
set_option linter.unusedSimpArgs false
open Go.ChangeShapes Go.WideShapes Go.ChangeAt Go.RowKit Pl

theorem rrfail_any {g h : Nat} {r : Option (List UInt8)} (w : World) (hr : Rd w g h r) : Calls Try.prog 41 #[ptr g] w fun e w' => e = .returned (.tuple #[]) ∧ Rd w' g h none ∧ w.grownBy w' (some g) := by
  obtain ⟨v, hv, ho, c0, c1, f0, f1, hg, hj⟩ := hr
  have HJ := Lib.hid hj
  clear hj
  go_enter Try.func41, Try.ntmps41
  go_wp2_with fail
  ((try simp only [Exit.inBlock, Exit.then]); refine bodyPost_end (results_none rfl _ _ _) rfl ?_)
  have g1 := wb_set (World.grownBy.refl w (some g)) 1 (.bool true)
  have c1' := World.cell?_setCell_same w ⟨g, 1, none⟩ (.bool true) c1
  have c0' := World.cell?_setCell_other w ⟨g, 1, none⟩ ⟨g, 0, none⟩ (.bool true) (fun e => by cases e)
  exact ⟨rfl, Rd.new (c0'.trans c0) c1' (by simpa using f0) (by simpa using f1) (by simpa [World.setCell] using hg) (fun j h2 => by rw [World.cell?_setCell_other _ _ _ _ (fun e => by injection e; omega)]; exact HJ.out j h2) (BytesV.nil _) (fun a n c e => by cases e), wb_set g1 0 _⟩

theorem unbe_take {l : List UInt8} {k : Nat} (h : k < l.length) : unbe 0 (l.take (k + 1)) = unbe 0 (l.take k) * 256 + (l[k]).toNat := by
  rw [List.take_succ_eq_append_getElem h, unbe_append]
  simp [unbe]

set_option maxHeartbeats 1600000 in
theorem rrWord_any {g h : Nat} {r : Option (List UInt8)} (w : World) (hr : Rd w g h r) :
    Calls Try.prog 34 #[ptr g] w fun e w' => e = .returned (.int .u32 ((wordR r).1 : Int)) ∧ Rd w' g h (wordR r).2 ∧ w.grownBy w' (some g) := by
  have HR := Lib.hid hr
  by_cases hl : ∃ l, r = some l ∧ 4 ≤ l.length
  · obtain ⟨l, rfl, h4⟩ := hl
    have hw : wordR (some l) = (unbe 0 (l.take 4), some (l.drop 4)) := if_pos h4
    rw [hw]
    clear hw
    obtain ⟨v, hv, ho, c0, c1, f0, f1, hg, hj⟩ := hr
    have hv0 := Lib.hid hv
    obtain ⟨A, c, rfl, hl1, hc, hn, hx⟩ := hv
    simp only [Option.getD_some] at hl1 hc hn hx ho c0 hv0
    obtain ⟨b, off, rfl, hb, hcell⟩ := hx (by omega)
    have HX := Lib.hid hcell
    have HO := Lib.hid ho
    have HJ := Lib.hid hj
    have h4' : ¬ (l.length : Int) < 4 := by omega
    have hc4 : (4 : Int) ≤ (c : Int) := by omega
    have hl4 : (4 : Int) ≤ (l.length : Int) := by omega
    have hlc : (l.length : Int) ≤ (c : Int) := by omega
    clear hx hcell ho hn hj
    go_enter Try.func34, Try.ntmps34
    go_wp2_with fail
    go_loop [3, 4] (fun n i => ∃ k : Nat, k ≤ 4 ∧ i = .int .i64 k ∧ n = .int .u32 (unbe 0 (l.take k) : Nat)) (fun _ i => 4 - (intOf i).toNat)
    case atStart => exact ⟨0, by omega, rfl, by simp [unbe]⟩
    case round =>
      obtain ⟨k, hk, rfl, rfl⟩ := hrel
      by_cases hlt : k < 4
      · have f := HX.out k (by omega)
        have hub := unbe_take (l := l) (k := k) (by omega)
        have hlt' := unbe_lt (l.take k) 0
        have hbd : unbe 0 (l.take k) < 16777216 := by
          rw [List.length_take, Nat.min_eq_left (by omega)] at hlt'
          have h256 : 256 ^ k ≤ 256 ^ 3 := Nat.pow_le_pow_right (by omega) (by omega)
          have e3 : 256 ^ 3 = 16777216 := rfl
          generalize 256 ^ k = y at hlt' h256
          omega
        have hz := (l[k]'(by omega)).toNat_lt
        generalize (l[k]'(by omega)).toNat = z at f hub hz
        generalize unbe 0 (l.take k) = N at hub hbd
        have hN : (N : Int) < 16777216 := by omega
        have hz' : (z : Int) < 256 := by omega
        have HU := Lib.hid hub
        clear hub hlt'
        have hk1 : (k : Int) < (l.length : Int) := by omega
        have hk2 : (k : Int) < 4 := by omega
        go_wp2_with fail
        go_round
        case rel => exact ⟨k + 1, by omega, by go_num, by rw [HU.out]; go_num⟩
        case measure => simp [intOf]; omega
      · obtain rfl : 4 = k := by omega
        by_cases hck : c = 4
        · have HD := Lib.hid (bytes_drop0 hv0.out h4 hck)
          go_wp2_with fail
          go_ret
          refine ⟨rfl, Rd.new c0 c1 f0 f1 hg HJ.out HD.out (fun a' m c' e h0 => ?_), wb_set (World.grownBy.refl _ _) _ _⟩
          injection e with e1
          injection e1 with e1
          subst e1
          exact HO.out _ _ _ rfl (by omega)
        · have HD := Lib.hid (bytes_drop hv0.out h4)
          rw [Addr.add_lit] at HD
          go_wp2_with fail
          go_ret
          refine ⟨rfl, Rd.new c0 c1 f0 f1 hg HJ.out HD.out (fun a' m c' e h0 => ?_), wb_set (World.grownBy.refl _ _) _ _⟩
          injection e with e1
          injection e1 with e1
          subst e1
          exact HO.out ⟨b, off, none⟩ _ _ rfl (by omega)
  · have hlen : ((r.getD []).length : Int) < 4 := by
      cases r with
      | none => simp
      | some l =>
        have := Nat.lt_of_not_le (fun h => hl ⟨l, rfl, h⟩)
        simp only [Option.getD_some]
        omega
    obtain ⟨hw, ht⟩ := wordR_bad hl
    rw [hw]
    obtain ⟨v, hv, ho, c0, c1, f0, f1, hg, hj⟩ := hr
    obtain ⟨A, c, rfl, hl1, hc, hn, hx⟩ := hv
    clear hw ht hl ho hx hn hl1 hj
    generalize (r.getD []).length = N at c0 hlen
    go_enter Try.func34, Try.ntmps34
    go_wp2_with fail
    refine (rrfail_any _ HR.out).mono ?_; rintro e w1 ⟨rfl, h1, hg1⟩
    go_wp2_with fail
    go_ret
    exact ⟨rfl, h1, hg1⟩

theorem rrNew_any (v : Value) (l : List UInt8) (w : World) (hl : BytesV w v l) (hm : l.length ≤ 140737488355328) :
    Calls Try.prog 33 #[v] w fun e w' => ∃ g h, e = .returned (ptr g) ∧ Rd w' g h (some l) ∧ Below w.heap.size w w' ∧ w.heap.size ≤ g ∧ w.heap.size ≤ h ∧ g < w'.heap.size ∧ h < w'.heap.size := by
  obtain ⟨i0, hi, hz0, hz1, hz2⟩ := info_parts info_u8
  have hl0 := hl.alloc (.cells #[] 5)
  obtain ⟨A, c, rfl, hl1, hl2, hl3, hl4⟩ := hl
  have HL := Lib.hid hl0
  clear hl0 hl4 hl3
  go_enter Try.func33, Try.ntmps33
  go_wp2_with (with_reducible refine wpList_append_fresh rfl _ _ rfl Try.underlying58 hi hz0 hz1 hz2 rfl rfl rfl (heap_alloc_new w _) (Nat.le_refl _) HL.out hm ?_)
  intro v1 w1 hown1 hw1
  have b1 : Below w.heap.size w w1 := Below.trans (by repeat' (first | (with_reducible exact Below.refl _ _) | (with_reducible assumption) | (with_reducible refine below_drewN ?_ _) | (with_reducible refine Below.alloc ?_ ?_ _) | (with_reducible refine Below.drew ?_) | (with_reducible refine Below.setCell ?_ ?_ _) | go_size)) (hw1.mono (by simp))
  have s1 := b1.size
  have hv1 := BytesV.of_own hown1
  have HV := Lib.hid hv1
  have HO := Lib.hid hown1
  clear hown1
  obtain ⟨A1, c1', rfl, _, _, _, hx⟩ := hv1
  clear hx
  have c0 := cell_new w1 #[Value.slice A1 l.length c1', .bool false] 78 w1.heap.size 0 rfl
  have c1 := cell_new w1 #[Value.slice A1 l.length c1', .bool false] 78 w1.heap.size 1 rfl
  go_wp2_with fail
  go_ret
  by_cases h0 : l = []
  · refine ⟨w1.heap.size, w1.heap.size, rfl, ⟨_, HV.out.alloc _, (fun a n c e h => ?_), c0, c1, ?_, ?_, ?_, fun j h2 => ?_⟩, ?_, s1, s1, ?_, ?_⟩
    · subst h0; simp at h
    all_goals first | (simp; done) | (rw [cell_new _ _ _ _ _ rfl]; simp; omega) | exact frozen_new _ _ _ _ | exact b1.alloc b1.size _
  · obtain ⟨b, c', e, hb0, hb1, _⟩ := RowB.of_own HO.out h0
    injection e with e1 e2 e3
    subst e1 e3
    refine ⟨w1.heap.size, b, rfl, ⟨_, HV.out.alloc _, (fun a n c e h => ?_), c0, c1, ?_, ?_, ?_, fun j h2 => ?_⟩, ?_, s1, hb0, ?_, ?_⟩
    · injection e with e1
      injection e1 with e1
      subst e1
      exact ⟨rfl, fun e => by omega⟩
    all_goals first | (simp; done) | (rw [cell_new _ _ _ _ _ rfl]; simp; omega) | (simp; omega) | exact frozen_new _ _ _ _ | exact b1.alloc b1.size _
end Go.Proofs.Ytaobfidjnnhniaa
