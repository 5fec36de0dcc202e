/- The reader of bytes: texts. -/
import Derived.Test.YtaobfidjnnhniaaRead2
namespace Go.Proofs.Ytaobfidjnnhniaa
set_option linter.unusedVariables false
set_option linter.unusedSimpArgs false
open Go.ChangeShapes Go.WideShapes Go.ChangeAt Go.RowKit Pl

def zero? (l : List UInt8) : Bool := l.all fun c => c == 0
def fixR (n : Int) : Option (List UInt8) → List UInt8 × Option (List UInt8)
  | none => ([], none)
  | some l => if 0 ≤ n ∧ n.toNat + padN n.toNat ≤ l.length ∧ zero? ((l.drop n.toNat).take (padN n.toNat)) = true then (l.take n.toNat, some (l.drop (n.toNat + padN n.toNat))) else ([], none)

theorem zero_append (l m : List UInt8) : zero? (l ++ m) = (zero? l && zero? m) := by simp [zero?]

/-- The reader behind k bytes of the padding zs. -/
def padSt (zs : List UInt8) (k : Nat) (r : Option (List UInt8)) : Option (List UInt8) := if zero? (zs.take k) then r else none

set_option maxHeartbeats 1000000 in
theorem rFixed_any {g h : Nat} {r : Option (List UInt8)} (n : Int) (w : World) (hr : Rd w g h r) (hn : n ≤ 9223372036854775807) :
    Calls Try.prog 31 #[ptr g, .int .i64 n] w fun e w' => e = .returned (sv (fixR n r).1) ∧ Rd w' g h (fixR n r).2 ∧ w.grownBy w' (some g) := by
  by_cases h0 : n < 0
  · have he : fixR n r = ([], none) := by
      cases r with
      | none => rfl
      | some l => exact if_neg (fun e => by omega)
    rw [he]
    clear he
    go_enter Try.func31, Try.ntmps31
    go_wp2_with fail
    refine (fail_any _ hr).mono ?_; rintro e w2 ⟨rfl, h2, hg2⟩
    go_wp2_with fail
    go_ret
    exact ⟨rfl, h2, hg2⟩
  obtain ⟨k, rfl⟩ := Int.eq_ofNat_of_zero_le (by omega : 0 ≤ n)
  by_cases h1 : ((r.getD []).length : Int) < (k : Int)
  · have he : fixR k r = ([], none) := by
      cases r with
      | none => rfl
      | some l => exact if_neg (fun e => by have := e.2.1; simp at h1 this; omega)
    rw [he]
    clear he
    go_enter Try.func31, Try.ntmps31
    go_wp2_with fail
    refine (Left_any _ hr).mono ?_; rintro e w' ⟨rfl, rfl⟩
    go_wp2_with fail
    refine (fail_any _ hr).mono ?_; rintro e w2 ⟨rfl, h2, hg2⟩
    go_wp2_with fail
    go_ret
    exact ⟨rfl, h2, hg2⟩
  have ht : takeR k r = match r with | none => ([], none) | some l => (l.take k, some (l.drop k)) := by
    cases r with
    | none => rfl
    | some l => exact if_pos ⟨by omega, by simpa using h1⟩
  have hpk := padN_lt k
  -- what the second take gives
  obtain ⟨zs, r2, ht2⟩ : ∃ zs r2, takeR (padN k : Int) (takeR k r).2 = (zs, r2) := ⟨_, _, rfl⟩
  have hzl : (zs.length : Int) ≤ 3 := by
    generalize (takeR k r).2 = q at ht2
    cases q with
    | none => injection ht2 with e1 _; subst e1; simp
    | some m =>
      have e : (if 0 ≤ (padN k : Int) ∧ (padN k : Int) ≤ (m.length : Int) then (m.take (padN k : Int).toNat, some (m.drop (padN k : Int).toNat)) else ([], none)) = (zs, r2) := ht2
      split at e
      · injection e with e1 _; subst e1; simp; omega
      · injection e with e1 _; subst e1; simp
  have hfin : fixR k r = match padSt zs zs.length r2 with | none => ([], none) | some m => ((takeR k r).1, some m) := by
    rw [ht] at ht2 ⊢
    unfold padSt
    rw [List.take_length]
    cases r with
    | none =>
      injection ht2 with e1 e2
      subst e1 e2
      rfl
    | some l =>
      simp only at ht2 ⊢
      have e : (if 0 ≤ (padN k : Int) ∧ (padN k : Int) ≤ ((l.drop k).length : Int) then ((l.drop k).take (padN k : Int).toNat, some ((l.drop k).drop (padN k : Int).toNat)) else ([], none)) = (zs, r2) := ht2
      have hkl : k ≤ l.length := by simpa using h1
      show (if 0 ≤ (k : Int) ∧ (k : Int).toNat + padN (k : Int).toNat ≤ l.length ∧ zero? ((l.drop (k : Int).toNat).take (padN (k : Int).toNat)) = true then (l.take (k : Int).toNat, some (l.drop ((k : Int).toNat + padN (k : Int).toNat))) else ([], none)) = _
      simp only [Int.toNat_natCast] at e ⊢
      by_cases hp : k + padN k ≤ l.length
      · rw [if_pos ⟨by omega, by simp; omega⟩] at e
        injection e with e1 e2
        subst e1 e2
        by_cases hz : zero? ((l.drop k).take (padN k)) = true
        · rw [if_pos ⟨by omega, hp, hz⟩, if_pos hz, List.drop_drop]
        · rw [if_neg (fun e => hz e.2.2), if_neg hz]
      · rw [if_neg (fun e => hp (by have := e.2; simp at this; omega))] at e
        injection e with e1 e2
        subst e1 e2
        rw [if_neg (fun e => hp e.2.1)]
        rfl
  rw [hfin]
  have HT2 := Lib.hid ht2
  have hk63 : k ≤ 9223372036854775807 := by omega
  obtain ⟨s1, r1, ht1⟩ : ∃ s1 r1, takeR k r = (s1, r1) := ⟨_, _, rfl⟩
  rw [ht1] at ht2 ⊢
  have HT1 := Lib.hid ht1
  have HT2 := Lib.hid ht2
  obtain ⟨rf, hrf⟩ : ∃ rf, padSt zs zs.length r2 = rf := ⟨_, rfl⟩
  rw [hrf]
  have HF := Lib.hid hrf
  clear ht1 ht2 ht hfin hrf
  go_enter Try.func31, Try.ntmps31
  go_wp2_with fail
  refine (Left_any _ hr).mono ?_; rintro e w' ⟨rfl, rfl⟩
  go_wp2_with fail
  refine (take_any k _ hr).mono ?_; rintro e w1 ⟨v1, rfl, hv1, ho1, hr1, hg1⟩
  rw [HT1.out] at hv1 ho1 hr1
  have hcv := hv1.string (P := Try.prog) Try.underlying58 Try.underlying5 Try.underlying9
  go_wp2_with fail
  refine (pad_any k _ hk63).mono ?_; rintro e w2 ⟨rfl, rfl⟩
  have hr1 : Rd w1 g h r1 := hr1
  go_wp2_with fail
  refine (take_any (padN k) _ hr1).mono ?_; rintro e w2 ⟨v2, rfl, hv2, ho2, hr2, hg2⟩
  have HT2' : takeR (padN k : Int) r1 = (zs, r2) := HT2.out
  rw [HT2'] at hv2 ho2 hr2
  obtain ⟨A, cc, rfl, k1, k2, k3, hx⟩ := hv2
  have HX := Lib.hid hx
  have HO := Lib.hid ho2
  clear hx ho2 k3
  generalize hN : zs.length = N at k1 k2 hzl ⊢
  have HN := Lib.hid hN
  clear hN
  go_wp2_with fail
  go_loopw [7, 27] (fun c i W => ∃ j : Nat, j ≤ N ∧ i = .int .i64 j ∧ Rd W g h (padSt zs j r2) ∧ w2.grownBy W (some g)) (fun _ i _ => N - (intOf i).toNat)
  case atStart => exact ⟨0, Nat.zero_le _, rfl, by simpa [padSt, zero?] using hr2, World.grownBy.refl _ _⟩
  case round =>
    obtain ⟨j, hj, rfl, hR, hgW⟩ := hrel
    by_cases hlt : j < N
    · obtain ⟨b, off, rfl, hb, hcell⟩ := HX.out (by rw [HN.out]; omega)
      have hbg := HO.out _ _ _ rfl (by rw [HN.out]; omega)
      have ck := hgW.cell (hcell j (by rw [HN.out]; exact hlt)) (fun e => hbg.2 (by injection e with e; exact hbg.1.symm.trans e))
      have hj1 : (j : Int) < (N : Int) := by omega
      have hstep : padSt zs (j + 1) r2 = if zs[j]'(by rw [HN.out]; exact hlt) = 0 then padSt zs j r2 else none := by
        unfold padSt
        rw [List.take_succ_eq_append_getElem (by rw [HN.out]; exact hlt), zero_append]
        by_cases hz : zs[j]'(by rw [HN.out]; exact hlt) = 0
        · simp [zero?, hz]
        · simp [zero?, hz]
      generalize zs[j]'(by rw [HN.out]; exact hlt) = z at ck hstep
      clear hcell hbg
      by_cases hz : z = 0
      · subst hz
        have ck : _ = some (Value.int .u8 0) := ck
        rw [if_pos rfl] at hstep
        have HS := Lib.hid hstep
        clear hstep
        go_wp2_with fail
        go_roundw
        case rel => exact ⟨j + 1, hlt, by go_num, by rw [HS.out]; exact hR, hgW⟩
        case measure => simp [intOf]; omega
      · have hz' : ((z.toNat : Int) != 0) = true := by rw [bne_iff_ne]; exact fun e => hz (UInt8.toNat.inj (by simpa using e))
        rw [if_neg hz] at hstep
        have HS := Lib.hid hstep
        clear hstep
        go_wp2_with fail
        refine (fail_any _ hR).mono ?_; rintro e w3 ⟨rfl, h3, hg3⟩
        go_wp2_with fail
        go_roundw
        case rel => exact ⟨j + 1, hlt, by go_num, by rw [HS.out]; exact h3, gtrans hgW hg3⟩
        case measure => simp [intOf]; omega
    · obtain rfl : j = N := by omega
      have hF : padSt zs j r2 = rf := by rw [← HN.out]; exact HF.out
      rw [hF] at hR
      clear hF
      cases rf with
      | none =>
        go_wp2_with fail
        refine (OK_any _ hR).mono ?_; rintro e w' ⟨rfl, rfl⟩
        go_wp2_with fail
        go_ret
        exact ⟨rfl, hR, gtrans hg1 (gtrans hg2 hgW)⟩
      | some m =>
        go_wp2_with fail
        refine (OK_any _ hR).mono ?_; rintro e w' ⟨rfl, rfl⟩
        go_wp2_with fail
        go_ret
        exact ⟨rfl, hR, gtrans hg1 (gtrans hg2 hgW)⟩

def textR (m : Int) (r : Option (List UInt8)) : List UInt8 × Option (List UInt8) := fixR ((countR (max 0 m) r).1 : Int) (countR (max 0 m) r).2

theorem countR_lt (m : Int) (r : Option (List UInt8)) : (countR m r).1 < 4294967296 := by
  have h := wordR_lt r
  unfold countR
  split
  · omega
  · split
    · omega
    · exact h

theorem frozen_new (w : World) (c : Array Value) (t : TypeId) (k : Nat) : (w.alloc (.cells c t)).frozen? ⟨w.heap.size, k, none⟩ = false := by
  unfold World.frozen?
  rw [show (w.alloc (.cells c t)).heap[(⟨w.heap.size, k, none⟩ : Addr).block]? = some (.cells c t) from heap_alloc_new w _]
  simp

/-- A new reader: in a block of its own, and so are its bytes. -/
theorem NewReader_any (v : Value) (l : List UInt8) (w : World) (hl : BytesV w v l) (hm : l.length ≤ 140737488355328) :
    Calls Try.prog 28 #[v] w fun e w' => ∃ g h, e = .returned (ptr g) ∧ Rd w' g h (some l) ∧ Below w.heap.size w w' ∧ w.heap.size ≤ g ∧ w.heap.size ≤ h ∧ g < w'.heap.size ∧ h < w'.heap.size := by
  go_enter Try.func28, Try.ntmps28
  go_wp2_with fail
  refine (put_any _ _ [] l _ (BytesV.nil _) hl (by simpa using hm)).mono ?_; rintro e w1 ⟨v1, rfl, hv1, hw1, hrow⟩
  rw [List.nil_append] at hv1 hrow
  have HR := Lib.hid hrow
  clear hrow
  have hv0 := Lib.hid hv1
  obtain ⟨A, c, rfl, _, _, _, hx⟩ := hv1
  clear hx
  have c0 := cell_new w1 #[Value.slice A l.length c, .bool false] 74 w1.heap.size 0 rfl
  have c1 := cell_new w1 #[Value.slice A l.length c, .bool false] 74 w1.heap.size 1 rfl
  have sz := hw1.size
  go_wp2_with fail
  go_ret
  by_cases h0 : l = []
  · refine ⟨w1.heap.size, w1.heap.size, rfl, ⟨_, hv0.out.alloc _, (fun a n c e h => ?_), c0, c1, ?_, ?_, ?_, fun j h2 => ?_⟩, ?_, sz, sz, ?_, ?_⟩
    · subst h0; simp at h
    all_goals first | (simp; done) | (rw [cell_new _ _ _ _ _ rfl]; simp; omega) | exact frozen_new _ _ _ _ | exact hw1.alloc hw1.size _
  · obtain ⟨b, c', e, hb0, hb1, _⟩ := HR.out h0
    injection e with e1 e2 e3
    subst e1 e3
    refine ⟨w1.heap.size, b, rfl, ⟨_, hv0.out.alloc _, (fun a n c e h => ?_), c0, c1, ?_, ?_, ?_, fun j h2 => ?_⟩, ?_, sz, hb0, ?_, ?_⟩
    · injection e with e1
      injection e1 with e1
      subst e1
      exact ⟨rfl, fun e => by omega⟩
    all_goals first | (simp; done) | (rw [cell_new _ _ _ _ _ rfl]; simp; omega) | (simp; omega) | exact frozen_new _ _ _ _ | exact hw1.alloc hw1.size _
end Go.Proofs.Ytaobfidjnnhniaa
