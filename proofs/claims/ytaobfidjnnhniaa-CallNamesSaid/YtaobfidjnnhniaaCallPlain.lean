/- What is written is read, what is told is heard; the other way round: plain laws. -/
import Derived.Test.YtaobfidjnnhniaaCallEq
namespace Go.Proofs.Ytaobfidjnnhniaa
set_option linter.unusedVariables false
set_option linter.unusedSimpArgs false
open Go.ChangeShapes Go.WideShapes Go.ChangeAt Go.RowKit Pl

theorem wd_be0 (a : Nat) (ha : a < 4294967296) (r : List UInt8) : wd (be 4 a ++ r) 0 = (a : Int) := by
  unfold wd
  rw [Nat.mul_zero, List.drop_zero, List.take_left' (by simp)]
  rw [unbe_be, Nat.zero_mul, Nat.zero_add, show 256 ^ 4 = 4294967296 from rfl, Nat.mod_eq_of_lt ha]
theorem wd_beS (a : Nat) (r : List UInt8) (q : Nat) : wd (be 4 a ++ r) (q + 1) = wd r q := by
  unfold wd
  rw [show 4 * (q + 1) = 4 + 4 * q from by omega, ← List.drop_drop, List.drop_left' (by simp)]
/-- Four bytes are their word's. -/
theorem wd_split {s : List UInt8} {q : Nat} (h : 4 * (q + 1) ≤ s.length) : s.drop (4 * q) = be 4 (wd s q).toNat ++ s.drop (4 * (q + 1)) := by
  have e : (wd s q).toNat = unbe 0 ((s.drop (4 * q)).take 4) := by unfold wd; simp
  rw [e, be_unbe _ 4 (by simp; omega), show 4 * (q + 1) = 4 * q + 4 from by omega, ← List.drop_drop, List.take_append_drop]

theorem drop24 (a b c d e f : Nat) (r : List UInt8) : (be 4 a ++ (be 4 b ++ (be 4 c ++ (be 4 d ++ (be 4 e ++ (be 4 f ++ r)))))).drop 24 = r := by
  have : (be 4 a ++ (be 4 b ++ (be 4 c ++ (be 4 d ++ (be 4 e ++ be 4 f))))).length = 24 := by simp
  have h : be 4 a ++ (be 4 b ++ (be 4 c ++ (be 4 d ++ (be 4 e ++ (be 4 f ++ r))))) = (be 4 a ++ (be 4 b ++ (be 4 c ++ (be 4 d ++ (be 4 e ++ be 4 f))))) ++ r := by simp [List.append_assoc]
  rw [h, List.drop_left' this]
theorem drop12 (a b c : Nat) (r : List UInt8) : (be 4 a ++ (be 4 b ++ (be 4 c ++ r))).drop 12 = r := by
  have : (be 4 a ++ (be 4 b ++ be 4 c)).length = 12 := by simp
  have h : be 4 a ++ (be 4 b ++ (be 4 c ++ r)) = (be 4 a ++ (be 4 b ++ be 4 c)) ++ r := by simp [List.append_assoc]
  rw [h, List.drop_left' this]

/-- The read of six words and a body. -/
theorem readE_six {a b c d e f : Nat} (ha : a < 4294967296) (hb : b < 4294967296) (hc : c < 4294967296) (hd : d < 4294967296) (he : e < 4294967296) (hf : f < 4294967296) {r : List UInt8} (hr : r.length % 4 = 0) (hl : r.length ≤ 4072) :
    readE (be 4 a ++ (be 4 b ++ (be 4 c ++ (be 4 d ++ (be 4 e ++ (be 4 f ++ r)))))) = (if b = 0 ∧ isC e = true then (if c = 284 ∧ d = 3 then (if f < 19 then 0 else 62) else 63) else 4) := by
  unfold readE
  have hlen : (be 4 a ++ (be 4 b ++ (be 4 c ++ (be 4 d ++ (be 4 e ++ (be 4 f ++ r)))))).length = 24 + r.length := by simp; omega
  rw [hlen]
  simp only [wd_beS, wd_be0 _ ha, wd_be0 _ hb, wd_be0 _ hc, wd_be0 _ hd, wd_be0 _ he, wd_be0 _ hf]
  have h1 : (decide (24 + r.length ≤ 4096) && decide ((24 + r.length) % 4 = 0) && decide (24 ≤ 24 + r.length) && decide ((b : Int) = 0) && isC e) = (decide (b = 0) && isC e) := by
    rw [decide_eq_true (by omega : 24 + r.length ≤ 4096), decide_eq_true (by omega : (24 + r.length) % 4 = 0), decide_eq_true (by omega : 24 ≤ 24 + r.length)]
    simp
  rw [h1]
  by_cases h2 : b = 0 ∧ isC e = true
  · rw [if_pos h2, if_pos (by simp [h2.1, h2.2])]
    by_cases h3 : c = 284 ∧ d = 3
    · rw [if_pos h3, if_pos (by omega)]
      by_cases h4 : f < 19
      · rw [if_pos h4, if_pos (by omega)]
      · rw [if_neg h4, if_neg (by omega)]
    · rw [if_neg h3, if_neg (by omega)]
  · rw [if_neg h2, if_neg (fun h => h2 (by simpa using h))]
theorem readV_six {a b c d e f : Nat} (ha : a < 4294967296) (hb : b < 4294967296) (hc : c < 4294967296) (hd : d < 4294967296) (he : e < 4294967296) (hf : f < 4294967296) {r : List UInt8} {E : Int}
    (hE : readE (be 4 a ++ (be 4 b ++ (be 4 c ++ (be 4 d ++ (be 4 e ++ (be 4 f ++ r)))))) = E) :
    readV (be 4 a ++ (be 4 b ++ (be 4 c ++ (be 4 d ++ (be 4 e ++ (be 4 f ++ r)))))) = .tuple #[headV (if E = 4 then 0 else (e : Int)) (if E = 4 then 0 else (a : Int)) (if E = 4 then 0 else (f : Int)) (if E = 0 then r else []), .int .i64 E] := by
  unfold readV readC readX readP readB
  rw [hE, drop24]
  simp only [wd_beS, wd_be0 _ ha, wd_be0 _ hb, wd_be0 _ hc, wd_be0 _ hd, wd_be0 _ he, wd_be0 _ hf]

theorem call_read {c x p : Int} {l : List UInt8} (h : callE c x p l = 0) :
    readV (callS c x p l) = .tuple #[headV c x p (if p < 19 then l else []), .int .i64 (if p < 19 then 0 else 62)] ∧ hearV (callS c x p l) = .tuple #[ansV 0 0 [], .int .i64 4] ∧ (callS c x p l).length ≤ 4096 := by
  obtain ⟨a1, a2, a3, a4, a5, a6⟩ := callE_ok h
  have hc := a1
  have a1 := isC_bounds a1
  have a2 := isW_bounds a2
  have a3 := isW_bounds a3
  rw [a6]
  refine ⟨?_, ?_, by rw [callB_len]; omega⟩
  · rw [callB_eq]
    have hE := readE_six (a := x.toNat) (b := 0) (c := 284) (d := 3) (e := c.toNat) (f := p.toNat) (by omega) (by omega) (by omega) (by omega) (by omega) (by omega) a4 a5
    have hcc : ((c.toNat : Nat) : Int) = c := by omega
    have hxx : ((x.toNat : Nat) : Int) = x := by omega
    have hpp : ((p.toNat : Nat) : Int) = p := by omega
    rw [hcc, if_pos ⟨rfl, hc⟩, if_pos ⟨rfl, rfl⟩] at hE
    have hV := readV_six (by omega) (by omega) (by omega) (by omega) (by omega) (by omega) hE
    rw [hV, hcc, hxx, hpp]
    by_cases h19 : p < 19
    · rw [if_pos (by omega : p.toNat < 19), if_pos h19, if_pos h19]
      rfl
    · rw [if_neg (by omega : ¬ p.toNat < 19), if_neg h19, if_neg h19]
      rfl
  · apply hear_no
    rw [callB_eq]
    unfold hearOK
    simp only [wd_beS, wd_be0 0 (by omega)]
    simp
theorem tell_hear {y e : Int} {m : List UInt8} (h : tellE y e m = 0) :
    hearV (tellS y e m) = .tuple #[ansV y e m, .int .i64 0] ∧ readV (tellS y e m) = .tuple #[headV 0 0 0 [], .int .i64 4] ∧ (tellS y e m).length = 12 + m.length := by
  obtain ⟨a1, a6⟩ := tellE_ok h
  obtain ⟨a2, a3, a4⟩ := mayA_bounds a1
  rw [a6]
  have hy : ((y.toNat : Nat) : Int) = y := by omega
  have he : ((e.toNat : Nat) : Int) = e := by omega
  have w0 : wd (tellB y e m) 0 = y := by rw [tellB_eq, wd_be0 _ (by omega), hy]
  have w1 : wd (tellB y e m) 1 = 1 := by rw [tellB_eq, wd_beS, wd_be0 _ (by omega)]; rfl
  have w2 : wd (tellB y e m) 2 = e := by rw [tellB_eq, wd_beS, wd_beS, wd_be0 _ (by omega), he]
  have d12 : (tellB y e m).drop 12 = m := by rw [tellB_eq, drop12]
  refine ⟨?_, ?_, tellB_len _ _ _⟩
  · have hok : hearOK (tellB y e m) = true := by
      unfold hearOK
      rw [w0, w1, w2, d12, a1, tellB_len]
      simp
    rw [hear_yes hok, w0, w2, d12]
  · have hE : readE (tellB y e m) = 4 := if_neg (fun h => by
      simp only [Bool.and_eq_true, decide_eq_true_eq] at h
      have := h.1.2
      rw [w1] at this
      omega)
    unfold readV readC readX readP readB
    rw [hE]
    rfl

theorem readE_ok {s : List UInt8} (h : readE s = 0) : s.length ≤ 4096 ∧ s.length % 4 = 0 ∧ 24 ≤ s.length ∧ wd s 1 = 0 ∧ isC (wd s 4) = true ∧ wd s 2 = 284 ∧ wd s 3 = 3 ∧ wd s 5 < 19 := by
  unfold readE at h
  split at h
  · rename_i hg
    simp only [Bool.and_eq_true, decide_eq_true_eq] at hg
    split at h
    · rename_i h2
      split at h
      · exact ⟨hg.1.1.1.1, hg.1.1.1.2, hg.1.1.2, hg.1.2, hg.2, h2.1, h2.2, by assumption⟩
      · omega
    · omega
  · omega
theorem read_call {s : List UInt8} (h : readE s = 0) :
    callE (readC s) (readX s) (readP s) (readB s) = 0 ∧ callS (readC s) (readX s) (readP s) (readB s) = s ∧ hearE s = 4 := by
  obtain ⟨h1, h2, h3, h4, h5, h6, h7, h8⟩ := readE_ok h
  have v1 : readC s = wd s 4 := if_neg (by rw [h]; decide)
  have v2 : readX s = wd s 0 := if_neg (by rw [h]; decide)
  have v3 : readP s = wd s 5 := if_neg (by rw [h]; decide)
  have v4 : readB s = s.drop 24 := if_pos h
  rw [v1, v2, v3, v4]
  have b0 := wd_bounds s 0
  have b5 := wd_bounds s 5
  have hd : (s.drop 24).length = s.length - 24 := by simp
  have w0 : isW (wd s 0) = true := by simp [isW]; omega
  have w5 : isW (wd s 5) = true := by simp [isW]; omega
  have hE : callE (wd s 4) (wd s 0) (wd s 5) (s.drop 24) = 0 := by
    unfold callE
    rw [h5, w0, w5, hd, if_pos (by simp; omega), if_pos (by omega)]
  refine ⟨hE, ?_, ?_⟩
  · rw [(callE_ok hE).2.2.2.2.2, callB_eq]
    have s0 := wd_split (s := s) (q := 0) (by omega)
    have s1 := wd_split (s := s) (q := 1) (by omega)
    have s2 := wd_split (s := s) (q := 2) (by omega)
    have s3 := wd_split (s := s) (q := 3) (by omega)
    have s4 := wd_split (s := s) (q := 4) (by omega)
    have s5 := wd_split (s := s) (q := 5) (by omega)
    rw [h4] at s1
    rw [h6] at s2
    rw [h7] at s3
    have e : s = s.drop (4 * 0) := by simp
    conv => rhs; rw [e, s0, s1, s2, s3, s4, s5]
    rfl
  · have hn : hearOK s = false := by
      unfold hearOK
      rw [h4]
      simp
    unfold hearE
    rw [hn]
    rfl
theorem hear_tell {s : List UInt8} (h : hearE s = 0) :
    tellE (hearX s) (hearK s) (hearB s) = 0 ∧ tellS (hearX s) (hearK s) (hearB s) = s ∧ readE s = 4 := by
  have hok : hearOK s = true := by
    unfold hearE at h
    split at h
    · assumption
    · omega
  have hok' := hok
  unfold hearOK at hok'
  simp only [Bool.and_eq_true, decide_eq_true_eq, beq_iff_eq] at hok'
  obtain ⟨⟨h1, h2⟩, h3⟩ := hok'
  have v1 : hearX s = wd s 0 := if_pos hok
  have v2 : hearK s = wd s 2 := if_pos hok
  have v3 : hearB s = s.drop 12 := if_pos hok
  rw [v1, v2, v3]
  have hE : tellE (wd s 0) (wd s 2) (s.drop 12) = 0 := if_pos h3
  refine ⟨hE, ?_, ?_⟩
  · rw [(tellE_ok hE).2, tellB_eq]
    have s0 := wd_split (s := s) (q := 0) (by omega)
    have s1 := wd_split (s := s) (q := 1) (by omega)
    have s2 := wd_split (s := s) (q := 2) (by omega)
    rw [h2] at s1
    have e : s = s.drop (4 * 0) := by simp
    conv => rhs; rw [e, s0, s1, s2]
    rfl
  · exact if_neg (fun h => by
      simp only [Bool.and_eq_true, decide_eq_true_eq] at h
      have := h.1.2
      omega)
end Go.Proofs.Ytaobfidjnnhniaa
