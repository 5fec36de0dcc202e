/- What is read is written again by the same bytes: plain laws. -/
import Derived.Test.YtaobfidjnnhniaaReadLaw
namespace Go.Proofs.Ytaobfidjnnhniaa
set_option linter.unusedVariables false
set_option linter.unusedSimpArgs false
open Go.ChangeShapes Go.WideShapes Go.ChangeAt Go.RowKit Pl

theorem word_back {r r' : List UInt8} {x : Nat} (h : wordR (some r) = (x, some r')) : be 4 x ++ r' = r ∧ x < 4294967296 := by
  have hx := wordR_lt (some r)
  rw [h] at hx
  refine ⟨?_, hx⟩
  by_cases h4 : 4 ≤ r.length
  · have e : wordR (some r) = (unbe 0 (r.take 4), some (r.drop 4)) := if_pos h4
    rw [e] at h
    injection h with h1 h2
    injection h2 with h2
    subst h1 h2
    rw [be_unbe _ 4 (by simp; omega), List.take_append_drop]
  · have e : wordR (some r) = (0, none) := if_neg h4
    rw [e] at h
    injection h with _ h2
    cases h2

theorem long_back {r r' : List UInt8} {x : Nat} (h : longR (some r) = (x, some r')) : be 8 x ++ r' = r ∧ x < 18446744073709551616 := by
  unfold longR at h
  obtain ⟨a, r1, h1⟩ : ∃ a r1, wordR (some r) = (a, r1) := ⟨_, _, rfl⟩
  rw [h1] at h
  cases r1 with
  | none => cases h
  | some r1 =>
    obtain ⟨b, r2, h2⟩ : ∃ b r2, wordR (some r1) = (b, r2) := ⟨_, _, rfl⟩
    simp only [h2] at h
    cases r2 with
    | none => cases h
    | some r2 =>
      injection h with e1 e2
      injection e2 with e2
      subst e1 e2
      obtain ⟨b1, l1⟩ := word_back h1
      obtain ⟨b2, l2⟩ := word_back h2
      refine ⟨?_, by omega⟩
      rw [be8, show (a * 4294967296 + b) / 4294967296 = a from by omega, show (a * 4294967296 + b) % 4294967296 = b from by omega, List.append_assoc, b2, b1]

theorem longR_lt (r : Option (List UInt8)) : (longR r).1 < 18446744073709551616 := by
  have h1 := wordR_lt r
  have h2 := wordR_lt (wordR r).2
  unfold longR
  split
  · omega
  · simp only; omega
theorem be8_back (x : Nat) (hx : x < 18446744073709551616) : be 8 (IntKind.u64.wrap (wrap64 (x : Int))).toNat = be 8 x := by
  congr 1
  rw [IntKind.wrap_u64]
  unfold wrap64
  omega

theorem flag_back {r r' : List UInt8} {b : Bool} (h : flagR (some r) = (b, some r')) : be 4 b.toNat ++ r' = r := by
  unfold flagR at h
  obtain ⟨a, r1, h1⟩ : ∃ a r1, wordR (some r) = (a, r1) := ⟨_, _, rfl⟩
  rw [h1] at h
  simp only at h
  split at h
  · cases h
  · injection h with e1 e2
    subst e2
    obtain ⟨b1, l1⟩ := word_back h1
    have : b.toNat = a := by
      subst e1
      have : a = 0 ∨ a = 1 := by omega
      rcases this with rfl | rfl <;> rfl
    rw [this, b1]

theorem count_back {r r' : List UInt8} {m : Int} {x : Nat} (h : countR m (some r) = (x, some r')) : be 4 x ++ r' = r := by
  unfold countR at h
  obtain ⟨a, r1, h1⟩ : ∃ a r1, wordR (some r) = (a, r1) := ⟨_, _, rfl⟩
  rw [h1] at h
  cases r1 with
  | none => cases h
  | some r1 =>
    simp only at h
    split at h
    · cases h
    · injection h with e1 e2
      injection e2 with e2
      subst e1 e2
      exact (word_back h1).1

theorem zero_eq {l : List UInt8} (h : zero? l = true) : l = zeros l.length := by
  unfold zero? at h
  rw [List.all_eq_true] at h
  unfold zeros
  rw [List.eq_replicate_iff]
  exact ⟨rfl, fun b hb => by simpa using h b hb⟩

theorem fix_back {r r' s : List UInt8} {n : Int} (h : fixR n (some r) = (s, some r')) : fixB s ++ r' = r ∧ (s.length : Int) = n := by
  by_cases hc : 0 ≤ n ∧ n.toNat + padN n.toNat ≤ r.length ∧ zero? ((r.drop n.toNat).take (padN n.toNat)) = true
  · have e : fixR n (some r) = (r.take n.toNat, some (r.drop (n.toNat + padN n.toNat))) := if_pos hc
    rw [e] at h
    injection h with e1 e2
    injection e2 with e2
    have hl : s.length = n.toNat := by rw [← e1]; simp; omega
    have hz := zero_eq hc.2.2
    rw [List.length_take, List.length_drop, Nat.min_eq_left (by omega)] at hz
    refine ⟨?_, by omega⟩
    unfold fixB
    rw [hl, ← hz, ← e1, ← e2, List.append_assoc, ← List.drop_drop, List.take_append_drop, List.take_append_drop]
  · have e : fixR n (some r) = ([], none) := if_neg hc
    rw [e] at h
    injection h with _ h2
    cases h2

theorem text_back {r r' s : List UInt8} {m : Int} (h : textR m (some r) = (s, some r')) : textB s ++ r' = r := by
  unfold textR at h
  obtain ⟨a, r1, h1⟩ : ∃ a r1, countR (max 0 m) (some r) = (a, r1) := ⟨_, _, rfl⟩
  rw [h1] at h
  cases r1 with
  | none => cases h
  | some r1 =>
    obtain ⟨e1, e2⟩ := fix_back h
    have e2 : s.length = a := by have h := e2; simp only at h; omega
    unfold textB
    rw [e2, List.append_assoc, e1]
    exact count_back h1

theorem fix_len (n : Int) (r : List UInt8) : (fixR n (some r)).1.length ≤ r.length := by
  by_cases hc : 0 ≤ n ∧ n.toNat + padN n.toNat ≤ r.length ∧ zero? ((r.drop n.toNat).take (padN n.toNat)) = true
  · have e : fixR n (some r) = (r.take n.toNat, some (r.drop (n.toNat + padN n.toNat))) := if_pos hc
    rw [e]; simp; omega
  · have e : fixR n (some r) = ([], none) := if_neg hc
    rw [e]; simp
theorem text_len (m : Int) (r : List UInt8) : (textR m (some r)).1.length ≤ r.length := by
  unfold textR
  obtain ⟨a, r1, h1⟩ : ∃ a r1, countR (max 0 m) (some r) = (a, r1) := ⟨_, _, rfl⟩
  rw [h1]
  cases r1 with
  | none => simp [fixR]
  | some r1 =>
    have := fix_len (a : Int) r1
    have e := count_back h1
    have : r1.length ≤ r.length := by rw [← e]; simp
    simp only
    omega
end Go.Proofs.Ytaobfidjnnhniaa
