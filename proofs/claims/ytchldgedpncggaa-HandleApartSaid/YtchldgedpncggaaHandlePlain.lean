/- Handles as bytes: what Encode, Decode, May and Less compute, as plain functions, and the laws of the chapter about them: no program in sight. Conditions: none. -/
import Derived.Test.YtchldgedpncggaaBytes
import GoSem.Op.String
namespace Go.Proofs.Ytchldgedpncggaa.Pl
set_option linter.unusedVariables false
set_option linter.unusedSimpArgs false

/-- May a handle be? -/
def mayH (a b c : Int) : Bool := decide (0 ≤ a ∧ a ≤ 2147483647 ∧ 1 ≤ b ∧ b ≤ 2147483647 ∧ 0 ≤ c ∧ c ≤ 2147483647)

def h16 (a b c : Nat) : List UInt8 := be 4 1 ++ (be 4 a ++ (be 4 b ++ be 4 c))
def hBytes (a b c : Nat) : List UInt8 := h16 a b c ++ be 8 (fnv fnv0 (h16 a b c))
/-- A handle's bytes, or none. -/
def encB (a b c : Int) : List UInt8 := if mayH a b c then hBytes a.toNat b.toNat c.toNat else []
def encE (a b c : Int) : Int := if mayH a b c then 0 else 4

def part4 (l : List UInt8) (k : Nat) : Nat := unbe 0 ((l.drop k).take 4)
/-- Are these a handle's bytes? -/
def decOk (l : List UInt8) : Bool := decide (l.length = 24) && mayH (part4 l 4) (part4 l 8) (part4 l 12) && (hBytes (part4 l 4) (part4 l 8) (part4 l 12) == l)
def decA (l : List UInt8) (k : Nat) : Int := if decOk l then (part4 l k : Int) else 0
def decE (l : List UInt8) : Int := if decOk l then 0 else 4

/-- The bytes of numbers, 4 each. -/
def nbs : List Int → List UInt8
  | [] => []
  | x :: l => be 4 x.toNat ++ nbs l
theorem nbs_append (l m : List Int) : nbs (l ++ m) = nbs l ++ nbs m := by
  induction l with
  | nil => rfl
  | cons x l ih => simp [nbs, ih]
theorem nbs_length (l : List Int) : (nbs l).length = 4 * l.length := by
  induction l with
  | nil => rfl
  | cons x l ih => simp [nbs, ih]; omega
theorem nbs_h16 (a b c : Int) : nbs [1, a, b, c] = h16 a.toNat b.toNat c.toNat := by simp [nbs, h16]

/-- Which of two stands ahead? -/
def lessH (a b c x y z : Int) : Bool := if a = x then (if b = y then decide (c < z) else decide (b < y)) else decide (a < x)

theorem h16_length (a b c : Nat) : (h16 a b c).length = 16 := by simp [h16]
theorem hBytes_length (a b c : Nat) : (hBytes a b c).length = 24 := by simp [hBytes, h16_length]

theorem take_hBytes (a b c : Nat) : (hBytes a b c).take 16 = h16 a b c := by
  unfold hBytes
  rw [List.take_append_of_le_length (by rw [h16_length]; omega), List.take_of_length_le (by rw [h16_length]; omega)]

theorem part4_h {a b c : Nat} (ha : a < 4294967296) (hb : b < 4294967296) (hc : c < 4294967296) :
    part4 (hBytes a b c) 4 = a ∧ part4 (hBytes a b c) 8 = b ∧ part4 (hBytes a b c) 12 = c := by
  have e : hBytes a b c = be 4 1 ++ (be 4 a ++ (be 4 b ++ (be 4 c ++ be 8 (fnv fnv0 (h16 a b c))))) := by simp [hBytes, h16]
  have d4 : (hBytes a b c).drop 4 = be 4 a ++ (be 4 b ++ (be 4 c ++ be 8 (fnv fnv0 (h16 a b c)))) := by
    rw [e]; exact List.drop_left' (be_length 4 1)
  have d8 : (hBytes a b c).drop 8 = be 4 b ++ (be 4 c ++ be 8 (fnv fnv0 (h16 a b c))) := by
    rw [show 8 = 4 + 4 from rfl, ← List.drop_drop, d4]; exact List.drop_left' (be_length 4 a)
  have d12 : (hBytes a b c).drop 12 = be 4 c ++ be 8 (fnv fnv0 (h16 a b c)) := by
    rw [show 12 = 8 + 4 from rfl, ← List.drop_drop, d8]; exact List.drop_left' (be_length 4 b)
  refine ⟨?_, ?_, ?_⟩ <;> unfold part4
  · rw [d4, List.take_left' (be_length 4 a), unbe_be]; omega
  · rw [d8, List.take_left' (be_length 4 b), unbe_be]; omega
  · rw [d12, List.take_left' (be_length 4 c), unbe_be]; omega

theorem mayH_iff {a b c : Int} : mayH a b c = true ↔ 0 ≤ a ∧ a ≤ 2147483647 ∧ 1 ≤ b ∧ b ≤ 2147483647 ∧ 0 ≤ c ∧ c ≤ 2147483647 := by
  unfold mayH; simp

theorem encE_eq (a b c : Int) : (encE a b c == 0) = mayH a b c := by
  unfold encE
  cases mayH a b c <;> decide

/-- What was encoded is decoded so. -/
theorem decOk_enc {a b c : Int} (h : mayH a b c = true) : decOk (encB a b c) = true ∧ decA (encB a b c) 4 = a ∧ decA (encB a b c) 8 = b ∧ decA (encB a b c) 12 = c := by
  obtain ⟨h1, h2, h3, h4, h5, h6⟩ := mayH_iff.1 h
  have e : encB a b c = hBytes a.toNat b.toNat c.toNat := by unfold encB; rw [if_pos h]
  obtain ⟨p1, p2, p3⟩ := part4_h (a := a.toNat) (b := b.toNat) (c := c.toNat) (by omega) (by omega) (by omega)
  have ha : ((a.toNat : Nat) : Int) = a := by omega
  have hb : ((b.toNat : Nat) : Int) = b := by omega
  have hc : ((c.toNat : Nat) : Int) = c := by omega
  have hok : decOk (encB a b c) = true := by
    unfold decOk
    rw [e, p1, p2, p3, hBytes_length, ha, hb, hc, h]
    simp
  refine ⟨hok, ?_, ?_, ?_⟩ <;> unfold decA <;> rw [if_pos hok, e]
  · rw [p1, ha]
  · rw [p2, hb]
  · rw [p3, hc]

theorem decOk_iff {l : List UInt8} : decOk l = true ↔ l.length = 24 ∧ mayH (part4 l 4) (part4 l 8) (part4 l 12) = true ∧ hBytes (part4 l 4) (part4 l 8) (part4 l 12) = l := by
  unfold decOk
  simp [Bool.and_eq_true, and_assoc]

/-- What was decoded is encoded so. -/
theorem enc_dec {l : List UInt8} (h : decOk l = true) : encB (decA l 4) (decA l 8) (decA l 12) = l ∧ mayH (decA l 4) (decA l 8) (decA l 12) = true := by
  obtain ⟨_, h2, h3⟩ := decOk_iff.1 h
  unfold encB decA
  simp only [h, if_true]
  exact ⟨by rw [if_pos h2]; simpa using h3, h2⟩

/-- Bytes that differ from a handle's in one byte of the form, or of the sum, are no handle's. -/
theorem dec_bit {a b c : Int} (h : mayH a b c = true) {i : Nat} (hi : i < 4 ∨ 16 ≤ i) (hl : i < 24) {x : UInt8} (hx : (encB a b c)[i]? ≠ some x) : decOk ((encB a b c).set i x) = false := by
  rw [Bool.eq_false_iff]
  intro hd
  obtain ⟨_, _, h3⟩ := decOk_iff.1 hd
  have e : encB a b c = hBytes a.toNat b.toNat c.toNat := by unfold encB; rw [if_pos h]
  obtain ⟨h1, h2, h4, h5, h6, h7⟩ := mayH_iff.1 h
  obtain ⟨p1, p2, p3⟩ := part4_h (a := a.toNat) (b := b.toNat) (c := c.toNat) (by omega) (by omega) (by omega)
  have hp : ∀ k, (k = 4 ∨ k = 8 ∨ k = 12) → part4 ((encB a b c).set i x) k = part4 (encB a b c) k := by
    intro k hk
    unfold part4
    congr 1
    apply List.ext_getElem?
    intro j
    simp only [List.getElem?_take, List.getElem?_drop]
    by_cases hj : j < 4
    · rw [if_pos hj, if_pos hj, List.getElem?_set_ne (by omega)]
    · rw [if_neg hj, if_neg hj]
  rw [hp 4 (.inl rfl), hp 8 (.inr (.inl rfl)), hp 12 (.inr (.inr rfl)), e, p1, p2, p3, ← e] at h3
  have hlen : i < (encB a b c).length := by rw [e, hBytes_length]; exact hl
  have := congrArg (fun l => l[i]?) h3
  simp only [List.getElem?_set_self hlen] at this
  exact hx this

theorem enc_length {a b c : Int} (h : mayH a b c = true) : (encB a b c).length = 24 := by
  unfold encB; rw [if_pos h, hBytes_length]

theorem enc_inj {a b c x y z : Int} (h : mayH a b c = true) (k : mayH x y z = true) (e : encB a b c = encB x y z) : a = x ∧ b = y ∧ c = z := by
  obtain ⟨_, h1, h2, h3⟩ := decOk_enc h
  obtain ⟨_, k1, k2, k3⟩ := decOk_enc k
  rw [e] at h1 h2 h3
  exact ⟨h1.symm.trans k1, h2.symm.trans k2, h3.symm.trans k3⟩

/-- Less is an order. -/
theorem less_or (a b c x y z : Int) : (lessH a b c x y z || lessH x y z a b c) = !(decide (a = x ∧ b = y ∧ c = z)) := by
  unfold lessH
  rw [Bool.eq_iff_iff]
  by_cases h1 : a = x <;> by_cases h2 : b = y <;> simp [h1, h2, Ne.symm] <;> (try simp [Ne.symm h1]) <;> (try simp [Ne.symm h2]) <;> omega
theorem less_and (a b c x y z : Int) : (lessH a b c x y z && lessH x y z a b c) = false := by
  unfold lessH
  rw [Bool.eq_false_iff]
  intro h
  rw [Bool.and_eq_true] at h
  obtain ⟨h, k⟩ := h
  split at h <;> split at k <;> (try split at h) <;> (try split at k) <;> simp only [decide_eq_true_eq] at h k <;> omega
theorem less_trans {a b c x y z p q r : Int} (h : lessH a b c x y z = true) (k : lessH x y z p q r = true) : lessH a b c p q r = true := by
  unfold lessH at *
  split at h <;> split at k <;> (try split at h) <;> (try split at k) <;> simp only [decide_eq_true_eq] at h k <;>
    (split <;> (try split) <;> simp only [decide_eq_true_eq] <;> omega)

/-- Which of two numbers of k bytes stands ahead is what their bytes say, the greatest first. -/
theorem less_be (k : Nat) : ∀ (a b : Nat) (l m : List UInt8), a < 256 ^ k → b < 256 ^ k → Op.bytesLess (be k a ++ l) (be k b ++ m) = if a = b then Op.bytesLess l m else decide (a < b) := by
  induction k with
  | zero =>
    intro a b l m ha hb
    simp only [Nat.pow_zero, Nat.lt_one_iff] at ha hb
    subst ha; subst hb
    rfl
  | succ k ih =>
    intro a b l m ha hb
    have hp : 0 < 256 ^ k := Nat.pow_pos (by decide)
    have hda : a / 256 ^ k < 256 := by rw [Nat.div_lt_iff_lt_mul hp, Nat.mul_comm, ← Nat.pow_succ]; exact ha
    have hdb : b / 256 ^ k < 256 := by rw [Nat.div_lt_iff_lt_mul hp, Nat.mul_comm, ← Nat.pow_succ]; exact hb
    have iha := ih (a % 256 ^ k) (b % 256 ^ k) l m (Nat.mod_lt _ hp) (Nat.mod_lt _ hp)
    rw [be_mod, be_mod] at iha
    simp only [be, List.cons_append, Op.bytesLess, iha]
    have e1 : (UInt8.ofNat (a / 256 ^ k) < UInt8.ofNat (b / 256 ^ k)) = (a / 256 ^ k < b / 256 ^ k) := by
      rw [UInt8.lt_iff_toNat_lt, ofNat_toNat, ofNat_toNat, Nat.mod_eq_of_lt hda, Nat.mod_eq_of_lt hdb]
    have e2 : (UInt8.ofNat (a / 256 ^ k) == UInt8.ofNat (b / 256 ^ k)) = decide (a / 256 ^ k = b / 256 ^ k) := by
      rw [Bool.eq_iff_iff, beq_iff_eq, decide_eq_true_eq]
      constructor
      · intro h
        have := congrArg UInt8.toNat h
        rwa [ofNat_toNat, ofNat_toNat, Nat.mod_eq_of_lt hda, Nat.mod_eq_of_lt hdb] at this
      · intro h; rw [h]
    simp only [e1, e2]
    have h1 := Nat.div_add_mod a (256 ^ k)
    have h2 := Nat.div_add_mod b (256 ^ k)
    have m1 := Nat.mod_lt a hp
    have m2 := Nat.mod_lt b hp
    rcases Nat.lt_trichotomy (a / 256 ^ k) (b / 256 ^ k) with h | h | h
    · have hlt : a < b := Nat.lt_of_div_lt_div h
      rw [if_neg (show ¬ a = b by omega)]
      simp [h, hlt]
    · rw [h] at h1
      by_cases hab : a = b
      · subst hab; simp
      · have hne : ¬ a % 256 ^ k = b % 256 ^ k := by omega
        rw [if_neg hab, if_neg hne]
        have : (a % 256 ^ k < b % 256 ^ k) = (a < b) := by apply propext; omega
        simp [h, this]
    · have hlt : b < a := Nat.lt_of_div_lt_div h
      rw [if_neg (show ¬ a = b by omega)]
      have n1 : ¬ a < b := by omega
      have n2 : ¬ a / 256 ^ k < b / 256 ^ k := by omega
      have n3 : ¬ a / 256 ^ k = b / 256 ^ k := by omega
      simp [n1, n2, n3]

/-- One handle stands ahead of another one just if its first 16 bytes do. -/
theorem less_bytes {a b c x y z : Int} (h : mayH a b c = true) (k : mayH x y z = true) : Op.bytesLess ((encB a b c).take 16) ((encB x y z).take 16) = lessH a b c x y z := by
  obtain ⟨h1, h2, h3, h4, h5, h6⟩ := mayH_iff.1 h
  obtain ⟨k1, k2, k3, k4, k5, k6⟩ := mayH_iff.1 k
  unfold encB lessH
  rw [if_pos h, if_pos k, take_hBytes, take_hBytes]
  unfold h16
  rw [less_be 4 1 1 _ _ (by decide) (by decide), if_pos rfl, less_be 4 _ _ _ _ (by omega) (by omega)]
  by_cases ha : a = x
  · subst ha
    rw [if_pos rfl, if_pos rfl, less_be 4 _ _ _ _ (by omega) (by omega)]
    by_cases hb : b = y
    · subst hb
      rw [if_pos rfl, if_pos rfl]
      have := less_be 4 c.toNat z.toNat [] [] (by omega) (by omega)
      rw [List.append_nil, List.append_nil] at this
      rw [this]
      by_cases hc : c = z
      · subst hc; rw [if_pos rfl]; simp [Op.bytesLess]
      · rw [if_neg (by omega)]; rw [Bool.eq_iff_iff]; simp only [decide_eq_true_eq]; omega
    · rw [if_neg (by omega), if_neg hb]; rw [Bool.eq_iff_iff]; simp only [decide_eq_true_eq]; omega
  · rw [if_neg (by omega), if_neg ha]; rw [Bool.eq_iff_iff]; simp only [decide_eq_true_eq]; omega

end Go.Proofs.Ytchldgedpncggaa.Pl
