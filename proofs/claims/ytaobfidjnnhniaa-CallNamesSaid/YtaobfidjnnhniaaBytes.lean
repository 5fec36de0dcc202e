/- Numbers as bytes, the greatest first, and the FNV-1a sum of bytes: plain lists and numbers, no program in sight. Conditions: none. -/
import Derived.KernelRfl
namespace Go.Proofs.Ytaobfidjnnhniaa.Pl
set_option linter.unusedVariables false
set_option linter.unusedSimpArgs false

/-- The k lowest bytes of a number, the greatest first. -/
def be : Nat → Nat → List UInt8
  | 0, _ => []
  | k + 1, n => UInt8.ofNat (n / 256 ^ k) :: be k n

/-- The number of bytes, the greatest first, behind a number u. -/
def unbe (u : Nat) : List UInt8 → Nat
  | [] => u
  | c :: l => unbe (u * 256 + c.toNat) l

@[simp] theorem be_length (k n : Nat) : (be k n).length = k := by
  induction k with
  | zero => rfl
  | succ k ih => simp [be, ih]

theorem unbe_append (u : Nat) (l m : List UInt8) : unbe u (l ++ m) = unbe (unbe u l) m := by
  induction l generalizing u with
  | nil => rfl
  | cons c l ih => exact ih _

theorem ofNat_toNat (n : Nat) : (UInt8.ofNat n).toNat = n % 256 := by simp [UInt8.toNat_ofNat']

theorem unbe_be (k n u : Nat) : unbe u (be k n) = u * 256 ^ k + n % 256 ^ k := by
  induction k generalizing u with
  | zero => simp [be, unbe, Nat.mod_one]
  | succ k ih =>
    rw [be, unbe, ih, ofNat_toNat, Nat.add_mul, Nat.mul_assoc, ← Nat.pow_succ', Nat.add_assoc]
    congr 1
    rw [Nat.pow_succ, Nat.mod_mul, Nat.mul_comm (n / 256 ^ k % 256), Nat.add_comm]

theorem unbe_lt (l : List UInt8) (u : Nat) : unbe u l < (u + 1) * 256 ^ l.length := by
  induction l generalizing u with
  | nil => simp [unbe]
  | cons c l ih =>
    have h := ih (u * 256 + c.toNat)
    have hc := c.toNat_lt
    rw [unbe, List.length_cons, Nat.pow_succ']
    refine Nat.lt_of_lt_of_le h ?_
    rw [← Nat.mul_assoc]
    exact Nat.mul_le_mul_right _ (by omega)

theorem unbe_split (u : Nat) (l : List UInt8) : unbe u l = u * 256 ^ l.length + unbe 0 l := by
  induction l generalizing u with
  | nil => simp [unbe]
  | cons c l ih =>
    rw [unbe, unbe, ih, ih (0 * 256 + c.toNat), List.length_cons, Nat.pow_succ', ← Nat.mul_assoc, ← Nat.add_assoc, ← Nat.add_mul]
    congr 2
    omega

theorem be_unbe (l : List UInt8) (k : Nat) (h : l.length = k) : ∀ u, be k (unbe u l) = l := by
  subst h
  induction l with
  | nil => intro u; rfl
  | cons c l ih =>
    intro u
    rw [unbe, List.length_cons, be, ih]
    congr 1
    have hs := unbe_split (u * 256 + c.toNat) l
    have hlt := unbe_lt l 0
    have hp : 0 < 256 ^ l.length := Nat.pow_pos (by decide)
    have hd : unbe (u * 256 + c.toNat) l / 256 ^ l.length = u * 256 + c.toNat := by
      rw [hs, Nat.mul_comm, Nat.mul_add_div hp, Nat.div_eq_of_lt (by omega)]
      omega
    rw [hd]
    apply UInt8.toNat.inj
    have := c.toNat_lt
    rw [ofNat_toNat]
    omega

theorem be_mod (k n : Nat) : be k (n % 256 ^ k) = be k n := by
  have h := be_unbe (be k n) k (be_length k n) 0
  rw [unbe_be, Nat.zero_mul, Nat.zero_add] at h
  exact h

theorem be_inj {k a b : Nat} (ha : a < 256 ^ k) (hb : b < 256 ^ k) (h : be k a = be k b) : a = b := by
  have := congrArg (unbe 0) h
  rw [unbe_be, unbe_be, Nat.mod_eq_of_lt ha, Nat.mod_eq_of_lt hb] at this
  omega

theorem take_be (x : Nat) : ∀ (m k : Nat), k < m → (be m x).take (k + 1) = (be m x).take k ++ [UInt8.ofNat (x / 256 ^ (m - 1 - k))] := by
  intro m
  induction m with
  | zero => intro k h; omega
  | succ m ih =>
    intro k h
    cases k with
    | zero => simp [be]
    | succ k =>
      have e : m + 1 - 1 - (k + 1) = m - 1 - k := by omega
      rw [be, List.take_succ_cons, List.take_succ_cons, ih k (by omega), e, List.cons_append]

theorem byte_int (x j : Nat) : (((UInt8.ofNat (x / 256 ^ j)).toNat : Nat) : Int) = (x : Int) / 2 ^ (8 * j) % 256 := by
  rw [ofNat_toNat, Int.natCast_emod, Int.natCast_ediv, Int.natCast_pow, Int.pow_mul]
  rfl

theorem be_add (j k n : Nat) : be (j + k) n = be j (n / 256 ^ k) ++ be k n := by
  induction j with
  | zero => simp [be]
  | succ j ih =>
    rw [show j + 1 + k = (j + k) + 1 from by omega, be, be, ih, Nat.div_div_eq_div_mul, ← Nat.pow_add, Nat.add_comm k j]
    rfl
theorem be8 (n : Nat) : be 8 n = be 4 (n / 4294967296) ++ be 4 (n % 4294967296) := by
  rw [show 8 = 4 + 4 from rfl, be_add, show 4294967296 = 256 ^ 4 from rfl, be_mod]

/-- The number of the j-th four of the first k bytes. -/
def chunk (l : List UInt8) (k j : Nat) : Nat := unbe 0 (((l.take k).drop (4 * j)).take 4)
theorem chunk_zero (l : List UInt8) (j : Nat) : chunk l 0 j = 0 := by simp [chunk, unbe]
theorem chunk_lt (l : List UInt8) (k : Nat) : chunk l k (k / 4) < 16777216 := by
  have h := unbe_lt (((l.take k).drop (4 * (k / 4))).take 4) 0
  have hl : (((l.take k).drop (4 * (k / 4))).take 4).length ≤ 3 := by simp only [List.length_take, List.length_drop]; omega
  have hp : 256 ^ (((l.take k).drop (4 * (k / 4))).take 4).length ≤ 256 ^ 3 := Nat.pow_le_pow_right (by decide) hl
  unfold chunk
  omega
theorem chunk_step (l : List UInt8) (k j : Nat) (hk : k < l.length) : chunk l (k + 1) j = if j = k / 4 then chunk l k j * 256 + (l[k]).toNat else chunk l k j := by
  unfold chunk
  have ht : l.take (k + 1) = l.take k ++ [l[k]] := by rw [List.take_succ_eq_append_getElem hk]
  have hlen : (l.take k).length = k := by simp; omega
  rw [ht, List.drop_append, hlen]
  by_cases h1 : j = k / 4
  · rw [if_pos h1]
    have e1 : 4 * j - k = 0 := by omega
    have hd : ((l.take k).drop (4 * j)).length = k - 4 * j := by rw [List.length_drop, hlen]
    have t1 : ((l.take k).drop (4 * j) ++ [l[k]]).take 4 = (l.take k).drop (4 * j) ++ [l[k]] := List.take_of_length_le (by rw [List.length_append, hd, List.length_singleton]; omega)
    have t2 : ((l.take k).drop (4 * j)).take 4 = (l.take k).drop (4 * j) := List.take_of_length_le (by rw [hd]; omega)
    rw [e1, List.drop_zero, t1, t2, unbe_append]
    simp [unbe]
  · rw [if_neg h1]
    by_cases h2 : j < k / 4
    · rw [List.take_append_of_le_length (by simp only [List.length_drop, hlen]; omega)]
    · have e1 : ([l[k]] : List UInt8).drop (4 * j - k) = [] := List.drop_eq_nil_of_le (by simp; omega)
      rw [e1, List.append_nil]
theorem chunk_all (l : List UInt8) (j : Nat) (h : 4 * j + 4 ≤ 16) : chunk l 16 j = unbe 0 ((l.drop (4 * j)).take 4) := by
  unfold chunk
  congr 1
  rw [List.drop_take, List.take_take, Nat.min_eq_left (by omega)]

/-- The sum of bytes (FNV-1a), behind a sum u. -/
def fnv (u : Nat) : List UInt8 → Nat
  | [] => u
  | c :: l => fnv (((u ^^^ c.toNat) * 1099511628211) % 18446744073709551616) l

def fnv0 : Nat := 14695981039346656037

theorem fnv_append (u : Nat) (l m : List UInt8) : fnv u (l ++ m) = fnv (fnv u l) m := by
  induction l generalizing u with
  | nil => rfl
  | cons c l ih => exact ih _

theorem fnv_lt (l : List UInt8) {u : Nat} (hu : u < 18446744073709551616) : fnv u l < 18446744073709551616 := by
  induction l generalizing u with
  | nil => exact hu
  | cons c l ih => exact ih (Nat.mod_lt _ (by decide))

end Go.Proofs.Ytaobfidjnnhniaa.Pl
