/- Roots, in plain Lean: what was sealed is opened so; what is opened was sealed so; another byte is told. Conditions: none. -/
import Derived.Test.YteoomhkdffnkkaaRngOpen
namespace Go.Proofs.Yteoomhkdffnkkaa
set_option linter.unusedVariables false
set_option linter.unusedSimpArgs false
open Go.ChangeShapes Go.WideShapes Go.ChangeAt Go.RowKit Pl

theorem rs_sealE_ok {b : Int} {l : List UInt8} (h : sealE b l = 0) : 0 ≤ b ∧ b ≤ 2147483647 ∧ l.length ≤ 500 := by
  unfold sealE at h
  by_cases h1 : b < 0 ∨ 2147483647 < b
  · rw [if_pos h1] at h; omega
  · rw [if_neg h1] at h
    by_cases h2 : 500 < l.length
    · rw [if_pos h2] at h; omega
    · omega
theorem rs_seal_open {k : UInt8} {b : Int} {l : List UInt8} (h : sealE b l = 0) :
    openOK (sealL k b l) = true ∧ oK (sealL k b l) = k ∧ oB (sealL k b l) = b ∧ oS (sealL k b l) = l ∧ oN (sealL k b l) = l.length := by
  obtain ⟨h0, h1, h2⟩ := rs_sealE_ok h
  have hL : sealL k b l = sealB k b l := if_pos h
  have hK : oK (sealB k b l) = k := rfl
  have hN : oN (sealB k b l) = l.length := by
    have : oN (sealB k b l) = (UInt8.ofNat (l.length / 256)).toNat * 256 + (UInt8.ofNat l.length).toNat := rfl
    rw [this, UInt8.toNat_ofNat', UInt8.toNat_ofNat']
    omega
  have hd8 : (sealB k b l).drop 8 = be 4 b.toNat ++ (l ++ zs (500 - l.length)) := by
    unfold sealB
    rw [List.append_assoc, List.append_assoc, List.drop_left' (by simp)]
  have hB : oB (sealB k b l) = b := by
    unfold oB
    rw [hd8, List.take_left' (by simp), unbe_be, Nat.zero_mul, Nat.zero_add, show 256 ^ 4 = 4294967296 from rfl, Nat.mod_eq_of_lt (by omega)]
    omega
  have hS : oS (sealB k b l) = l := by
    unfold oS
    rw [hN, show 12 = 8 + 4 from rfl, ← List.drop_drop, hd8, List.drop_left' (by simp), List.take_left' rfl]
  rw [hL]
  refine ⟨?_, hK, hB, hS, hN⟩
  unfold openOK
  rw [hN, hB, hS, hK, hL, h]
  simp [h2]
theorem rs_parts {x : List UInt8} (h : openOK x = true) : sealE (oB x) (oS x) = 0 ∧ sealL (oK x) (oB x) (oS x) = x := by
  unfold openOK at h
  simp only [Bool.and_eq_true, beq_iff_eq] at h
  exact ⟨h.1.2, h.2⟩

/-- A text m of a root's block: what is opened. -/
theorem ro_of {t : Int} {m : List UInt8} (ht : 1 ≤ t) (h : sealE t m = 0) (hm : 8 ≤ m.length) : roOK (sealL 3 t m) = true ∧ roSum (sealL 3 t m) = (m.take 8 == rSum (m.drop 8)) ∧ oB (sealL 3 t m) = t ∧ oS (sealL 3 t m) = m := by
  obtain ⟨o1, o2, o3, o4, _⟩ := rs_seal_open (k := 3) h
  refine ⟨?_, ?_, o3, o4⟩
  · unfold roOK
    rw [o1, o2, o3, o4]
    simp [hm, ht]
  · have := sum_bytes (l := sealL 3 t m) (by rw [o4]; exact hm)
    rw [o4] at this
    exact this.symm
/-- What was sealed is opened so. -/
theorem rs_open {t : Int} {l : List UInt8} (h : rsE t l = 0) : roE (rsL t l) = 0 ∧ oB (rsL t l) = t ∧ (oS (rsL t l)).drop 8 = l := by
  have hL : rsL t l = sealL 3 t (rSum l ++ l) := if_pos h
  obtain ⟨h1, h2, h3⟩ := rsE_ok h
  obtain ⟨a, b, c, d⟩ := ro_of (m := rSum l ++ l) h1 (sealE_of h) (by rw [List.length_append, rSum_len]; omega)
  rw [hL]
  have hd : (rSum l ++ l).drop 8 = l := List.drop_left' (rSum_len l)
  have htk : (rSum l ++ l).take 8 = rSum l := List.take_left' (rSum_len l)
  refine ⟨?_, c, by rw [d, hd]⟩
  unfold roE
  rw [if_pos a, if_pos (by rw [b, hd, htk]; simp)]
/-- What is opened was sealed so. -/
theorem ro_sealed {x : List UInt8} (h : roE x = 0) : rsE (oB x) ((oS x).drop 8) = 0 ∧ rsL (oB x) ((oS x).drop 8) = x := by
  have hok : roOK x = true := by
    unfold roE at h
    by_cases e : roOK x = true
    · exact e
    · rw [if_neg e] at h; omega
  have hsum : roSum x = true := by
    unfold roE at h
    rw [if_pos hok] at h
    by_cases e : roSum x = true
    · exact e
    · rw [if_neg e] at h; omega
  unfold roOK at hok
  simp only [Bool.and_eq_true, beq_iff_eq, decide_eq_true_eq] at hok
  obtain ⟨⟨⟨o1, o2⟩, o3⟩, o4⟩ := hok
  obtain ⟨p1, p2⟩ := rs_parts o1
  obtain ⟨q1, q2, q3⟩ := rs_sealE_ok p1
  have hE : rsE (oB x) ((oS x).drop 8) = 0 := by
    unfold rsE
    rw [if_neg (by omega), if_neg (by rw [List.length_drop]; omega)]
  refine ⟨hE, ?_⟩
  have hk : oK x = 3 := UInt8.toNat_inj.1 (by show (oK x).toNat = 3; omega)
  have hs := sum_bytes (l := x) o3
  rw [hsum, beq_iff_eq] at hs
  show (if rsE (oB x) ((oS x).drop 8) = 0 then sealL 3 (oB x) (rSum ((oS x).drop 8) ++ (oS x).drop 8) else zs 512) = x
  rw [if_pos hE, ← hs, List.take_append_drop, ← hk]
  exact p2

theorem inv_step (x : Nat) (hx : x < 18446744073709551616) : (x * 1099511628211 % 18446744073709551616) * 14886173955864302971 % 18446744073709551616 = x := by
  have hq : 1099511628211 * 14886173955864302971 % 18446744073709551616 = 1 := by decide
  have h : (x * 1099511628211 % 18446744073709551616) * 14886173955864302971 % 18446744073709551616 = (x * (1099511628211 * 14886173955864302971)) % 18446744073709551616 := by
    rw [Nat.mul_mod, Nat.mod_mod, ← Nat.mul_mod, Nat.mul_assoc]
  rw [h, Nat.mul_mod, hq, Nat.mul_one, Nat.mod_mod, Nat.mod_eq_of_lt hx]
theorem step_inj {x y : Nat} (hx : x < 18446744073709551616) (hy : y < 18446744073709551616) (h : x * 1099511628211 % 18446744073709551616 = y * 1099511628211 % 18446744073709551616) : x = y := by
  rw [← inv_step x hx, h, inv_step y hy]
theorem xor_lt {u c : Nat} (hu : u < 18446744073709551616) (hc : c < 256) : u ^^^ c < 18446744073709551616 := Nat.xor_lt_two_pow (n := 64) hu (by omega)
theorem fnv_inj : ∀ (r : List UInt8) {u v : Nat}, u < 18446744073709551616 → v < 18446744073709551616 → fnv u r = fnv v r → u = v
  | [], _, _, _, _, h => h
  | c :: r, u, v, hu, hv, h => by
    have hc := c.toNat_lt
    have h1 := fnv_inj r (Nat.mod_lt _ (by decide)) (Nat.mod_lt _ (by decide)) h
    have h2 := step_inj (xor_lt hu hc) (xor_lt hv hc) h1
    have e1 : u = (u ^^^ c.toNat) ^^^ c.toNat := by rw [Nat.xor_assoc, Nat.xor_self, Nat.xor_zero]
    rw [e1, h2, Nat.xor_assoc, Nat.xor_self, Nat.xor_zero]
theorem fnv_other (r : List UInt8) {u : Nat} {c d : UInt8} (hu : u < 18446744073709551616) (hcd : c ≠ d) : fnv u (c :: r) ≠ fnv u (d :: r) := by
  intro h
  have h1 := fnv_inj r (Nat.mod_lt _ (by decide)) (Nat.mod_lt _ (by decide)) h
  have h2 := step_inj (xor_lt hu c.toNat_lt) (xor_lt hu d.toNat_lt) h1
  have e1 : c.toNat = u ^^^ (u ^^^ c.toNat) := by rw [← Nat.xor_assoc, Nat.xor_self, Nat.zero_xor]
  have e2 : d.toNat = u ^^^ (u ^^^ d.toNat) := by rw [← Nat.xor_assoc, Nat.xor_self, Nat.zero_xor]
  exact hcd (UInt8.toNat_inj.1 (by rw [e1, h2, ← e2]))
theorem fnv_set {l : List UInt8} {k : Nat} {c : UInt8} (hk : k < l.length) (hne : l[k] ≠ c) : fnv fnv0 (l.set k c) ≠ fnv fnv0 l := by
  intro h
  have e1 : l.set k c = l.take k ++ c :: l.drop (k + 1) := by rw [List.set_eq_take_append_cons_drop, if_pos hk]
  have e2 : l = l.take k ++ l[k] :: l.drop (k + 1) := by rw [List.getElem_cons_drop, List.take_append_drop]
  rw [e1, fnv_append] at h
  conv at h => rhs; rw [e2, fnv_append]
  exact fnv_other _ (fnv_lt _ (by decide)) (Ne.symm hne) h
theorem rSum_set {l : List UInt8} {k : Nat} {c : UInt8} (hk : k < l.length) (hne : l[k] ≠ c) : rSum l ≠ rSum (l.set k c) := by
  intro h
  unfold rSum at h
  have h1 := congrArg (unbe 0) h
  have f1 := fnv_lt l (u := fnv0) (by decide)
  have f2 := fnv_lt (l.set k c) (u := fnv0) (by decide)
  rw [unbe_be, unbe_be, Nat.zero_mul, Nat.zero_add, Nat.zero_add, show 256 ^ 8 = 18446744073709551616 from rfl, Nat.mod_eq_of_lt f1, Nat.mod_eq_of_lt f2] at h1
  exact fnv_set hk hne h1.symm
/-- Another byte in the place of one of the sum's, or the body's, is told. -/
theorem ro_other {t : Int} {l : List UInt8} (h : rsE t l = 0) {j : Nat} (hj : j < 8 + l.length) {c : UInt8} (hc : ((rSum l ++ l)[j]'(by rw [List.length_append, rSum_len]; exact hj)) ≠ c) : roE ((rsL t l).set (12 + j) c) = 52 := by
  have hL : rsL t l = sealL 3 t (rSum l ++ l) := if_pos h
  obtain ⟨h1, h2, h3⟩ := rsE_ok h
  have hE := sealE_of h
  have hlen : (rSum l ++ l).length = 8 + l.length := by rw [List.length_append, rSum_len]
  have hE' : sealE t ((rSum l ++ l).set j c) = 0 := by
    have : sealE t ((rSum l ++ l).set j c) = sealE t (rSum l ++ l) := by unfold sealE; rw [List.length_set]
    rw [this, hE]
  have hset : (rsL t l).set (12 + j) c = sealL 3 t ((rSum l ++ l).set j c) := by
    rw [hL]
    show (if _ then _ else _ : List UInt8).set _ _ = (if _ then _ else _)
    rw [if_pos hE, if_pos hE']
    unfold sealB
    rw [List.length_set]
    have e4 : ([106, 116, 116, 121, (3 : UInt8), 0, UInt8.ofNat ((rSum l ++ l).length / 256), UInt8.ofNat (rSum l ++ l).length] ++ be 4 t.toNat).length = 12 := by simp
    rw [List.append_assoc (_ ++ _) (rSum l ++ l), List.append_assoc (_ ++ _) ((rSum l ++ l).set j c)]
    rw [List.set_append_right _ _ (by rw [e4]; omega), e4, show 12 + j - 12 = j from by omega, List.set_append_left _ _ (by rw [hlen]; exact hj)]
  obtain ⟨a, b, _, _⟩ := ro_of (m := (rSum l ++ l).set j c) h1 hE' (by rw [List.length_set]; omega)
  rw [hset]
  unfold roE
  rw [if_pos a, if_neg]
  rw [b, beq_iff_eq]
  by_cases h8 : j < 8
  · have e1 : (rSum l ++ l).set j c = (rSum l).set j c ++ l := by rw [List.set_append_left _ _ (by rw [rSum_len]; exact h8)]
    rw [e1, List.take_left' (by rw [List.length_set, rSum_len]), List.drop_left' (by rw [List.length_set, rSum_len])]
    intro e
    have hg : ((rSum l).set j c)[j]'(by rw [List.length_set, rSum_len]; exact h8) = c := by simp
    apply hc
    rw [List.getElem_append_left (by rw [rSum_len]; exact h8)]
    rw [← hg]
    simp only [e]
  · have e1 : (rSum l ++ l).set j c = rSum l ++ l.set (j - 8) c := by rw [List.set_append_right _ _ (by rw [rSum_len]; omega), rSum_len]
    rw [e1, List.take_left' (rSum_len l), List.drop_left' (rSum_len l)]
    refine rSum_set (by omega) (fun e => hc ?_)
    rw [List.getElem_append_right (by rw [rSum_len]; omega)]
    simpa [rSum_len] using e
theorem umod_int (a m : Int) (h0 : 0 < m) (h1 : m < 9223372036854775808) : ∃ k : Nat, wrap64 ((IntKind.u64.wrap a).tmod m) = (k : Int) ∧ (k : Int) < m := by
  have hn : 0 ≤ IntKind.u64.wrap a := by rw [IntKind.wrap_u64]; omega
  have hl := Int.emod_lt_of_pos (IntKind.u64.wrap a) h0
  have hg := Int.emod_nonneg (IntKind.u64.wrap a) (b := m) (by omega)
  refine ⟨(IntKind.u64.wrap a % m).toNat, ?_, by omega⟩
  rw [Int.tmod_eq_emod_of_nonneg hn, IntWalk.wrap64_in _ (by omega)]
  omega

end Go.Proofs.Yteoomhkdffnkkaa
