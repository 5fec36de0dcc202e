/- Heads and answers: which are the same; how much they weigh; whose bytes are the same. -/
import Derived.Test.YtaobfidjnnhniaaCallWorks
namespace Go.Proofs.Ytaobfidjnnhniaa
set_option linter.unusedVariables false
set_option linter.unusedSimpArgs false
open Go.ChangeShapes Go.WideShapes Go.ChangeAt Go.RowKit Go.Joins Pl

theorem sized_of {H : Type} {P : Program} {ts : List TypeId} {ds : List (DataW H)} (h : (DataW.weightsEach P ts ds).all (· ≤ reachBytes) = true) {j : Nat} {t : TypeId} {d : DataW H} (ht : ts[j]? = some t) (hd : ds[j]? = some d) {n : Nat} (hn : n ∈ d.weights P t) : n ≤ 140737488351232 := by
  have := List.all_eq_true.1 h _ (DataW.weights_mem_each ht hd n hn)
  have h2 : n ≤ reachBytes := by simpa using this
  unfold reachBytes at h2
  omega

section
variable {H : Type} {enc : TypeId × Value → H} {w : World} {base : Nat} {spare : Nat → Bool} {held : Bool}
theorem open_headW {r : Reach} {b0 : Nat} {v : Value} {d : DataW H} {p : List MemPlace} (hv0 : Value.okWide Try.prog w r b0 23 v) (h : DataW.Trod enc Try.prog w base spare held 23 v d p) :
    ∃ (a b c : Int) (l : List UInt8), v = headV a b c l ∧ i64 a ∧ i64 b ∧ i64 c ∧ l.length ∈ d.weights Try.prog 23 := by
  obtain ⟨v0, v1, v2, v3, y0, y1, y2, y3, n, rfl, rfl, rfl, h0, h1, h2, h3⟩ := open_agg4 Try.underlying23 (by kernel_rfl) (by kernel_rfl) hv0 h
  obtain ⟨a, e0, rfl, wa⟩ := DataW.trod_int Try.underlying3 h0
  obtain ⟨b, e1, rfl, wb⟩ := DataW.trod_int Try.underlying3 h1
  obtain ⟨c, e2, rfl, wc⟩ := DataW.trod_int Try.underlying3 h2
  obtain ⟨s, e3, ey, hs⟩ := DataW.trod_string Try.underlying9 h3
  simp at e0 e1 e2 e3
  subst e0 e1 e2 e3
  refine ⟨a, b, c, s.data.toList, by show Value.agg _ = Value.agg #[_, _, _, .string ⟨s.data.toList.toArray⟩]; rw [Array.toArray_toList], bounds_i64 wa, bounds_i64 wb, bounds_i64 wc, ?_⟩
  have : y3 = (DataW.lit (.string s.data.toList), []) := ey
  subst this
  simp [DataW.weights, DataW.weightsEach, Try.underlying23, Try.underlying9]
theorem open_ansW {r : Reach} {b0 : Nat} {v : Value} {d : DataW H} {p : List MemPlace} (hv0 : Value.okWide Try.prog w r b0 26 v) (h : DataW.Trod enc Try.prog w base spare held 26 v d p) :
    ∃ (a b : Int) (l : List UInt8), v = ansV a b l ∧ i64 a ∧ i64 b ∧ l.length ∈ d.weights Try.prog 26 := by
  obtain ⟨v0, v1, v2, y0, y1, y2, n, rfl, rfl, rfl, h0, h1, h2⟩ := open_agg3 Try.underlying26 (by kernel_rfl) (by kernel_rfl) hv0 h
  obtain ⟨a, e0, rfl, wa⟩ := DataW.trod_int Try.underlying3 h0
  obtain ⟨b, e1, rfl, wb⟩ := DataW.trod_int Try.underlying24 h1
  obtain ⟨s, e2, ey, hs⟩ := DataW.trod_string Try.underlying9 h2
  simp at e0 e1 e2
  subst e0 e1 e2
  refine ⟨a, b, s.data.toList, by show Value.agg _ = Value.agg #[_, _, .string ⟨s.data.toList.toArray⟩]; rw [Array.toArray_toList], bounds_i64 wa, bounds_i64 wb, ?_⟩
  have : y2 = (DataW.lit (.string s.data.toList), []) := ey
  subst this
  simp [DataW.weights, DataW.weightsEach, Try.underlying26, Try.underlying9]
end

def eqD (c x p : Int) (l : List UInt8) (c' x' p' : Int) (l' : List UInt8) : Bool := decide (c = c' ∧ x = x' ∧ p = p' ∧ l = l')
def eqA (x e : Int) (l : List UInt8) (x' e' : Int) (l' : List UInt8) : Bool := decide (x = x' ∧ e = e' ∧ l = l')
theorem ba_beq (l m : List UInt8) : ((⟨l.toArray⟩ : ByteArray) == (⟨m.toArray⟩ : ByteArray)) = decide (l = m) := by
  rw [beq_toListBytes, ba_toList, ba_toList]
  by_cases h : l = m
  · subst h; simp
  · rw [decide_eq_false h]; simpa using h
section
variable (c x p e : Int) (l : List UInt8) (c' x' p' e' : Int) (l' : List UInt8) (w : World)
theorem eql_ref : (binOp BinOp.eql 23 (headV c x p l) (headV c' x' p' l')).run Try.prog w = .ok (.bool (eqD c x p l c' x' p' l')) w := by
  unfold eqD
  by_cases h1 : c = c' <;> by_cases h2 : x = x' <;> by_cases h3 : p = p' <;> by_cases h4 : l = l' <;> simp [go_sem, h1, h2, h3, h4, ba_toList]
theorem eql_head : (binOp BinOp.eql 29 (headV c x p l) (headV c' x' p' l')).run Try.prog w = .ok (.bool (eqD c x p l c' x' p' l')) w := by
  unfold eqD
  by_cases h1 : c = c' <;> by_cases h2 : x = x' <;> by_cases h3 : p = p' <;> by_cases h4 : l = l' <;> simp [go_sem, h1, h2, h3, h4, ba_toList]
theorem neq_head : (binOp BinOp.neq 29 (headV c x p l) (headV c' x' p' l')).run Try.prog w = .ok (.bool (!eqD c x p l c' x' p' l')) w := by
  unfold eqD
  by_cases h1 : c = c' <;> by_cases h2 : x = x' <;> by_cases h3 : p = p' <;> by_cases h4 : l = l' <;> simp [go_sem, h1, h2, h3, h4, ba_toList]
theorem eql_rans : (binOp BinOp.eql 26 (ansV x e l) (ansV x' e' l')).run Try.prog w = .ok (.bool (eqA x e l x' e' l')) w := by
  unfold eqA
  by_cases h1 : x = x' <;> by_cases h2 : e = e' <;> by_cases h4 : l = l' <;> simp [go_sem, h1, h2, h4, ba_toList]
theorem neq_ans : (binOp BinOp.neq 32 (ansV x e l) (ansV x' e' l')).run Try.prog w = .ok (.bool (!eqA x e l x' e' l')) w := by
  unfold eqA
  by_cases h1 : x = x' <;> by_cases h2 : e = e' <;> by_cases h4 : l = l' <;> simp [go_sem, h1, h2, h4, ba_toList]
end

/-! The plain laws. -/
theorem callE_ok {c x p : Int} {l : List UInt8} (h : callE c x p l = 0) : isC c = true ∧ isW x = true ∧ isW p = true ∧ l.length % 4 = 0 ∧ l.length ≤ 4072 ∧ callS c x p l = callB c x p l := by
  have hs : callS c x p l = callB c x p l := if_pos h
  unfold callE at h
  split at h
  · rename_i hg
    simp only [Bool.and_eq_true, decide_eq_true_eq] at hg
    obtain ⟨⟨⟨e1, e2⟩, e3⟩, e4⟩ := hg
    split at h
    · exact ⟨e1, e2, e3, e4, by assumption, hs⟩
    · omega
  · omega
theorem callB_eq (c x p : Int) (l : List UInt8) : callB c x p l = be 4 x.toNat ++ (be 4 0 ++ (be 4 284 ++ (be 4 3 ++ (be 4 c.toNat ++ (be 4 p.toNat ++ l))))) := by
  unfold callB wsI
  simp [List.append_assoc]
theorem callB_len (c x p : Int) (l : List UInt8) : (callB c x p l).length = 24 + l.length := by
  rw [callB_eq]
  simp
  omega
theorem be4_inj {a b : Nat} (ha : a < 4294967296) (hb : b < 4294967296) (h : be 4 a = be 4 b) : a = b := be_inj (k := 4) ha hb h
theorem callB_inj {c x p c' x' p' : Int} {l l' : List UInt8} (h : callE c x p l = 0) (h' : callE c' x' p' l' = 0) : (callS c x p l == callS c' x' p' l') = eqD c x p l c' x' p' l' := by
  obtain ⟨a1, a2, a3, _, _, a6⟩ := callE_ok h
  obtain ⟨b1, b2, b3, _, _, b6⟩ := callE_ok h'
  have a1 := isC_bounds a1
  have a2 := isW_bounds a2
  have a3 := isW_bounds a3
  have b1 := isC_bounds b1
  have b2 := isW_bounds b2
  have b3 := isW_bounds b3
  rw [a6, b6, Bool.eq_iff_iff, beq_iff_eq]
  unfold eqD
  rw [decide_eq_true_eq]
  constructor
  · intro e
    rw [callB_eq, callB_eq] at e
    obtain ⟨e1, e⟩ := List.append_inj e (by simp)
    obtain ⟨_, e⟩ := List.append_inj e (by simp)
    obtain ⟨_, e⟩ := List.append_inj e (by simp)
    obtain ⟨_, e⟩ := List.append_inj e (by simp)
    obtain ⟨e2, e⟩ := List.append_inj e (by simp)
    obtain ⟨e3, e⟩ := List.append_inj e (by simp)
    have q1 := be4_inj (by omega) (by omega) e1
    have q2 := be4_inj (by omega) (by omega) e2
    have q3 := be4_inj (by omega) (by omega) e3
    exact ⟨by omega, by omega, by omega, e⟩
  · rintro ⟨rfl, rfl, rfl, rfl⟩; rfl
theorem tellE_ok {x e : Int} {l : List UInt8} (h : tellE x e l = 0) : mayA x e l = true ∧ tellS x e l = tellB x e l := by
  unfold tellE at h
  split at h
  · rename_i hm
    exact ⟨hm, if_pos hm⟩
  · omega
theorem tellB_eq (x e : Int) (l : List UInt8) : tellB x e l = be 4 x.toNat ++ (be 4 1 ++ (be 4 e.toNat ++ l)) := by
  unfold tellB
  simp [List.append_assoc]
theorem tellB_len (x e : Int) (l : List UInt8) : (tellB x e l).length = 12 + l.length := by
  rw [tellB_eq]
  simp
  omega
theorem tellB_inj {x e x' e' : Int} {l l' : List UInt8} (h : tellE x e l = 0) (h' : tellE x' e' l' = 0) : (tellS x e l == tellS x' e' l') = eqA x e l x' e' l' := by
  obtain ⟨a1, a6⟩ := tellE_ok h
  obtain ⟨b1, b6⟩ := tellE_ok h'
  obtain ⟨a2, a3, _⟩ := mayA_bounds a1
  obtain ⟨b2, b3, _⟩ := mayA_bounds b1
  rw [a6, b6, Bool.eq_iff_iff, beq_iff_eq]
  unfold eqA
  rw [decide_eq_true_eq]
  constructor
  · intro q
    rw [tellB_eq, tellB_eq] at q
    obtain ⟨e1, q⟩ := List.append_inj q (by simp)
    obtain ⟨_, q⟩ := List.append_inj q (by simp)
    obtain ⟨e2, q⟩ := List.append_inj q (by simp)
    have q1 := be4_inj (by omega) (by omega) e1
    have q2 := be4_inj (by omega) (by omega) e2
    exact ⟨by omega, by omega, q⟩
  · rintro ⟨rfl, rfl, rfl⟩; rfl
end Go.Proofs.Ytaobfidjnnhniaa
