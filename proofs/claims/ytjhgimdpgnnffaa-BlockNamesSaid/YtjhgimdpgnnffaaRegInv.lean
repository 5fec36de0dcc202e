/- A region that draws its order, by an invariant over what has come up: the ways need not be gone one by one. Conditions: none. -/
import Derived.Test.YtjhgimdpgnnffaaHeld
namespace Go.Proofs.Ytjhgimdpgnnffaa
set_option linter.unusedVariables false
set_option linter.unusedSimpArgs false
open Go.RowKit

section
variable {P : Program} {md : Region.Mode} {ops : Array Oper} {Q : Exit → Act → World → Prop} {S : World → Prop}

theorem left_set {listed : List Bool} {i : Nat} (h : listed[i]? = some false) : ((listed.set i true).filter (fun b => !b)).length + 1 = (listed.filter (fun b => !b)).length := by
  induction listed generalizing i with
  | nil => simp at h
  | cons x l ih =>
    cases i with
    | zero => simp at h; subst h; simp
    | succ i =>
      simp only [List.getElem?_cons_succ] at h
      have := ih h
      rw [List.set_cons_succ]
      cases x <;> simp <;> omega

theorem ready_none (hback : ∀ i o, ops[i]? = some o → ∀ e ∈ o.after, Region.binds md e = true → e.on < i) {listed : Array Bool} (hn : listed.size = ops.size)
    (h : Region.ready md ops listed = []) : ∀ i, i < ops.size → listed.getD i false = true := by
  intro i
  induction i using Nat.strongRecOn with
  | ind i ih =>
    intro hi
    have hlt : i < listed.size := by omega
    cases hc : listed.getD i false
    · exfalso
      have : i ∈ Region.ready md ops listed := mem_ready.2 ⟨by simpa [hlt] using hc, ops[i], Array.getElem?_eq_getElem hi, fun e he hb => ih e.on (hback i _ (Array.getElem?_eq_getElem hi) e he hb) (by have := hback i _ (Array.getElem?_eq_getElem hi) e he hb; omega)⟩
      rw [h] at this
      cases this
    · rfl

theorem wpAnyH_inv (I : (Nat → Bool) → Act → World → Prop) (hback : ∀ i o, ops[i]? = some o → ∀ e ∈ o.after, Region.binds md e = true → e.on < i)
    (hstep : ∀ (L : Nat → Bool) a w i o, I L a w → ops[i]? = some o → L i = false → (∀ e ∈ o.after, Region.binds md e = true → L e.on = true) → wpOp P ops Q i (fun a' w' => S w' ∧ I (fun j => decide (j = i) || L j) a' w') a w)
    (hend : ∀ (L : Nat → Bool) a w, I L a w → (∀ i, i < ops.size → L i = true) → Q .normal a w) :
    ∀ (fuel : Nat) (listed : Array Bool) (a : Act) (w : World), listed.size = ops.size → (listed.toList.filter (fun b => !b)).length ≤ fuel → I (fun i => listed.getD i false) a w → wpAnyH P md ops Q S fuel listed a w := by
  intro fuel
  induction fuel with
  | zero =>
    intro listed a w hn hf hI
    have hnil : listed.toList.filter (fun b => !b) = [] := List.eq_nil_of_length_eq_zero (by omega)
    have hall : ∀ i, i < ops.size → listed.getD i false = true := by
      intro i hi
      have hlt : i < listed.size := by omega
      have hm : listed[i] ∈ listed.toList := by simp
      have := (List.filter_eq_nil_iff.1 hnil) _ hm
      simpa [hlt] using this
    refine ⟨?_, hend _ a w hI hall⟩
    unfold Region.ready
    rw [List.filter_eq_nil_iff]
    intro i hi
    have hi' : i < ops.size := by simpa using hi
    have hlt : i < listed.size := by omega
    have := hall i hi'
    simp [hlt] at this ⊢
    simp [this]
  | succ fuel ih =>
    intro listed a w hn hf hI
    refine ⟨fun h => hend _ a w hI (ready_none hback hn h), fun i hi => ?_⟩
    obtain ⟨h0, o, ho, hd⟩ := mem_ready.1 hi
    have hlt : i < listed.size := by
      rcases Nat.lt_or_ge i listed.size with h | h
      · exact h
      · simp [Array.getElem?_eq_none h] at h0
    have h1 : listed.getD i false = false := by simpa [hlt] using h0
    refine wpOp_mono (fun a' w' ⟨hs, hI'⟩ => ⟨hs, ih _ a' w' (by simpa using hn) ?_ ?_⟩) (hstep _ a w i o hI ho h1 hd)
    · have := left_set (listed := listed.toList) (i := i) (by simpa [hlt] using h0)
      rw [Array.toList_setIfInBounds]
      omega
    · have e : (fun j => decide (j = i) || listed.getD j false) = (fun j => (listed.setIfInBounds i true).getD j false) := by
        funext j
        by_cases hj : j = i
        · subst hj; simp [hlt]
        · rw [getD_set_ne false (Ne.symm hj)]; simp [hj]
      rw [← e]
      exact hI'
end
end Go.Proofs.Ytjhgimdpgnnffaa
