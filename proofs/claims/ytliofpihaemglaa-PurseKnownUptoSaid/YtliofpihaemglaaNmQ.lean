/-
  Has of name and of bazaarref04. Conditions: texts within the bound.
-/
import Derived.Test.YtliofpihaemglaaNmP
namespace Go.HL.Nm
open Go.HL Go.Proofs
set_option maxRecDepth 4000
set_option linter.unusedSimpArgs false
set_option linter.unusedVariables false
/-- do these units stand here? -/
def hereF (us ps : List Int) (i : Nat) : Bool := (us.drop i).take ps.length == ps
def hasF (us ps : List Int) : Bool := (List.range (us.length + 1)).any fun i => decide (i + ps.length ≤ us.length) && hereF us ps i
theorem has_true {us ps : List Int} {i : Nat} (h1 : i + ps.length ≤ us.length) (h2 : hereF us ps i = true) : hasF us ps = true := by
  simp only [hasF, List.any_eq_true, List.mem_range]
  exact ⟨i, by omega, by simp [h1, h2]⟩
theorem has_false {us ps : List Int} {i : Nat} (h1 : ¬ i + ps.length ≤ us.length) (h2 : ∀ j, j < i → hereF us ps j = false) : hasF us ps = false := by
  simp only [hasF, List.any_eq_false, List.mem_range]
  intro j hj
  by_cases h : j < i
  · simp [h2 j h]
  · have : ¬ j + ps.length ≤ us.length := by omega
    simp [this]
theorem View.sub {w0 : World} {A : Asn} {k : IntKind} {a : Option Addr} {n cap i m : Nat} {xs : List Int} (h : View w0 A k (.slice a n cap) xs) (hi : i + m ≤ xs.length) :
    View w0 A k (.slice (if cap = i then a else a.map (fun x => x.add i)) m (cap - i)) ((xs.drop i).take m) := by
  obtain ⟨a', cap', hv, hc, h⟩ := h
  cases hv
  have hl : ((xs.drop i).take m).length = m := by simp; omega
  refine ⟨_, _, by rw [hl], by rw [hl]; omega, fun h0 => ?_⟩
  rw [hl] at h0
  obtain ⟨g, o, rfl, hw⟩ := h (by omega)
  refine ⟨g, o + i, ?_, fun w s j u hu => ?_⟩
  · rw [if_neg (by omega)]; simp
  · rw [List.getElem?_take] at hu
    split at hu
    · rw [List.getElem?_drop] at hu
      rw [Nat.add_assoc]
      exact hw w s _ _ hu
    · cases hu
theorem here_succ (l r : List Int) (k : Nat) (h1 : k < l.length) (h2 : k < r.length) : (l.take (k + 1) == r.take (k + 1)) = ((l.take k == r.take k) && decide (l[k] = r[k])) := by
  rw [List.take_succ_eq_append_getElem h1, List.take_succ_eq_append_getElem h2, Bool.eq_iff_iff]
  simp only [beq_iff_eq, Bool.and_eq_true, decide_eq_true_eq]
  constructor
  · intro e
    have := List.append_inj e (by simp; omega)
    exact ⟨this.1, by simpa using this.2⟩
  · rintro ⟨e1, e2⟩; rw [e1, e2]
end Go.HL.Nm
