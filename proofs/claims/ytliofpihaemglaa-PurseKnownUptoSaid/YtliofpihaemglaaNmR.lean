/-
  Compare of bazaarref04. Conditions: texts within the bound.
-/
import Derived.Test.YtliofpihaemglaaNmQ
namespace Go.HL.Nm
open Go.HL Go.Proofs
set_option maxRecDepth 4000
set_option linter.unusedSimpArgs false
set_option linter.unusedVariables false
/-- the order of rows of numbers -/
def cmpL : List Int → List Int → Int
  | [], [] => 0
  | [], _ :: _ => -1
  | _ :: _, [] => 1
  | a :: l, b :: m => if a < b then -1 else if b < a then 1 else cmpL l m
def cmpB (x y : List UInt8) : Int := if Op.bytesLess x y then -1 else if x == y then 0 else 1
def compareF (x y : List UInt8) : Int := if cmpL (foldedF x) (foldedF y) = 0 then cmpB x y else cmpL (foldedF x) (foldedF y)
/-- as far as both go, they are one -/
theorem cmpL_drop (l m : List Int) : ∀ i, i ≤ l.length → i ≤ m.length → l.take i = m.take i → cmpL l m = cmpL (l.drop i) (m.drop i) := by
  intro i
  induction i generalizing l m with
  | zero => intros; simp
  | succ i ih =>
    intro h1 h2 h
    cases l with
    | nil => simp at h1
    | cons a l =>
      cases m with
      | nil => simp at h2
      | cons b m =>
        simp only [List.take_succ_cons, List.cons.injEq] at h
        obtain ⟨rfl, h⟩ := h
        simp only [List.length_cons] at h1 h2
        rw [cmpL, if_neg (Int.lt_irrefl a), if_neg (Int.lt_irrefl a), ih l m (by omega) (by omega) h]
        rfl
theorem cmpL_end (l m : List Int) (i : Nat) (h1 : i ≤ l.length) (h2 : i ≤ m.length) (h : ¬ (i < l.length ∧ i < m.length)) : cmpL (l.drop i) (m.drop i) = if l.length < m.length then -1 else if m.length < l.length then 1 else 0 := by
  cases hl : l.drop i with
  | nil =>
    have e1 : l.length ≤ i := List.drop_eq_nil_iff.1 hl
    cases hm : m.drop i with
    | nil =>
      have e2 : m.length ≤ i := List.drop_eq_nil_iff.1 hm
      rw [if_neg (by omega), if_neg (by omega)]; rfl
    | cons b r =>
      have e2 : ¬ m.length ≤ i := fun e => by rw [List.drop_eq_nil_iff.2 e] at hm; cases hm
      rw [if_pos (by omega)]; rfl
  | cons a q =>
    have e1 : ¬ l.length ≤ i := fun e => by rw [List.drop_eq_nil_iff.2 e] at hl; cases hl
    cases hm : m.drop i with
    | nil =>
      have e2 : m.length ≤ i := List.drop_eq_nil_iff.1 hm
      rw [if_neg (by omega), if_pos (by omega)]; rfl
    | cons b r =>
      have e2 : ¬ m.length ≤ i := fun e => by rw [List.drop_eq_nil_iff.2 e] at hm; cases hm
      exact absurd ⟨by omega, by omega⟩ h
end Go.HL.Nm
