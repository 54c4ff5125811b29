/-
  Plain laws: a text's units in two parts; what has what. No condition.
-/
import Derived.Test.YtjecnlekmmkbmaaNmW
namespace Go.HL.Nm
open Go.HL
set_option maxRecDepth 4000
set_option linter.unusedSimpArgs false
set_option linter.unusedVariables false
theorem units_drop : ∀ (k : Nat) (l : List UInt8), units (l.drop (sumW ((units l).take k))) = (units l).drop k
  | 0, l => by simp [sumW]
  | k + 1, l => by
    by_cases he : l = []
    · subst he; simp [units_nil, sumW]
    · rw [units_cons he, List.take_succ_cons, List.drop_succ_cons, sumW, ← List.drop_drop]
      exact units_drop k _
theorem tailF_take : ∀ (n : Nat) (r : List UInt8) (v : Int) (j : Nat), tailF (r.take j) n v = if n ≤ j then tailF r n v else none
  | 0, r, v, j => by rw [tailF_zero, tailF_zero, if_pos (Nat.zero_le _)]
  | n + 1, [], v, j => by rw [List.take_nil]; simp [tailF]
  | n + 1, b :: r, v, 0 => by rw [List.take_zero, if_neg (by omega)]; rfl
  | n + 1, b :: r, v, j + 1 => by
    rw [List.take_succ_cons]
    simp only [tailF]
    by_cases h : (b.toNat : Int) < 128 ∨ 191 < (b.toNat : Int)
    · rw [if_pos h, if_pos h]; split <;> rfl
    · rw [if_neg h, if_neg h, tailF_take n r _ j]
      by_cases hj : n ≤ j
      · rw [if_pos hj, if_pos (by omega)]
      · rw [if_neg hj, if_neg (by omega)]
theorem chkF_take {b : Int} {r : List UInt8} {v : Int} {n : Nat} {least : Int} {j : Nat} (h : (chkF b r v n least).2 ≤ 1 + j) : chkF b (r.take j) v n least = chkF b r v n least := by
  unfold chkF at h ⊢
  rw [tailF_take]
  by_cases hj : n ≤ j
  · rw [if_pos hj]
  · rw [if_neg hj]
    cases e : tailF r n v with
    | none => rfl
    | some u =>
      rw [e] at h
      simp only at h ⊢
      split
      · rfl
      · rename_i hn
        rw [if_neg hn] at h
        simp only at h
        omega
theorem oneF_take {c : UInt8} {r : List UInt8} {j : Nat} (h : (oneF (c :: r)).2 ≤ 1 + j) : oneF (c :: r.take j) = oneF (c :: r) := by
  rw [oneF_cons] at h ⊢
  rw [oneF_cons]
  split
  · rfl
  rename_i h1
  rw [if_neg h1] at h
  split
  · rename_i h2; rw [if_pos h2] at h; exact chkF_take h
  rename_i h2
  rw [if_neg h2] at h
  split
  · rename_i h3; rw [if_pos h3] at h; exact chkF_take h
  rename_i h3
  rw [if_neg h3] at h
  split
  · rename_i h4; rw [if_pos h4] at h; exact chkF_take h
  · rfl
theorem units_take : ∀ (k : Nat) (l : List UInt8), units (l.take (sumW ((units l).take k))) = (units l).take k
  | 0, l => by simp [sumW, units_nil]
  | k + 1, [] => by simp [units_nil]
  | k + 1, c :: r => by
    have hb := oneF_bd (l := c :: r) (by simp)
    rw [units_cons (l := c :: r) (by simp), List.take_succ_cons, sumW]
    generalize hm : sumW ((units ((c :: r).drop (oneF (c :: r)).2)).take k) = m
    have e : (c :: r).take ((oneF (c :: r)).2 + m) = c :: r.take ((oneF (c :: r)).2 + m - 1) := by
      have : (oneF (c :: r)).2 + m = ((oneF (c :: r)).2 + m - 1) + 1 := by omega
      rw [this, List.take_succ_cons]
      rfl
    have e1 : oneF ((c :: r).take ((oneF (c :: r)).2 + m)) = oneF (c :: r) := by rw [e]; exact oneF_take (by omega)
    rw [units_cons (l := (c :: r).take ((oneF (c :: r)).2 + m)) (by rw [e]; simp), e1, List.drop_take]
    congr 1
    have : (oneF (c :: r)).2 + m - (oneF (c :: r)).2 = m := by omega
    rw [this, ← hm]
    exact units_take k _
theorem sumW_take (us : List (Int × Nat)) (k : Nat) : sumW (us.take k) ≤ sumW us := by
  have := sumW_append (us.take k) (us.drop k)
  rw [List.take_append_drop] at this
  omega
theorem cut_len (l : List UInt8) (n : Int) : (cutF l n).length = sumW ((units l).take n.toNat) := by
  have h1 := sumW_take (units l) n.toNat
  rw [sumW_units] at h1
  unfold cutF
  rw [List.length_take]
  omega
theorem cut_le (l : List UInt8) (n : Int) : (cutF l n).length ≤ l.length := by
  unfold cutF
  rw [List.length_take]
  omega
theorem cut_take (l : List UInt8) (n : Int) : l.take (cutF l n).length = cutF l n := by rw [cut_len]; rfl
theorem cut_units (l : List UInt8) (n : Int) : units (cutF l n) = (units l).take n.toNat := units_take _ _
theorem rest_units (l : List UInt8) (n : Int) : units (l.drop (cutF l n).length) = (units l).drop n.toNat := by rw [cut_len]; exact units_drop _ _
theorem cut_sum (l : List UInt8) (n : Int) : (units (cutF l n)).length + (units (l.drop (cutF l n).length)).length = (units l).length := by
  rw [cut_units, rest_units, ← List.length_append, List.take_append_drop]
theorem cut_folded (l : List UInt8) (n : Int) : foldedF l = foldedF (cutF l n) ++ foldedF (l.drop (cutF l n).length) := by
  unfold foldedF
  rw [cut_units, rest_units]
  unfold foldAll
  rw [← List.flatMap_append, List.take_append_drop]
theorem has_iff (us ps : List Int) : hasF us ps = true ↔ ps <:+: us := by
  constructor
  · intro h
    simp only [hasF, List.any_eq_true, Bool.and_eq_true, decide_eq_true_eq] at h
    obtain ⟨i, _, h1, h2⟩ := h
    refine ⟨us.take i, us.drop (i + ps.length), ?_⟩
    have e : (us.drop i).take ps.length = ps := by simpa [hereF] using h2
    have e2 : (us.drop i) = ps ++ us.drop (i + ps.length) := by
      conv => lhs; rw [← List.take_append_drop ps.length (us.drop i)]
      rw [e, List.drop_drop]
    rw [List.append_assoc, ← e2, List.take_append_drop]
  · rintro ⟨a, b, rfl⟩
    refine has_true (i := a.length) (by simp only [List.length_append]; omega) ?_
    simp [hereF]
theorem has_trans {x y z : List Int} (h1 : hasF x y = true) (h2 : hasF y z = true) : hasF x z = true := (has_iff _ _).2 (((has_iff _ _).1 h2).trans ((has_iff _ _).1 h1))
theorem has_cut (l : List UInt8) (n : Int) : hasF (foldedF l) (foldedF (cutF l n)) = true := (has_iff _ _).2 ⟨[], _, by rw [List.nil_append]; exact (cut_folded l n).symm⟩
theorem has_rest (l : List UInt8) (n : Int) : hasF (foldedF l) (foldedF (l.drop (cutF l n).length)) = true := (has_iff _ _).2 ⟨_, [], by rw [List.append_nil]; exact (cut_folded l n).symm⟩
theorem has_none (l : List UInt8) : hasF (foldedF l) (foldedF []) = true := (has_iff _ _).2 (List.nil_infix)
end Go.HL.Nm
