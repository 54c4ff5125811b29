/-
  Plain laws: the order of texts is an order. No condition.
-/
import Derived.Test.YtjecnlekmmkbmaaNmW
namespace Go.HL.Nm
open Go.HL
set_option maxRecDepth 4000
set_option linter.unusedSimpArgs false
set_option linter.unusedVariables false
theorem cmpL_self : ∀ l, cmpL l l = 0
  | [] => rfl
  | a :: l => by rw [cmpL, if_neg (Int.lt_irrefl a), if_neg (Int.lt_irrefl a), cmpL_self l]
theorem cmpL_zero : ∀ l m, cmpL l m = 0 → l = m
  | [], [], _ => rfl
  | [], b :: m, h => by simp [cmpL] at h
  | a :: l, [], h => by simp [cmpL] at h
  | a :: l, b :: m, h => by
    rw [cmpL] at h
    by_cases h1 : a < b
    · rw [if_pos h1] at h; omega
    by_cases h2 : b < a
    · rw [if_neg h1, if_pos h2] at h; omega
    rw [if_neg h1, if_neg h2] at h
    rw [cmpL_zero l m h, show a = b by omega]
theorem cmpL_swap : ∀ l m, cmpL m l = -cmpL l m
  | [], [] => rfl
  | [], b :: m => rfl
  | a :: l, [] => rfl
  | a :: l, b :: m => by
    rw [cmpL, cmpL]
    by_cases h1 : a < b
    · rw [if_neg (by omega), if_pos h1, if_pos h1]; rfl
    by_cases h2 : b < a
    · rw [if_pos h2, if_neg h1, if_pos h2]
    rw [if_neg h2, if_neg h1, if_neg h1, if_neg h2, cmpL_swap l m]
theorem cmpL_bd : ∀ l m, -1 ≤ cmpL l m ∧ cmpL l m ≤ 1
  | [], [] => by simp [cmpL]
  | [], b :: m => by simp [cmpL]
  | a :: l, [] => by simp [cmpL]
  | a :: l, b :: m => by
    rw [cmpL]
    by_cases h1 : a < b
    · rw [if_pos h1]; omega
    by_cases h2 : b < a
    · rw [if_neg h1, if_pos h2]; omega
    rw [if_neg h1, if_neg h2]; exact cmpL_bd l m
theorem cmpL_trans : ∀ l m n, cmpL l m ≤ 0 → cmpL m n ≤ 0 → cmpL l n ≤ 0
  | [], _, [], _, _ => by simp [cmpL]
  | [], _, c :: n, _, _ => by simp [cmpL]
  | a :: l, [], _, h, _ => by simp [cmpL] at h
  | a :: l, b :: m, [], _, h => by simp [cmpL] at h
  | a :: l, b :: m, c :: n, h, h' => by
    rw [cmpL] at h h' ⊢
    by_cases h1 : a < b
    · rw [if_pos h1] at h
      by_cases h2 : b < c
      · rw [if_pos (by omega)]; omega
      by_cases h3 : c < b
      · rw [if_neg h2, if_pos h3] at h'; omega
      rw [if_pos (by omega)]; omega
    by_cases h2 : b < a
    · rw [if_neg h1, if_pos h2] at h; omega
    have e : a = b := by omega
    subst e
    rw [if_neg h1, if_neg h2] at h
    by_cases h3 : a < c
    · rw [if_pos h3]; omega
    by_cases h4 : c < a
    · rw [if_neg h3, if_pos h4] at h'; omega
    rw [if_neg h3, if_neg h4] at h' ⊢
    exact cmpL_trans l m n h h'
def nums (x : List UInt8) : List Int := x.map fun b => (b.toNat : Int)
theorem cmpB_eq : ∀ x y : List UInt8, cmpB x y = cmpL (nums x) (nums y)
  | [], [] => rfl
  | [], b :: y => by simp [cmpB, nums, cmpL, Op.bytesLess]
  | a :: x, [] => by simp [cmpB, nums, cmpL, Op.bytesLess]
  | a :: x, b :: y => by
    have ih := cmpB_eq x y
    simp only [nums, List.map_cons, cmpL] at ih ⊢
    rw [← ih]
    by_cases h : a < b
    · have h' := UInt8.lt_iff_toNat_lt.1 h
      rw [if_pos (by omega)]
      simp [cmpB, Op.bytesLess, h]
    · by_cases h2 : b < a
      · have hne : a ≠ b := by intro e; subst e; exact h h2
        have h' := UInt8.lt_iff_toNat_lt.1 h2
        rw [if_neg (by omega), if_pos (by omega)]
        simp [cmpB, Op.bytesLess, h, h2, hne]
      · have e : a = b := by
          apply UInt8.toNat_inj.1
          rw [UInt8.lt_iff_toNat_lt] at h h2
          omega
        subst e
        rw [if_neg (by omega), if_neg (by omega)]
        simp [cmpB, Op.bytesLess, h]
theorem nums_inj {x y : List UInt8} (h : nums x = nums y) : x = y := by
  induction x generalizing y with
  | nil => cases y with
    | nil => rfl
    | cons b y => simp [nums] at h
  | cons a x ih => cases y with
    | nil => simp [nums] at h
    | cons b y =>
      simp only [nums, List.map_cons, List.cons.injEq] at h
      have e : a = b := UInt8.toNat_inj.1 (by omega)
      rw [ih h.2, e]
theorem cmpF_self (x : List UInt8) : compareF x x = 0 := by
  unfold compareF; rw [if_pos (cmpL_self _), cmpB_eq, cmpL_self]
theorem cmpF_zero {x y : List UInt8} (h : compareF x y = 0) : x = y := by
  unfold compareF at h
  by_cases h1 : cmpL (foldedF x) (foldedF y) = 0
  · rw [if_pos h1, cmpB_eq] at h; exact nums_inj (cmpL_zero _ _ h)
  · rw [if_neg h1] at h; exact absurd h h1
theorem cmpF_swap (x y : List UInt8) : compareF y x = -compareF x y := by
  unfold compareF
  rw [cmpL_swap (foldedF x) (foldedF y), cmpB_eq, cmpB_eq, cmpL_swap (nums x) (nums y)]
  by_cases h1 : cmpL (foldedF x) (foldedF y) = 0
  · rw [if_pos (by omega), if_pos h1]
  · rw [if_neg (by omega), if_neg h1]
theorem cmpF_bd (x y : List UInt8) : -1 ≤ compareF x y ∧ compareF x y ≤ 1 := by
  unfold compareF
  split
  · rw [cmpB_eq]; exact cmpL_bd _ _
  · exact cmpL_bd _ _
theorem cmpF_le {x y : List UInt8} (h : compareF x y ≤ 0) : cmpL (foldedF x) (foldedF y) ≤ 0 := by
  unfold compareF at h
  split at h
  · omega
  · exact h
theorem cmpL_mid {l m n : List Int} (h1 : cmpL l m ≤ 0) (h2 : cmpL m n ≤ 0) (h : l = n) : l = m := by
  subst h
  rw [cmpL_swap l m] at h2
  exact cmpL_zero _ _ (by omega)
theorem cmpF_trans {x y z : List UInt8} (h1 : compareF x y ≤ 0) (h2 : compareF y z ≤ 0) : compareF x z ≤ 0 := by
  have a1 := cmpF_le h1
  have a2 := cmpF_le h2
  have a3 := cmpL_trans _ _ _ a1 a2
  unfold compareF
  by_cases h : cmpL (foldedF x) (foldedF z) = 0
  · have e := cmpL_zero _ _ h
    have e1 := cmpL_mid a1 a2 e
    rw [if_pos h, cmpB_eq]
    unfold compareF at h1 h2
    rw [← e1, cmpL_self, if_pos rfl, cmpB_eq] at h1
    rw [← e1, e, cmpL_self, if_pos rfl, cmpB_eq] at h2
    exact cmpL_trans _ _ _ h1 h2
  · rw [if_neg h]; exact a3
/-- what stands between two that are the same -/
theorem cmpF_mid {x y z : List UInt8} (h1 : compareF x y ≤ 0) (h2 : compareF y z ≤ 0) (h : encAll (foldedF x) = encAll (foldedF z)) : encAll (foldedF x) = encAll (foldedF y) := by
  rw [← cmpL_mid (cmpF_le h1) (cmpF_le h2) (enc_fold_inj h)]
end Go.HL.Nm
