/-
  Plain laws: a row of units, told as bytes, is read back as these units; folding and looks twice. Conditions: each a rune or a bad byte, the bad ones as they stand in a text.
-/
import Derived.Test.YtliofpihaemglaaNmU
namespace Go.HL.Nm
open Go.HL
set_option maxRecDepth 4000
set_option linter.unusedSimpArgs false
set_option linter.unusedVariables false
theorem u8_nat {n : Nat} (h : n < 256) : (UInt8.ofNat n).toNat = n := UInt8.toNat_ofNat_of_lt' h
/-- a byte that continues -/
def contB (b : UInt8) : Bool := decide (128 ≤ b.toNat) && decide (b.toNat ≤ 191)
theorem contB_iff (b : UInt8) : contB b = true ↔ 128 ≤ b.toNat ∧ b.toNat ≤ 191 := by simp [contB]
theorem tailF_lead : ∀ (n : Nat) (r : List UInt8) (v : Int), tailF r n v = tailF (r.takeWhile contB) n v
  | 0, r, v => by rw [tailF_zero, tailF_zero]
  | n + 1, [], v => rfl
  | n + 1, b :: r, v => by
    by_cases h : contB b = true
    · rw [List.takeWhile_cons_of_pos h]
      simp only [tailF]
      rw [tailF_lead n r]
    · rw [List.takeWhile_cons_of_neg h]
      have h2 : ¬ (128 ≤ b.toNat ∧ b.toNat ≤ 191) := fun e => h ((contB_iff b).2 e)
      simp only [tailF]
      rw [if_pos (by omega)]
theorem chkF_lead (b : Int) (r : List UInt8) (v : Int) (n : Nat) (least : Int) : chkF b r v n least = chkF b (r.takeWhile contB) v n least := by
  unfold chkF
  rw [tailF_lead n r v]
theorem oneF_lead (c : UInt8) (r : List UInt8) : oneF (c :: r) = oneF (c :: r.takeWhile contB) := by
  rw [oneF_cons, oneF_cons, ← chkF_lead, ← chkF_lead, ← chkF_lead]
theorem oneF_bad1 (c : UInt8) (r : List UInt8) (h : 2097152 ≤ (oneF (c :: r)).1) : oneF (c :: r) = (2097152 + (c.toNat : Int), 1) := by
  have hc := c.toNat_lt
  rw [oneF_cons] at h ⊢
  have key : ∀ v n least, 2097152 ≤ (chkF c.toNat r v n least).1 → chkF c.toNat r v n least = (2097152 + (c.toNat : Int), 1) := by
    intro v n least hh
    rcases chkF_or c.toNat r v n least with e | ⟨u, _, _, h3, _, e⟩
    · rw [e]
    · rw [e] at hh; simp only at hh; omega
  split at h
  · simp only at h; omega
  rename_i h1
  split at h
  · rename_i h2; rw [if_neg h1, if_pos h2]; exact key _ _ _ h
  rename_i h2
  split at h
  · rename_i h3; rw [if_neg h1, if_neg h2, if_pos h3]; exact key _ _ _ h
  rename_i h3
  split at h
  · rename_i h4; rw [if_neg h1, if_neg h2, if_neg h3, if_pos h4]; exact key _ _ _ h
  rename_i h4
  rw [if_neg h1, if_neg h2, if_neg h3, if_neg h4]
/-- the bytes that continue at a row's head -/
def lead : List Int → List UInt8
  | [] => []
  | u :: us => if 2097280 ≤ u ∧ u ≤ 2097343 then UInt8.ofNat (u.toNat - 2097152) :: lead us else []
theorem encU_bad {u : Int} (h : 2097152 ≤ u) : encU u = [UInt8.ofNat (u.toNat - 2097152)] := by
  unfold encU encN
  rw [if_pos (by omega)]
  rfl
/-- a rune's bytes: the first does not continue -/
theorem encU_head {u : Int} (h0 : okU u) (h : u < 2097152) : ∃ b r, encU u = b :: r ∧ contB b = false := by
  have h1 : u ≤ 1114111 ∧ 0 ≤ u := by unfold okU at h0; omega
  have key : ∀ n : Nat, n < 256 → ¬ (128 ≤ n ∧ n ≤ 191) → contB (UInt8.ofNat n) = false := by
    intro n hn h2
    cases hc : contB (UInt8.ofNat n) with
    | false => rfl
    | true =>
      have := (contB_iff _).1 hc
      rw [u8_nat (by omega)] at this
      omega
  unfold encU encN
  rw [if_neg (by omega)]
  by_cases a1 : u.toNat < 128
  · rw [if_pos a1]; exact ⟨_, _, rfl, key _ (by omega) (by omega)⟩
  rw [if_neg a1]
  by_cases a2 : u.toNat < 2048
  · rw [if_pos a2]; exact ⟨_, _, rfl, key _ (by omega) (by omega)⟩
  rw [if_neg a2]
  by_cases a3 : u.toNat < 65536
  · rw [if_pos a3]; exact ⟨_, _, rfl, key _ (by omega) (by omega)⟩
  rw [if_neg a3]
  exact ⟨_, _, rfl, key _ (by omega) (by omega)⟩
theorem okU_bad {u : Int} (h0 : okU u) (h : 2097152 ≤ u) : u < 2097408 := by unfold okU at h0; omega
theorem encAll_cons (u : Int) (us : List Int) : encAll (u :: us) = encU u ++ encAll us := rfl
theorem lead_enc : ∀ us : List Int, (∀ u ∈ us, okU u) → (encAll us).takeWhile contB = lead us
  | [], _ => rfl
  | u :: us, h => by
    have h0 := h u (List.mem_cons_self ..)
    have ih := lead_enc us fun x hx => h x (List.mem_cons_of_mem _ hx)
    rw [encAll_cons, lead]
    by_cases hb : 2097152 ≤ u
    · have hlt := okU_bad h0 hb
      have e : (UInt8.ofNat (u.toNat - 2097152)).toNat = u.toNat - 2097152 := u8_nat (by omega)
      rw [encU_bad hb]
      by_cases hc : 2097280 ≤ u ∧ u ≤ 2097343
      · have : contB (UInt8.ofNat (u.toNat - 2097152)) = true := by rw [contB_iff, e]; omega
        rw [if_pos hc, List.singleton_append, List.takeWhile_cons_of_pos this, ih]
      · have : ¬ contB (UInt8.ofNat (u.toNat - 2097152)) = true := by rw [contB_iff, e]; omega
        rw [if_neg hc, List.singleton_append, List.takeWhile_cons_of_neg this]
    · obtain ⟨b, r, e, hb2⟩ := encU_head h0 (by omega)
      rw [e, if_neg (by omega), List.cons_append, List.takeWhile_cons_of_neg (by rw [hb2]; simp)]
/-- the bad bytes are where they stay bad -/
def goodU : List Int → Prop
  | [] => True
  | u :: us => (2097152 ≤ u → oneF (UInt8.ofNat (u.toNat - 2097152) :: lead us) = (u, 1)) ∧ goodU us
theorem tailF_step (b : Nat) (r : List UInt8) (n : Nat) (v : Int) (h : b < 64) : tailF (UInt8.ofNat (128 + b) :: r) (n + 1) v = tailF r n (v * 64 + b) := by
  have e : (UInt8.ofNat (128 + b)).toNat = 128 + b := u8_nat (by omega)
  simp only [tailF, e]
  rw [if_neg (by omega)]
  congr 1
  omega
theorem chkF_some {b : Int} {r : List UInt8} {v : Int} {n : Nat} {least u : Int} (h : tailF r n v = some u) (h1 : least ≤ u) (h2 : u ≤ 1114111) (h3 : ¬ (55296 ≤ u ∧ u ≤ 57343)) : chkF b r v n least = (u, 1 + n) := by
  unfold chkF
  rw [h]
  simp only
  rw [if_neg (by omega)]
theorem oneF_enc {u : Int} (h0 : okU u) (h : u < 2097152) (r : List UInt8) : oneF (encU u ++ r) = (u, (encU u).length) := by
  have hu : (0 ≤ u ∧ u < 55296) ∨ (57344 ≤ u ∧ u ≤ 1114111) := by unfold okU at h0; omega
  obtain ⟨n, rfl⟩ : ∃ n : Nat, u = n := ⟨u.toNat, by omega⟩
  unfold encU encN
  simp only [Int.toNat_natCast]
  rw [if_neg (by omega)]
  by_cases a1 : n < 128
  · rw [if_pos a1]
    have e : (UInt8.ofNat n).toNat = n := u8_nat (by omega)
    simp only [List.map_cons, List.map_nil, List.singleton_append, oneF_cons, e, List.length_singleton]
    rw [if_pos (by omega)]
  rw [if_neg a1]
  by_cases a2 : n < 2048
  · rw [if_pos a2]
    have e : (UInt8.ofNat (192 + n / 64)).toNat = 192 + n / 64 := u8_nat (by omega)
    simp only [List.map_cons, List.map_nil, List.cons_append, List.nil_append, oneF_cons, e, List.length_cons, List.length_nil]
    rw [if_neg (by omega), if_pos (by omega)]
    refine (chkF_some (u := (n : Int)) ?_ (by omega) (by omega) (by omega)).trans rfl
    rw [tailF_step _ _ _ _ (by omega), tailF_zero]
    congr 1; omega
  rw [if_neg a2]
  by_cases a3 : n < 65536
  · rw [if_pos a3]
    have e : (UInt8.ofNat (224 + n / 4096)).toNat = 224 + n / 4096 := u8_nat (by omega)
    simp only [List.map_cons, List.map_nil, List.cons_append, List.nil_append, oneF_cons, e, List.length_cons, List.length_nil]
    rw [if_neg (by omega), if_neg (by omega), if_pos (by omega)]
    refine (chkF_some (u := (n : Int)) ?_ (by omega) (by omega) (by omega)).trans rfl
    rw [tailF_step _ _ _ _ (by omega), tailF_step _ _ _ _ (by omega), tailF_zero]
    congr 1; omega
  rw [if_neg a3]
  have e : (UInt8.ofNat (240 + n / 262144)).toNat = 240 + n / 262144 := u8_nat (by omega)
  simp only [List.map_cons, List.map_nil, List.cons_append, List.nil_append, oneF_cons, e, List.length_cons, List.length_nil]
  rw [if_neg (by omega), if_neg (by omega), if_neg (by omega), if_pos (by omega)]
  refine (chkF_some (u := (n : Int)) ?_ (by omega) (by omega) (by omega)).trans rfl
  rw [tailF_step _ _ _ _ (by omega), tailF_step _ _ _ _ (by omega), tailF_step _ _ _ _ (by omega), tailF_zero]
  congr 1; omega
theorem encU_ne (u : Int) : encU u ≠ [] := by
  unfold encU encN
  repeat' split
  all_goals simp
/-- read back -/
theorem units_enc : ∀ us : List Int, (∀ u ∈ us, okU u) → goodU us → units (encAll us) = us.map fun u => (u, (encU u).length)
  | [], _, _ => rfl
  | u :: us, h, hg => by
    have h0 := h u (List.mem_cons_self ..)
    have hr := fun x hx => h x (List.mem_cons_of_mem _ hx)
    have ih := units_enc us hr hg.2
    have h1 : oneF (encU u ++ encAll us) = (u, (encU u).length) := by
      by_cases hb : 2097152 ≤ u
      · rw [encU_bad hb, List.singleton_append, oneF_lead, lead_enc us hr]
        exact hg.1 hb
      · exact oneF_enc h0 (by omega) _
    rw [encAll_cons, units_cons (by simp [encU_ne]), h1]
    simp only [List.map_cons, List.drop_left]
    rw [ih]
theorem lead_units : ∀ (n : Nat) (r : List UInt8), r.length ≤ n → lead ((units r).map Prod.fst) = r.takeWhile contB
  | 0, r, h => by
    have : r = [] := List.eq_nil_of_length_eq_zero (by omega)
    subst this
    rfl
  | n + 1, [], h => rfl
  | n + 1, c :: r, h => by
    have hc := c.toNat_lt
    simp only [List.length_cons] at h
    rw [units_cons (by simp), List.map_cons, lead]
    by_cases hb : contB c = true
    · have hb2 := (contB_iff c).1 hb
      have e : oneF (c :: r) = (2097152 + (c.toNat : Int), 1) := by
        rw [oneF_cons, if_neg (by omega), if_neg (by omega), if_neg (by omega), if_neg (by omega)]
      rw [e, List.takeWhile_cons_of_pos hb, if_pos (by simp only; omega)]
      simp only [List.drop_succ_cons, List.drop_zero]
      have e2 : UInt8.ofNat ((2097152 + (c.toNat : Int)).toNat - 2097152) = c := by
        apply UInt8.toNat_inj.1
        rw [u8_nat (by omega)]
        omega
      rw [lead_units n r (by omega), e2]
    · have hb2 : ¬ (128 ≤ c.toNat ∧ c.toNat ≤ 191) := fun e => hb ((contB_iff c).2 e)
      rw [List.takeWhile_cons_of_neg hb, if_neg]
      intro hh
      have := oneF_bad1 c r (by omega)
      rw [this] at hh
      simp only at hh
      omega
theorem good_units : ∀ (n : Nat) (l : List UInt8), l.length ≤ n → goodU ((units l).map Prod.fst)
  | 0, l, h => by
    have : l = [] := List.eq_nil_of_length_eq_zero (by omega)
    subst this
    trivial
  | n + 1, [], h => trivial
  | n + 1, c :: r, h => by
    have hc := c.toNat_lt
    have hb := oneF_bd (l := c :: r) (by simp)
    rw [units_cons (by simp), List.map_cons]
    refine ⟨fun hh => ?_, good_units n _ (by simp only [List.length_drop]; omega)⟩
    have e := oneF_bad1 c r hh
    rw [e]
    simp only [List.drop_succ_cons, List.drop_zero]
    rw [lead_units _ r (Nat.le_refl _)]
    have e2 : UInt8.ofNat ((2097152 + (c.toNat : Int)).toNat - 2097152) = c := by
      apply UInt8.toNat_inj.1
      rw [u8_nat (by omega)]
      omega
    rw [e2, ← oneF_lead, e]
/-- a map of units that leaves bad bytes as they are -/
structure Mild (f : Int → List Int) : Prop where
  bad : ∀ u, 2097152 ≤ u → f u = [u]
  fine : ∀ u, u < 2097152 → f u ≠ [] ∧ ∀ x ∈ f u, x < 2097152
theorem lead_fine {a : List Int} (h : a ≠ [] ∧ ∀ x ∈ a, x < 2097152) (b : List Int) : lead (a ++ b) = [] := by
  cases a with
  | nil => exact absurd rfl h.1
  | cons x a =>
    have := h.2 x (List.mem_cons_self ..)
    rw [List.cons_append, lead, if_neg (by omega)]
theorem lead_mild {f : Int → List Int} (hf : Mild f) : ∀ us, lead (us.flatMap f) = lead us
  | [] => rfl
  | u :: us => by
    rw [List.flatMap_cons]
    by_cases hb : 2097152 ≤ u
    · rw [hf.bad u hb, List.singleton_append, lead, lead, lead_mild hf us]
    · rw [lead_fine (hf.fine u (by omega)), lead, if_neg (by omega)]
theorem good_fine : ∀ (a b : List Int), (∀ x ∈ a, x < 2097152) → goodU b → goodU (a ++ b)
  | [], b, _, h => h
  | x :: a, b, ha, h => ⟨fun hh => by have := ha x (List.mem_cons_self ..); omega, good_fine a b (fun y hy => ha y (List.mem_cons_of_mem _ hy)) h⟩
theorem good_mild {f : Int → List Int} (hf : Mild f) : ∀ us, goodU us → goodU (us.flatMap f)
  | [], _ => trivial
  | u :: us, h => by
    rw [List.flatMap_cons]
    by_cases hb : 2097152 ≤ u
    · rw [hf.bad u hb, List.singleton_append]
      exact ⟨fun hh => by rw [lead_mild hf]; exact h.1 hh, good_mild hf us h.2⟩
    · exact good_fine _ _ (hf.fine u (by omega)).2 (good_mild hf us h.2)
theorem foldF_small {u : Int} (h : u < 2097152) : foldF u < 2097152 := by unfold foldF; (repeat' split) <;> omega
theorem foldF_big {u : Int} (h : 2097152 ≤ u) : foldF u = u := by unfold foldF; rw [if_neg (by omega), if_neg (by omega), if_neg (by omega)]
theorem mild_fold : Mild foldU where
  bad u h := by unfold foldU; rw [if_neg (by omega), foldF_big h]
  fine u h := by
    unfold foldU
    split
    · exact ⟨by simp, by intro x hx; have : x = 115 := by simpa using hx
                         omega⟩
    · exact ⟨by simp, by intro x hx; have : x = foldF u := by simpa using hx
                         have := foldF_small h; omega⟩
theorem foldAll_eq (us : List (Int × Nat)) : foldAll us = (us.map Prod.fst).flatMap foldU := by
  simp [foldAll, List.flatMap_map]
theorem good_folded (l : List UInt8) : goodU (foldedF l) := by
  unfold foldedF
  rw [foldAll_eq]
  exact good_mild mild_fold _ (good_units _ l (Nat.le_refl _))
theorem units_folded (l : List UInt8) : units (encAll (foldedF l)) = (foldedF l).map fun u => (u, (encU u).length) := units_enc _ (folded_ok l) (good_folded l)
theorem enc_fold_inj {x y : List UInt8} (h : encAll (foldedF x) = encAll (foldedF y)) : foldedF x = foldedF y := by
  have e := congrArg (fun l => (units l).map Prod.fst) h
  simp only [units_folded, List.map_map] at e
  have k : ∀ us : List Int, us.map (Prod.fst ∘ fun u => (u, (encU u).length)) = us := fun us => by
    induction us with
    | nil => rfl
    | cons a us ih => rw [List.map_cons, ih]; rfl
  rwa [k, k] at e
end Go.HL.Nm
