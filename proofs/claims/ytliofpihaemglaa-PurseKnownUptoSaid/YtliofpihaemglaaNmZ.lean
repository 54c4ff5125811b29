/-
  Plain laws: folding twice, a look's look, how long they are, what a right name's folding has. No condition.
-/
import Derived.Test.YtliofpihaemglaaNmW
import Derived.Test.YtliofpihaemglaaNmG
namespace Go.HL.Nm
open Go.HL
set_option maxRecDepth 4000
set_option linter.unusedSimpArgs false
set_option linter.unusedVariables false
theorem foldF_idem (u : Int) : foldF (foldF u) = foldF u := by
  have h : ((65 ≤ u ∧ u ≤ 90) ∨ (192 ≤ u ∧ u ≤ 222 ∧ u ≠ 215) ∨ (913 ≤ u ∧ u ≤ 937 ∧ u ≠ 930) ∨ (1040 ≤ u ∧ u ≤ 1071)) ∨ ¬ ((65 ≤ u ∧ u ≤ 90) ∨ (192 ≤ u ∧ u ≤ 222 ∧ u ≠ 215) ∨ (913 ≤ u ∧ u ≤ 937 ∧ u ≠ 930) ∨ (1040 ≤ u ∧ u ≤ 1071)) := Classical.em _
  unfold foldF
  rcases h with h | h
  · rw [if_pos h]
    by_cases e : u + 32 = 962
    · rw [if_neg (by omega), if_neg (by omega), if_pos e]; omega
    · rw [if_neg (by omega), if_neg (by omega), if_neg e]
  · rw [if_neg h]
    by_cases e : u = 1025
    · rw [if_pos e, if_neg (by omega), if_neg (by omega), if_neg (by omega)]
    by_cases e2 : u = 962
    · rw [if_neg e, if_pos e2, if_neg (by omega), if_neg (by omega), if_neg (by omega)]
    · rw [if_neg e, if_neg e2, if_neg h, if_neg e, if_neg e2]
theorem foldF_sharp {u : Int} (h : u ≠ 223) : foldF u ≠ 223 := by unfold foldF; (repeat' split) <;> omega
theorem foldU_fix {u x : Int} (h : x ∈ foldU u) : foldU x = [x] := by
  unfold foldU at h
  split at h
  · have : x = 115 := by simpa using h
    subst this
    decide +kernel
  · rename_i hn
    have : x = foldF u := by simpa using h
    subst this
    unfold foldU
    rw [if_neg (foldF_sharp hn), foldF_idem]
theorem flat_fix {f : Int → List Int} : ∀ us : List Int, (∀ u ∈ us, f u = [u]) → us.flatMap f = us
  | [], _ => rfl
  | u :: us, h => by
    rw [List.flatMap_cons, h u (List.mem_cons_self ..), flat_fix us fun x hx => h x (List.mem_cons_of_mem _ hx)]
    rfl
theorem folded_fix (l : List UInt8) : ∀ u ∈ foldedF l, foldU u = [u] := by
  intro u hu
  simp only [foldedF, foldAll, List.mem_flatMap] at hu
  obtain ⟨x, hx, hu⟩ := hu
  exact foldU_fix hu
theorem map_fst_enc : ∀ us : List Int, (us.map fun u => (u, (encU u).length)).map Prod.fst = us
  | [] => rfl
  | a :: us => by rw [List.map_cons, List.map_cons, map_fst_enc us]
theorem folded_enc {us : List Int} (h : ∀ u ∈ us, okU u) (hg : goodU us) (hf : ∀ u ∈ us, foldU u = [u]) : foldedF (encAll us) = us := by
  unfold foldedF
  rw [units_enc us h hg, foldAll_eq, map_fst_enc, flat_fix us hf]
theorem fold_fold (l : List UInt8) : foldedF (encAll (foldedF l)) = foldedF l := folded_enc (folded_ok l) (good_folded l) (folded_fix l)
theorem look_fold (l : List UInt8) : lookF (encAll (foldedF l)) = lookF l := by unfold lookF; rw [fold_fold]
theorem looksF_small {u : Int} (h : u < 2097152) : looksF u < 2097152 := by
  have : looksF u = u ∨ (45 ≤ looksF u ∧ looksF u ≤ 121) := by unfold looksF; (repeat' split) <;> omega
  omega
theorem ite_or {p : Prop} [Decidable p] {l : List Int} {a b u : Int} (ha : a ∈ l) (hb : b = u ∨ b ∈ l) : (if p then a else b) = u ∨ (if p then a else b) ∈ l := by
  split
  · exact .inr ha
  · exact hb
theorem looksF_or (u : Int) : looksF u = u ∨ looksF u ∈ ([111, 108, 97, 99, 101, 105, 107, 110, 112, 116, 117, 118, 120, 121, 45] : List Int) := by
  unfold looksF
  repeat' refine ite_or (by simp) ?_
  exact .inl rfl
theorem looksF_big {u : Int} (h : 2097152 ≤ u) : looksF u = u := by
  unfold looksF
  repeat' split
  all_goals omega
theorem looks_consts : ∀ x ∈ ([111, 108, 97, 99, 101, 105, 107, 110, 112, 116, 117, 118, 120, 121, 45] : List Int), looksF x = x ∧ foldU x = [x] := by decide +kernel
theorem looksF_idem (u : Int) : looksF (looksF u) = looksF u := by
  rcases looksF_or u with h | h
  · rw [h, h]
  · exact (looks_consts _ h).1
theorem looks_fix {u : Int} (h : foldU u = [u]) : foldU (looksF u) = [looksF u] := by
  rcases looksF_or u with e | e
  · rw [e]; exact h
  · exact (looks_consts _ e).2
theorem map_flat (f : Int → Int) : ∀ l : List Int, l.map f = l.flatMap fun u => [f u]
  | [] => rfl
  | a :: l => by rw [List.map_cons, List.flatMap_cons, map_flat f l]; rfl
theorem mild_looks : Mild fun u => [looksF u] where
  bad u h := by rw [looksF_big h]
  fine u h := ⟨by simp, by intro x hx; have : x = looksF u := by simpa using hx
                           have := looksF_small h; omega⟩
theorem pairF_mem : ∀ (n : Nat) (l : List Int), l.length ≤ n → ∀ x ∈ pairF l, x = 109 ∨ x = 119 ∨ x ∈ l
  | _, [], _, x, h => by simp [pairF] at h
  | _, [a], _, x, h => by rw [pairF_one] at h; exact .inr (.inr h)
  | 0, _ :: _ :: _, hn, _, _ => by simp at hn
  | n + 1, a :: b :: r, hn, x, h => by
    simp only [List.length_cons] at hn
    rw [pairF_two] at h
    split at h
    · rcases List.mem_cons.1 h with h | h
      · exact .inl h
      · rcases pairF_mem n r (by omega) x h with h | h | h
        · exact .inl h
        · exact .inr (.inl h)
        · exact .inr (.inr (List.mem_cons_of_mem _ (List.mem_cons_of_mem _ h)))
    split at h
    · rcases List.mem_cons.1 h with h | h
      · exact .inr (.inl h)
      · rcases pairF_mem n r (by omega) x h with h | h | h
        · exact .inl h
        · exact .inr (.inl h)
        · exact .inr (.inr (List.mem_cons_of_mem _ (List.mem_cons_of_mem _ h)))
    · rcases List.mem_cons.1 h with h | h
      · exact .inr (.inr (by rw [h]; exact List.mem_cons_self ..))
      · rcases pairF_mem n (b :: r) (by simp only [List.length_cons]; omega) x h with h | h | h
        · exact .inl h
        · exact .inr (.inl h)
        · exact .inr (.inr (List.mem_cons_of_mem _ h))
theorem pairF_head (b : Int) (r : List Int) : ∃ c q, pairF (b :: r) = c :: q ∧ (c = 109 ∨ c = 119 ∨ c = b) ∧ (c = b ∨ b < 2097152) := by
  cases r with
  | nil => exact ⟨b, [], pairF_one b, .inr (.inr rfl), .inl rfl⟩
  | cons a r =>
    rw [pairF_two]
    split
    · exact ⟨_, _, rfl, .inl rfl, .inr (by omega)⟩
    split
    · exact ⟨_, _, rfl, .inr (.inl rfl), .inr (by omega)⟩
    · exact ⟨_, _, rfl, .inr (.inr rfl), .inl rfl⟩
theorem lead_pair : ∀ (n : Nat) (l : List Int), l.length ≤ n → lead (pairF l) = lead l
  | _, [], _ => by simp [pairF]
  | _, [a], _ => by rw [pairF_one]
  | 0, _ :: _ :: _, hn => by simp at hn
  | n + 1, a :: b :: r, hn => by
    simp only [List.length_cons] at hn
    rw [pairF_two]
    split
    · rw [lead, lead, if_neg (by omega), if_neg (by omega)]
    split
    · rw [lead, lead, if_neg (by omega), if_neg (by omega)]
    · rw [lead, lead_pair n (b :: r) (by simp only [List.length_cons]; omega)]
      rfl
theorem good_pair : ∀ (n : Nat) (l : List Int), l.length ≤ n → goodU l → goodU (pairF l)
  | _, [], _, h => by simp [pairF, goodU]
  | _, [a], _, h => by rw [pairF_one]; exact h
  | 0, _ :: _ :: _, hn, _ => by simp at hn
  | n + 1, a :: b :: r, hn, h => by
    simp only [List.length_cons] at hn
    rw [pairF_two]
    split
    · exact ⟨fun hh => by omega, good_pair n r (by omega) h.2.2⟩
    split
    · exact ⟨fun hh => by omega, good_pair n r (by omega) h.2.2⟩
    · refine ⟨fun hh => ?_, good_pair n (b :: r) (by simp only [List.length_cons]; omega) h.2⟩
      rw [lead_pair _ (b :: r) (Nat.le_refl _)]
      exact h.1 hh
/-- no two that look like one -/
def noP : List Int → Prop
  | a :: b :: r => ¬ (a = 114 ∧ b = 110) ∧ ¬ (a = 118 ∧ b = 118) ∧ noP (b :: r)
  | _ => True
theorem pairF_id : ∀ l : List Int, noP l → pairF l = l
  | [], _ => by simp [pairF]
  | [a], _ => pairF_one a
  | a :: b :: r, h => by
    rw [pairF_two, if_neg h.1, if_neg h.2.1, pairF_id (b :: r) h.2.2]
theorem noP_cons {a : Int} (h1 : a ≠ 114) (h2 : a ≠ 118) : ∀ {l : List Int}, noP l → noP (a :: l)
  | [], _ => trivial
  | b :: r, h => ⟨fun e => h1 e.1, fun e => h2 e.1, h⟩
theorem noP_pair : ∀ (n : Nat) (l : List Int), l.length ≤ n → noP (pairF l)
  | _, [], _ => by simp [pairF, noP]
  | _, [a], _ => by rw [pairF_one]; trivial
  | 0, _ :: _ :: _, hn => by simp at hn
  | n + 1, a :: b :: r, hn => by
    simp only [List.length_cons] at hn
    rw [pairF_two]
    split
    · exact noP_cons (by omega) (by omega) (noP_pair n r (by omega))
    split
    · exact noP_cons (by omega) (by omega) (noP_pair n r (by omega))
    · rename_i h1 h2
      obtain ⟨c, q, e, hc, _⟩ := pairF_head b r
      have := noP_pair n (b :: r) (by simp only [List.length_cons]; omega)
      rw [e] at this ⊢
      exact ⟨by omega, by omega, this⟩
theorem look_mem {l : List UInt8} {x : Int} (h : x ∈ lookF l) : (okU x ∧ foldU x = [x]) ∧ looksF x = x := by
  rcases pairF_mem _ _ (Nat.le_refl _) x h with rfl | rfl | h
  · exact ⟨⟨.inl (by omega), by decide +kernel⟩, by decide +kernel⟩
  · exact ⟨⟨.inl (by omega), by decide +kernel⟩, by decide +kernel⟩
  · obtain ⟨u, hu, rfl⟩ := List.mem_map.1 h
    exact ⟨⟨okU_looksF (folded_ok l u hu), looks_fix (folded_fix l u hu)⟩, looksF_idem u⟩
theorem good_look (l : List UInt8) : goodU (lookF l) := by
  unfold lookF
  refine good_pair _ _ (Nat.le_refl _) ?_
  rw [map_flat]
  exact good_mild mild_looks _ (good_folded l)
theorem fold_look (l : List UInt8) : foldedF (encAll (lookF l)) = lookF l := folded_enc (fun u hu => (look_mem hu).1.1) (good_look l) fun u hu => (look_mem hu).1.2
theorem map_fix {f : Int → Int} : ∀ l : List Int, (∀ u ∈ l, f u = u) → l.map f = l
  | [], _ => rfl
  | a :: l, h => by rw [List.map_cons, h a (List.mem_cons_self ..), map_fix l fun x hx => h x (List.mem_cons_of_mem _ hx)]
theorem look_look (l : List UInt8) : lookF (encAll (lookF l)) = lookF l := by
  show pairF ((foldedF (encAll (lookF l))).map looksF) = lookF l
  rw [fold_look, map_fix _ fun u hu => (look_mem hu).2]
  exact pairF_id _ (noP_pair _ _ (Nat.le_refl _))
/-- what is the same is alike -/
theorem alike_same {x y : List UInt8} (h : encAll (foldedF x) = encAll (foldedF y)) : lookF x = lookF y := by
  unfold lookF; rw [enc_fold_inj h]
-- how long
theorem encU_length (u : Int) : (encU u).length = if 2097152 ≤ u.toNat then 1 else if u.toNat < 128 then 1 else if u.toNat < 2048 then 2 else if u.toNat < 65536 then 3 else 4 := by
  unfold encU encN
  rw [List.length_map]
  repeat' split
  all_goals rfl
theorem encU_fst {l : List UInt8} (h : l ≠ []) : (encU (oneF l).1).length = (oneF l).2 := by
  cases l with
  | nil => exact absurd rfl h
  | cons c r =>
    have hc := c.toNat_lt
    have big : ∀ b : Int, 0 ≤ b → (encU (2097152 + b)).length = 1 := fun b hb => by rw [encU_length, if_pos (by omega)]
    rw [oneF_cons]
    split
    · rw [encU_length]; simp only; rw [if_neg (by omega), if_pos (by omega)]
    split
    · rcases chkF_or c.toNat r (c.toNat - 192) 1 128 with e | ⟨u, h1, h2, h3, h4, e⟩
      · rw [e]; exact big _ (by omega)
      · have := tailF_lt 1 r _ u 32 (by omega) h1
        rw [e, encU_length]; simp only; rw [if_neg (by omega), if_neg (by omega), if_pos (by omega)]
    split
    · rcases chkF_or c.toNat r (c.toNat - 224) 2 2048 with e | ⟨u, h1, h2, h3, h4, e⟩
      · rw [e]; exact big _ (by omega)
      · have := tailF_lt 2 r _ u 16 (by omega) h1
        rw [e, encU_length]; simp only; rw [if_neg (by omega), if_neg (by omega), if_neg (by omega), if_pos (by omega)]
    split
    · rcases chkF_or c.toNat r (c.toNat - 240) 3 65536 with e | ⟨u, h1, h2, h3, h4, e⟩
      · rw [e]; exact big _ (by omega)
      · rw [e, encU_length]; simp only; rw [if_neg (by omega), if_neg (by omega), if_neg (by omega), if_neg (by omega)]
    · exact big _ (by omega)
theorem enc_units_len : ∀ (n : Nat) (l : List UInt8), l.length ≤ n → (encAll ((units l).map Prod.fst)).length = l.length
  | 0, l, h => by
    have : l = [] := List.eq_nil_of_length_eq_zero (by omega)
    subst this
    rfl
  | n + 1, l, h => by
    by_cases he : l = []
    · subst he; rfl
    · have hb := oneF_bd he
      rw [units_cons he, List.map_cons, encAll_cons, List.length_append, encU_fst he, enc_units_len n _ (by simp only [List.length_drop]; omega), List.length_drop]
      omega
theorem encAll_app (a b : List Int) : encAll (a ++ b) = encAll a ++ encAll b := by simp [encAll]
theorem flat_len {f : Int → List Int} : ∀ us : List Int, (∀ u ∈ us, (encAll (f u)).length ≤ (encU u).length) → (encAll (us.flatMap f)).length ≤ (encAll us).length
  | [], _ => Nat.le_refl _
  | u :: us, h => by
    have h1 := h u (List.mem_cons_self ..)
    have h2 := flat_len us fun x hx => h x (List.mem_cons_of_mem _ hx)
    rw [List.flatMap_cons, encAll_app, encAll_cons, List.length_append, List.length_append]
    omega
theorem encU_mono {u v : Int} (h : (v ≤ u ∧ u < 2097152) ∨ v < 128 ∨ (v < 2048 ∧ 128 ≤ u ∧ u < 2097152) ∨ v = u) (hu : okU u) : (encU v).length ≤ (encU u).length := by
  unfold okU at hu
  rw [encU_length, encU_length]
  repeat' split
  all_goals omega
theorem fold_len1 {u : Int} (h : okU u) : (encAll (foldU u)).length ≤ (encU u).length := by
  unfold foldU
  split
  · rename_i e; subst e; decide +kernel
  · rw [encAll_cons]
    have : encAll [] = [] := rfl
    rw [this, List.append_nil]
    refine encU_mono ?_ h
    unfold foldF
    (repeat' split) <;> omega
theorem fold_short (l : List UInt8) : (encAll (foldedF l)).length ≤ l.length := by
  have h1 := enc_units_len _ l (Nat.le_refl _)
  have h2 := flat_len (f := foldU) ((units l).map Prod.fst) fun u hu => by
    obtain ⟨x, hx, rfl⟩ := List.mem_map.1 hu
    exact fold_len1 (units_ok _ l (Nat.le_refl _) x hx)
  unfold foldedF
  rw [foldAll_eq]
  omega
theorem pair_len : ∀ (n : Nat) (l : List Int), l.length ≤ n → (encAll (pairF l)).length ≤ (encAll l).length
  | _, [], _ => by simp [pairF]
  | _, [a], _ => by rw [pairF_one]; exact Nat.le_refl _
  | 0, _ :: _ :: _, hn => by simp at hn
  | n + 1, a :: b :: r, hn => by
    simp only [List.length_cons] at hn
    have k1 : (encU 109).length = 1 := by decide +kernel
    have k2 : (encU 119).length = 1 := by decide +kernel
    have p : 1 ≤ (encU a).length := List.length_pos_iff.2 (encU_ne a)
    rw [pairF_two]
    split
    · have := pair_len n r (by omega)
      simp only [encAll_cons, List.length_append]; omega
    split
    · have := pair_len n r (by omega)
      simp only [encAll_cons, List.length_append]; omega
    · have := pair_len n (b :: r) (by simp only [List.length_cons]; omega)
      simp only [encAll_cons, List.length_append] at this ⊢; omega
theorem look_short (l : List UInt8) : (encAll (lookF l)).length ≤ l.length := by
  have h1 := fold_short l
  have h2 := pair_len _ ((foldedF l).map looksF) (Nat.le_refl _)
  have h3 := flat_len (f := fun u => [looksF u]) (foldedF l) fun u hu => by
    show (encAll [looksF u]).length ≤ _
    rw [encAll_cons]
    have : encAll [] = [] := rfl
    rw [this, List.append_nil]
    refine encU_mono ?_ (folded_ok l u hu)
    have : looksF u = u ∨ (45 ≤ looksF u ∧ looksF u ≤ 121) := by unfold looksF; (repeat' split) <;> omega
    omega
  rw [← map_flat] at h3
  unfold lookF
  omega
-- a right name
theorem fault_none : ∀ (r : List (Int × Nat)) (j : Bool) (p : Nat), faultF j p r = none → ∀ u ∈ r, letterF u.1 = true ∨ joinerF u.1 = true
  | [], _, _, _, u, hu => by cases hu
  | a :: r, j, p, h, u, hu => by
    rw [faultF] at h
    split at h
    · cases h
    · rename_i hb
      rcases List.mem_cons.1 hu with rfl | hu
      · simp only [badAt, Bool.and_eq_true, Bool.not_eq_true', Bool.or_eq_true, not_and, not_or] at hb
        by_cases hl : letterF u.1 = true
        · exact .inl hl
        · have := (hb (by simpa using hl)).2
          exact .inr (by simpa using this)
      · exact fault_none r _ _ h u hu
theorem letter_fold {u : Int} (h : letterF u = true ∨ joinerF u = true) : ∀ x ∈ foldU u, letterF x = true ∨ joinerF x = true := by
  intro x hx
  unfold foldU at hx
  split at hx
  · have : x = 115 := by simpa using hx
    subst this
    exact .inl (by decide +kernel)
  · have : x = foldF u := by simpa using hx
    subst this
    simp [letterF, joinerF, inF] at h ⊢
    unfold foldF
    (repeat' split) <;> omega
theorem check_folded {l : List UInt8} (h : (checkF l).2 = 0) : ∀ u ∈ foldedF l, letterF u = true ∨ joinerF u = true := by
  have h2 : faultF true 0 (units l) = none := by
    unfold checkF at h
    split at h
    · simp at h
    split at h
    · simp at h
    split at h
    · simp at h
    · rename_i e; exact e
  intro u hu
  simp only [foldedF, foldAll, List.mem_flatMap] at hu
  obtain ⟨x, hx, hu⟩ := hu
  exact letter_fold (fault_none _ _ _ h2 x hx) u hu
theorem foldAll_ge : ∀ us : List (Int × Nat), us.length ≤ (foldAll us).length
  | [] => Nat.le_refl _
  | u :: us => by
    have := foldAll_ge us
    have h1 := (foldU_len u.1).2
    simp only [foldAll, List.flatMap_cons, List.length_append, List.length_cons] at this ⊢
    omega
theorem units_fold_len (l : List UInt8) : (units (encAll (foldedF l))).length = (foldedF l).length := by rw [units_folded, List.length_map]
theorem fold_runes (l : List UInt8) : (units l).length ≤ (units (encAll (foldedF l))).length ∧ (units (encAll (foldedF l))).length ≤ 2 * (units l).length := by
  rw [units_fold_len]
  exact ⟨foldAll_ge _, foldAll_len _⟩
end Go.HL.Nm
