/-
  Purse: plain laws of keys, of who is found, of who is near. No condition.
-/
import Derived.Test.YtliofpihaemglaaPuG
import Derived.Test.YtliofpihaemglaaNmZ
namespace Go.HL.Pu
open Go.HL Go.HL.Nm Go.Proofs
set_option maxRecDepth 4000
set_option linter.unusedSimpArgs false
set_option linter.unusedVariables false
theorem lookK_some {k : List UInt8} : ∀ {ks : List (List UInt8)} {j n : Nat}, lookK k ks j = some n → j ≤ n ∧ ks[n - j]? = some k
  | [], _, _, h => by cases h
  | x :: r, j, n, h => by
    simp only [lookK] at h
    split at h
    · rename_i e
      cases h
      simp [e]
    · obtain ⟨h1, h2⟩ := lookK_some h
      refine ⟨by omega, ?_⟩
      have : n - j = (n - (j + 1)) + 1 := by omega
      rw [this, List.getElem?_cons_succ]
      exact h2
theorem lookK_none {k : List UInt8} : ∀ {ks : List (List UInt8)} {j : Nat}, lookK k ks j = none → k ∉ ks
  | [], _, _ => by simp
  | x :: r, j, h => by
    simp only [lookK] at h
    split at h
    · cases h
    · rename_i e
      simp only [List.mem_cons, not_or]
      exact ⟨e, lookK_none h⟩
theorem askB_iff (k : List UInt8) (ks : List (List UInt8)) : askB k ks = true ↔ k ∈ ks := by
  unfold askB
  cases h : lookK k ks 0 with
  | none => simpa using lookK_none h
  | some n =>
    obtain ⟨_, h2⟩ := lookK_some h
    simpa using List.mem_of_getElem? h2
theorem askN_get {k : List UInt8} {ks : List (List UInt8)} (h : askB k ks = true) : ∃ n : Nat, askN k ks = n ∧ ks[n]? = some k := by
  unfold askB at h
  unfold askN
  cases hl : lookK k ks 0 with
  | none => rw [hl] at h; cases h
  | some n =>
    obtain ⟨_, h2⟩ := lookK_some hl
    exact ⟨n, rfl, h2⟩
theorem askN_at {ks : List (List UInt8)} (hd : ks.Nodup) {i : Nat} (h : i < ks.length) : askB ks[i] ks = true ∧ askN ks[i] ks = i := by
  have hb : askB ks[i] ks = true := (askB_iff _ _).2 (List.getElem_mem h)
  obtain ⟨n, hn, hg⟩ := askN_get hb
  refine ⟨hb, ?_⟩
  rw [hn]
  obtain ⟨hlt, hg⟩ := List.getElem?_eq_some_iff.1 hg
  have hp := List.pairwise_iff_getElem.1 hd
  rcases Nat.lt_trichotomy n i with e | e | e
  · exact absurd hg (hp n i hlt h e)
  · rw [e]
  · exact absurd hg.symm (hp i n h hlt e)
def strs (l : List Ac) : List Value := l.map fun x => .string (mk x.name)
theorem strs_len (l : List Ac) : (strs l).length = l.length := by simp [strs]
theorem strs_at {l : List Ac} {i : Nat} (h : i < l.length) : (strs l)[i]? = some (.string (mk l[i].name)) := by simp [strs, h]
theorem strs_one (l : List Ac) : ∀ u ∈ strs l, u.oneCell' = true := by
  intro u hu
  simp only [strs, List.mem_map] at hu
  obtain ⟨x, _, rfl⟩ := hu
  rfl
/-- whose key is among the first -/
def anyK (x : List UInt8) (l : List Ac) : Bool := l.any fun r => decide (keyF r.name = keyF x)
theorem anyK_ask (x : List UInt8) (l : List Ac) : anyK x l = askB (keyF x) (keys l) := by
  rw [Bool.eq_iff_iff, askB_iff]
  unfold anyK keys
  simp only [List.any_eq_true, decide_eq_true_eq, List.mem_map]
theorem anyK_snoc (x : List UInt8) (l : List Ac) (a : Ac) : anyK x (l ++ [a]) = (anyK x l || decide (keyF a.name = keyF x)) := by simp [anyK]
theorem take_snoc {α : Type} {l : List α} {i : Nat} (h : i < l.length) : l.take (i + 1) = l.take i ++ [l[i]] := List.take_succ_eq_append_getElem h
theorem anyK_take {l : List Ac} (x : List UInt8) {i : Nat} (h : i < l.length) : anyK x (l.take (i + 1)) = (anyK x (l.take i) || decide (keyF l[i].name = keyF x)) := by rw [take_snoc h, anyK_snoc]
theorem near_take {l : List Ac} (x : List UInt8) {i : Nat} (h : i < l.length) : (nearF (l.take (i + 1)) x 0).length = (nearF (l.take i) x 0).length + (if seemF l[i].name = seemF x then 1 else 0) := by
  rw [take_snoc h, nearF_snoc, List.length_append]
  split <;> simp
theorem near_mem {x : List UInt8} : ∀ {l : List Ac} {j : Nat} {n : Int}, n ∈ nearF l x j → ∃ i, n = (j + i : Nat) ∧ ∃ h : i < l.length, seemF l[i].name = seemF x
  | [], _, _, h => by simp [nearF] at h
  | a :: l, j, n, h => by
    simp only [nearF] at h
    have rest : n ∈ nearF l x (j + 1) → ∃ i, n = (j + i : Nat) ∧ ∃ h : i < (a :: l).length, seemF (a :: l)[i].name = seemF x := by
      intro h
      obtain ⟨i, h1, h2, h3⟩ := near_mem h
      exact ⟨i + 1, by rw [h1]; congr 1; omega, by simp; omega, by simpa using h3⟩
    split at h
    · rename_i e
      rcases List.mem_cons.1 h with rfl | h
      · exact ⟨0, rfl, by simp, by simpa using e⟩
      · exact rest h
    · exact rest h
theorem near_has {x : List UInt8} : ∀ {l : List Ac} {j i : Nat} (h : i < l.length), seemF l[i].name = seemF x → ((j + i : Nat) : Int) ∈ nearF l x j
  | a :: l, j, 0, h, e => by
    simp only [List.getElem_cons_zero] at e
    simp only [nearF]
    rw [if_pos e]
    simp
  | a :: l, j, i + 1, h, e => by
    have h' : i < l.length := by simpa using h
    have := near_has (j := j + 1) h' (by simpa using e)
    have e2 : j + 1 + i = j + (i + 1) := by omega
    rw [e2] at this
    simp only [nearF]
    split
    · exact List.mem_cons_of_mem _ this
    · exact this
theorem near_up (x : List UInt8) : ∀ (l : List Ac) (j : Nat), (nearF l x j).Pairwise (· < ·)
  | [], _ => List.Pairwise.nil
  | a :: l, j => by
    simp only [nearF]
    split
    · refine List.pairwise_cons.2 ⟨fun n hn => ?_, near_up x l (j + 1)⟩
      obtain ⟨i, h1, _⟩ := near_mem hn
      rw [h1]; omega
    · exact near_up x l (j + 1)
theorem key_key (x : List UInt8) : keyF (keyF x) = keyF x := by
  unfold keyF
  rw [fold_fold]
theorem check_pos (l : List UInt8) : 0 ≤ (checkF l).1 := by
  unfold checkF
  split
  · exact Int.le_refl _
  · split
    · exact Int.natCast_nonneg _
    · split
      · exact Int.natCast_nonneg _
      · exact Int.le_refl _
end Go.HL.Pu
