/-
  Purse: the law's comparisons; awake. No condition.
-/
import Derived.Test.YtliofpihaemglaaPuF
namespace Go.HL.Pu
open Go.HL Go.HL.Nm Go.Proofs
set_option maxRecDepth 4000
set_option linter.unusedSimpArgs false
set_option linter.unusedVariables false
theorem ints_at {l : List Int} {i : Nat} (h : i < l.length) : (ints l)[i]? = some (.int .i64 l[i]) := by simp [ints, h]
theorem ints_spec (x y : List Int) (v1 v2 : Value) (w0 w : World) (A : Asn) (hx : x.length ≤ 1048576) (h1 : Row w0 A v1 x.length 1 (ints x)) (h2 : Row w0 A v2 y.length 1 (ints y)) (s : St w0 A w) :
    CallW Try.prog 38 [v1, v2] (fun r w' => r = .bool (x == y) ∧ St w0 A w') w := by
  obtain ⟨a1, c1, rfl⟩ := h1.val
  obtain ⟨a2, c2, rfl⟩ := h2.val
  refine callW_of_lift l38_ok (by simp [l38]) ?_
  simp [l38]
  refine cndI (fun h => ?_) (fun h => ?_)
  · simp at h
    have : (x == y) = false := by
      simp only [beq_eq_false_iff_ne]
      rintro rfl
      exact h rfl
    simp [this]
    exact s
  simp at h
  simp
  refine loopI (fun env w' => ∃ (i : Nat), env = [.slice a1 x.length c1, .slice a2 y.length c2, .bool false, .int .i64 i] ∧ i ≤ x.length ∧ x.take i = y.take i ∧ St w0 A w')
    (fun env _ => x.length - slotN env 3) ⟨0, rfl, by omega, rfl, s⟩ ?_
  rintro LQ env w' ⟨i, rfl, hi, ht, s'⟩ hN hE hR
  simp
  refine cndI (fun h3 => ?_) (fun h3 => ?_)
  · simp at h3
    obtain ⟨g1, o1, c1', e1, k1⟩ := h1.at (by omega)
    cases e1
    obtain ⟨g2, o2, c2', e2, k2⟩ := h2.at (by omega)
    cases e2
    have hy : i < y.length := by omega
    refine brqI s' ?_
    simp [h3]
    refine effq_ldc (fun w s => k1 w s i _ (ints_at h3)) ?_
    simp [hy]
    refine effq_ldc (fun w s => k2 w s i _ (ints_at hy)) ?_
    simp
    intro w2 s2
    refine cndI (fun h4 => ?_) (fun h4 => ?_)
    · simp at h4
      have : (x == y) = false := by
        simp only [beq_eq_false_iff_ne]
        rintro rfl
        exact h4 rfl
      simp
      refine hR _ _ ?_
      simp [this]
      exact s2
    · simp at h4
      simp [thenQ]
      try simp (disch := omega) only [wrap64]
      refine hN _ _ ⟨i + 1, by simp, by omega, ?_, s2⟩ (by simp [slotN]; omega)
      rw [List.take_succ_eq_append_getElem h3, List.take_succ_eq_append_getElem hy, ht, h4]
  · simp at h3
    simp
    refine hE _ _ _ ?_
    simp
    have e : i = x.length := by omega
    have e2 : i = y.length := by omega
    rw [e, List.take_length, ← e, e2, List.take_length] at ht
    subst ht
    simp
    exact s'
theorem ints_one (l : List Int) : ∀ u ∈ ints l, u.oneCell' = true := by intro u h; simp only [ints, List.mem_map] at h; obtain ⟨x, _, rfl⟩ := h; rfl
def Ac.pv (x : Ac) : List PV := [.str x.name, .int .u64 x.coins]
theorem Ac.pv_eq (x y : Ac) : decide (x.pv = y.pv) = decide (x = y) := by
  cases x; cases y
  simp [Ac.pv]
theorem rows_spec (x y : List Ac) (v1 v2 : Value) (w0 w : World) (A : Asn) (hx : x.length ≤ 1048576) (h1 : Row w0 A v1 x.length 2 (flat x)) (h2 : Row w0 A v2 y.length 2 (flat y)) (s : St w0 A w) :
    CallW Try.prog 43 [v1, v2] (fun r w' => r = .bool (x == y) ∧ St w0 A w') w := by
  obtain ⟨a1, c1, rfl⟩ := h1.val
  obtain ⟨a2, c2, rfl⟩ := h2.val
  refine callW_of_lift l43_ok (by simp [l43]) ?_
  simp [l43]
  refine cndI (fun h => ?_) (fun h => ?_)
  · simp at h
    have : (x == y) = false := by
      simp only [beq_eq_false_iff_ne]
      rintro rfl
      exact h rfl
    simp [this]
    exact s
  simp at h
  simp
  refine loopI (fun env w' => ∃ (i : Nat), env = [.slice a1 x.length c1, .slice a2 y.length c2, .bool false, .int .i64 i] ∧ i ≤ x.length ∧ x.take i = y.take i ∧ St w0 A w')
    (fun env _ => x.length - slotN env 3) ⟨0, rfl, by omega, rfl, s⟩ ?_
  rintro LQ env w' ⟨i, rfl, hi, ht, s'⟩ hN hE hR
  simp
  refine cndI (fun h3 => ?_) (fun h3 => ?_)
  · simp at h3
    obtain ⟨g1, o1, c1', e1, k1⟩ := h1.at (by omega)
    cases e1
    obtain ⟨g2, o2, c2', e2, k2⟩ := h2.at (by omega)
    cases e2
    have hy : i < y.length := by omega
    simp
    refine brqI s' ?_
    simp [h3]
    refine effq_ldcs (vs := x[i].cs) (fun w s j u hu => by rw [Nat.add_assoc]; exact k1 w s _ _ (flat_at h3 j u hu)) rfl ?_
    simp [hy]
    refine effq_ldcs (vs := y[i].cs) (fun w s j u hu => by rw [Nat.add_assoc]; exact k2 w s _ _ (flat_at hy j u hu)) rfl ?_
    simp
    refine effq_neqP accT x[i].pv y[i].pv rfl rfl ?_
    rw [Ac.pv_eq]
    simp
    intro w2 s2
    refine cndI (fun h4 => ?_) (fun h4 => ?_)
    · simp at h4
      have : (x == y) = false := by
        simp only [beq_eq_false_iff_ne]
        rintro rfl
        exact h4 rfl
      simp
      refine hR _ _ ?_
      simp [this]
      exact s2
    · simp at h4
      simp [thenQ]
      try simp (disch := omega) only [wrap64]
      refine hN _ _ ⟨i + 1, by simp, by omega, ?_, s2⟩ (by simp [slotN]; omega)
      rw [List.take_succ_eq_append_getElem h3, List.take_succ_eq_append_getElem hy, ht, h4]
  · simp at h3
    simp
    refine hE _ _ _ ?_
    simp
    have e : i = x.length := by omega
    have e2 : i = y.length := by omega
    rw [e, List.take_length, ← e, e2, List.take_length] at ht
    subst ht
    simp
    exact s'
theorem awake_spec (w0 w : World) (A : Asn) (s : St w0 A w) :
    CallW Try.prog 8 [] (fun r w' => r = .bool true ∧ St w0 A w') w := by
  refine callW_of_lift l8_ok (by simp [l8]) ?_
  simp [l8]
  refine eff_call ((given_spec w0 w A s).mono ?_)
  rintro r w1 ⟨p, v, rfl, s1⟩
  simp
  refine eff_bslO s1 (vs := ints givL) (ints_one _) rfl rfl (by decide) ?_
  intro v2 w2 s2
  simp
  refine eff_call ((ints_spec givL givL v v2 w0 w2 _ (by decide) (row_in (e := 3) (B := A * pur p G7 * own 3 1 v2 20 (ints givL)) s2 (by ac_rfl)) (row_own s2) s2).mono ?_)
  rintro r w3 ⟨rfl, s3⟩
  simp
  refine eff_call ((Supply_spec p G7 w0 w3 A s3.drop.drop).mono ?_)
  rintro r w4 ⟨rfl, s4⟩
  simp [G7]
  refine eff_call ((Len_spec p G7 w0 w4 A s4).mono ?_)
  rintro r w5 ⟨rfl, s5⟩
  simp [G7]
  exact s5.drop
end Go.HL.Pu
