/-
  Goods by the document: Hold, Free, Make, and nil ones. Conditions: items that stand right.
-/
import Derived.Test.YtfcgookobpjdgaaGdR
namespace Go.HL.Gd
open Go.HL Go.Proofs
set_option maxRecDepth 4000
set_option linter.unusedSimpArgs false
set_option linter.unusedVariables false
theorem rHold_spec (p : Nat) (lim : Int) (its : List It) (item c : Int) (w0 w : World) (A : Asn) (hg : GI lim its) (s : St w0 (A * rgs p lim its) w) :
    CallW Try.prog 42 [.pointer (some ⟨p, 0, none⟩), .int .i64 item, .int .i64 c]
      (fun r w' => r = .int .i64 (holdF its item c).1 ∧ St w0 (A * rgs p lim (holdF its item c).2) w') w := by
  have hlen := hg.len
  have hlim := hg.lim
  refine callW_of_lift l42_ok (by simp [l42]) ?_
  simp [l42]
  refine cndI (fun h1 => ?_) (fun h1 => ?_)
  · simp at h1
    simp [holdF, h1]
    exact s
  simp at h1
  have hmv : holdF its item c = putF its item false (-1) c := by unfold holdF; rw [if_neg (by omega)]
  rw [hmv]
  simp
  refine eff_call ((find_spec p lim its item w0 w A hg.toWF (by omega) s).mono ?_)
  rintro r w1 ⟨rfl, s1⟩
  simp
  by_cases h2 : 0 ≤ findF its item
  · obtain ⟨i, rfl, hi, hf⟩ := find_at h2
    obtain ⟨v, s2⟩ := ropen s1
    obtain ⟨g, cap, rfl, _, hc⟩ := s2.own_at (by omega)
    have hall : ∀ {B : Asn} {w : World}, St w0 (A * pt p (.cells #[.int .i64 lim, .slice (some ⟨g, 0, none⟩) its.length cap] 84 (0, 0)) * B) w → w.cell? ⟨p, 1, none⟩ = some (.slice (some ⟨g, 0, none⟩) its.length cap) := fun s => by rw [cell_of s.swap.look]; rfl
    have hi2 : ¬ (i : Int) < 0 := by omega
    rw [hf]
    simp [hi2]
    refine eff_ldc (hall s2) ?_
    simp [hi]
    refine eff_ldc (v := .int .i64 its[i].con) (hc _ _ (flat_at hi 3 _ rfl)) ?_
    simp
    have hpl := hg.place its[i] (List.getElem_mem hi)
    refine cndI (fun h3 => ?_) (fun h3 => ?_)
    · simp at h3
      have : decide (0 < its[i].con) ≠ false := by simp; omega
      rw [put_at hi, if_neg this]
      simp
      exact s1
    · simp at h3
      have : decide (0 < its[i].con) = false := by simp; omega
      rw [put_at hi, if_pos this]
      simp
      refine eff_ldc (hall s2) ?_
      simp [hi]
      have hfl := flat_len its
      refine eff_stC s2 (by omega) rfl ?_
      intro w3 s3
      simp
      refine eff_ldc (hall s3) ?_
      simp [hi]
      refine eff_stC s3 (by rw [List.length_set]; omega) rfl ?_
      intro w4 s4
      simp
      rw [flat_set2 hi] at s4
      refine rclose (v := .slice (some ⟨g, 0, none⟩) its.length cap) ?_
      simpa using s4
  · rw [put_off h2]
    have : findF its item < 0 := by omega
    simp [this]
    exact s1
theorem rFree_spec (p : Nat) (lim : Int) (its : List It) (item a : Int) (w0 w : World) (A : Asn) (hg : GI lim its) (s : St w0 (A * rgs p lim its) w) :
    CallW Try.prog 43 [.pointer (some ⟨p, 0, none⟩), .int .i64 item, .int .i64 a]
      (fun r w' => r = .int .i64 (freeF its item a).1 ∧ St w0 (A * rgs p lim (freeF its item a).2) w') w := by
  have hlen := hg.len
  have hlim := hg.lim
  refine callW_of_lift l43_ok (by simp [l43]) ?_
  simp [l43]
  refine cndI (fun h1 => ?_) (fun h1 => ?_)
  · simp at h1
    simp [freeF, h1]
    exact s
  simp at h1
  have hmv : freeF its item a = putF its item true a 0 := by unfold freeF; rw [if_pos h1]
  rw [hmv]
  simp
  refine eff_call ((find_spec p lim its item w0 w A hg.toWF (by omega) s).mono ?_)
  rintro r w1 ⟨rfl, s1⟩
  simp
  by_cases h2 : 0 ≤ findF its item
  · obtain ⟨i, rfl, hi, hf⟩ := find_at h2
    obtain ⟨v, s2⟩ := ropen s1
    obtain ⟨g, cap, rfl, _, hc⟩ := s2.own_at (by omega)
    have hall : ∀ {B : Asn} {w : World}, St w0 (A * pt p (.cells #[.int .i64 lim, .slice (some ⟨g, 0, none⟩) its.length cap] 84 (0, 0)) * B) w → w.cell? ⟨p, 1, none⟩ = some (.slice (some ⟨g, 0, none⟩) its.length cap) := fun s => by rw [cell_of s.swap.look]; rfl
    have hi2 : ¬ (i : Int) < 0 := by omega
    rw [hf]
    simp [hi2]
    refine eff_ldc (hall s2) ?_
    simp [hi]
    refine eff_ldc (v := .int .i64 its[i].con) (hc _ _ (flat_at hi 3 _ rfl)) ?_
    simp
    have hpl := hg.place its[i] (List.getElem_mem hi)
    refine cndI (fun h3 => ?_) (fun h3 => ?_)
    · simp at h3
      have : decide (0 < its[i].con) ≠ true := by simp; omega
      rw [put_at hi, if_neg this]
      simp
      exact s1
    · simp at h3
      have : decide (0 < its[i].con) = true := by simp; omega
      rw [put_at hi, if_pos this]
      simp
      refine eff_ldc (hall s2) ?_
      simp [hi]
      have hfl := flat_len its
      refine eff_stC s2 (by omega) rfl ?_
      intro w3 s3
      simp
      refine eff_ldc (hall s3) ?_
      simp [hi]
      refine eff_stC s3 (by rw [List.length_set]; omega) rfl ?_
      intro w4 s4
      simp
      rw [flat_set2 hi] at s4
      refine rclose (v := .slice (some ⟨g, 0, none⟩) its.length cap) ?_
      simpa using s4
  · rw [put_off h2]
    have : findF its item < 0 := by omega
    simp [this]
    exact s1
theorem rMove_nil (k a : Int) (w0 w : World) (A : Asn) (s : St w0 A w) : CallW Try.prog 41 [.pointer none, .int .i64 k, .int .i64 a] (fun r w' => r = .int .i64 1 ∧ St w0 A w') w := by
  refine callW_of_lift l41_ok (by simp [l41]) ?_
  simp [l41]
  exact s
theorem rHold_nil (k a : Int) (w0 w : World) (A : Asn) (s : St w0 A w) : CallW Try.prog 42 [.pointer none, .int .i64 k, .int .i64 a] (fun r w' => r = .int .i64 1 ∧ St w0 A w') w := by
  refine callW_of_lift l42_ok (by simp [l42]) ?_
  simp [l42]
  exact s
theorem rFree_nil (k a : Int) (w0 w : World) (A : Asn) (s : St w0 A w) : CallW Try.prog 43 [.pointer none, .int .i64 k, .int .i64 a] (fun r w' => r = .int .i64 1 ∧ St w0 A w') w := by
  refine callW_of_lift l43_ok (by simp [l43]) ?_
  simp [l43]
  exact s
theorem rMake_nil (k a : Int) (w0 w : World) (A : Asn) (s : St w0 A w) : CallW Try.prog 40 [.pointer none, .int .i64 k, .int .i64 a] (fun r w' => r = .tuple #[.int .i64 0, .int .i64 1] ∧ St w0 A w') w := by
  refine callW_of_lift l40_ok (by simp [l40]) ?_
  simp [l40]
  exact s
theorem rMake_spec (p : Nat) (lim : Int) (its : List It) (k a : Int) (w0 w : World) (A : Asn) (hg : GI lim its) (s : St w0 (A * rgs p lim its) w) :
    CallW Try.prog 40 [.pointer (some ⟨p, 0, none⟩), .int .i64 k, .int .i64 a]
      (fun r w' => r = .tuple #[.int .i64 (makeF lim its k a).1, .int .i64 (makeF lim its k a).2.1] ∧ St w0 (A * rgs p lim (makeF lim its k a).2.2) w') w := by
  have hlen := hg.len
  have hlim := hg.lim
  refine callW_of_lift l40_ok (by simp [l40]) ?_
  simp [l40]
  refine cndI (fun h1 => ?_) (fun h1 => ?_)
  · simp at h1
    simp [makeF, h1]
    exact s
  simp at h1
  simp
  refine cndI (fun h2 => ?_) (fun h2 => ?_)
  · have hk : kindF k = false := by
      simp only [kindF, Bool.and_eq_false_iff, decide_eq_false_iff_not]
      simp at h2
      omega
    simp [makeF, h1, hk]
    exact s
  have hk : kindF k = true := by
    simp only [kindF, Bool.and_eq_true, decide_eq_true_eq]
    simp at h2
    omega
  simp
  obtain ⟨v, s1⟩ := ropen s
  obtain ⟨b, cap, rfl, _⟩ := s1.own_val
  refine brqI s1 ?_
  simp
  refine effq_ldc (v := .slice b its.length cap) (fun w' s' => by rw [cell_of s'.swap.look]; rfl) ?_
  simp
  refine effq_ldc (v := .int .i64 lim) (fun w' s' => by rw [cell_of s'.swap.look]; rfl) ?_
  simp
  intro w2 s2
  refine cndI (fun h3 => ?_) (fun h3 => ?_)
  · simp at h3
    have hh : lim ≤ its.length := by omega
    simp [makeF, h1, hk, hh]
    exact rclose s2
  simp at h3
  have hh : ¬ lim ≤ its.length := by omega
  have hw : IntKind.i64.wrap (its.length + 1) = its.length + 1 := wrap64 (by omega) (by omega)
  have hmk : makeF lim its k a = ((its.length : Int) + 1, (0 : Int), its ++ [⟨its.length + 1, k, a, 0⟩]) := by unfold makeF; rw [if_neg (by simp [h1]), if_neg (by simp [hk]), if_neg hh]
  rw [hmk]
  simp
  generalize hN : its.length = N at *
  refine regmI (fun vs w => match vs with
    | [] => St w0 (A * pt p (.cells #[.int .i64 lim, .slice b N cap] 84 (0, 0)) * own 44 4 (.slice b N cap) N (flat its)) w
    | [sl] => ∃ c, sl = .slice (some ⟨c, 0, none⟩) 1 1 ∧ St w0 (A * pt p (.cells #[.int .i64 lim, .slice b N cap] 84 (0, 0)) * own 44 4 (.slice b N cap) N (flat its) * pt c (.cells (It.cs ⟨N + 1, k, a, 0⟩).toArray 44 (0, 0))) w
    | [sl, v'] => ∃ c, sl = .slice (some ⟨c, 0, none⟩) 1 1 ∧ St w0 (A * pt p (.cells #[.int .i64 lim, .slice b N cap] 84 (0, 0)) * pt c (.cells (It.cs ⟨N + 1, k, a, 0⟩).toArray 44 (0, 0)) * own 44 4 v' (N + 1) (flat its ++ It.cs ⟨N + 1, k, a, 0⟩)) w
    | _ :: v' :: _ => ∃ c, St w0 (A * pt c (.cells (It.cs ⟨N + 1, k, a, 0⟩).toArray 44 (0, 0)) * own 44 4 v' (N + 1) (flat its ++ It.cs ⟨N + 1, k, a, 0⟩) * pt p (.cells #[.int .i64 lim, v'] 84 (0, 0))) w) s2.drew ?_
  simp
  refine effm_ldc (v := .slice b N cap) (fun vs' w he hw => ?_) ?_
  · match vs', hw with
    | [], hw => rw [cell_of (St.swap hw).look]; rfl
    | [_], ⟨c, _, hw⟩ => rw [cell_of (St.swap hw.drop).look]; rfl
    | [_, _], ⟨c, _, hw⟩ => rw [cell_of hw.drop.drop.look]; rfl
    | _ :: _ :: _ :: _, hw => simp [era] at he
  simp
  refine effm_ldc (v := .slice b N cap) (fun vs' w he hw => ?_) ?_
  · match vs', hw with
    | [], hw => rw [cell_of (St.swap hw).look]; rfl
    | [_], ⟨c, _, hw⟩ => rw [cell_of (St.swap hw.drop).look]; rfl
    | [_, _], ⟨c, _, hw⟩ => rw [cell_of hw.drop.drop.look]; rfl
    | _ :: _ :: _ :: _, hw => simp [era] at he
  simp [hw, Instr.fill, Value.cells]
  refine effm_mv rfl (fun w hw => eff_bslV hw rfl fun c w' h => ⟨c, rfl, h⟩) (fun sl hsl => ?_)
  obtain ⟨w7, c, rfl, _⟩ := hsl
  simp
  refine effm_mv rfl (fun w hw => ?_) (fun v' hv' => ?_)
  · obtain ⟨c', e, hw⟩ := hw
    cases e
    have hw' := hw.to (B := A * pt p (.cells #[.int .i64 lim, .slice b N cap] 84 (0, 0)) * pt c (.cells (It.cs ⟨N + 1, k, a, 0⟩).toArray 44 (0, 0)) * own 44 4 (.slice b N cap) N (flat its)) (by ac_rfl)
    exact eff_app (m := 1) (news := It.cs ⟨N + 1, k, a, 0⟩) hw' rfl hw.cells_look (cs_one _) (by decide) rfl (by unfold maxLen; omega) (by omega) fun v'' w' h => ⟨c, rfl, h⟩
  obtain ⟨w8, c', _, hv'⟩ := hv'
  obtain ⟨na, nc, rfl, _⟩ := hv'.own_val
  simp
  refine effm_mv rfl (fun w hw => ?_) (fun u _ => ?_)
  · obtain ⟨c', e, hw⟩ := hw
    have hw' := hw.to (B := A * pt c' (.cells (It.cs ⟨N + 1, k, a, 0⟩).toArray 44 (0, 0)) * own 44 4 (.slice na (N + 1) nc) (N + 1) (flat its ++ It.cs ⟨N + 1, k, a, 0⟩) * pt p (.cells #[.int .i64 lim, .slice b N cap] 84 (0, 0))) (by ac_rfl)
    exact eff_st1 hw' rfl (by simp) fun w' h => ⟨c', by simpa using h⟩
  simp
  intro w9 c9 h9
  refine eff_ldc (v := .slice na (N + 1) nc) (by rw [cell_of h9.look]; rfl) ?_
  simp
  have e9 : flat its ++ It.cs ⟨N + 1, k, a, 0⟩ = flat (its ++ [⟨N + 1, k, a, 0⟩]) := by simp [flat]
  have l9 : N + 1 = (its ++ [(⟨N + 1, k, a, 0⟩ : It)]).length := by simp [hN]
  rw [e9] at h9
  refine rclose (v := .slice na (N + 1) nc) ?_
  rw [← l9]
  exact St.cut (pt c9 (.cells (It.cs ⟨N + 1, k, a, 0⟩).toArray 44 (0, 0))) h9 (by ac_rfl)
end Go.HL.Gd
