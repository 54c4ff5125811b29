/-
  Goods by the document: Of, In, Kinds, Load. Conditions: items that stand right.
-/
import Derived.Test.YtfcgookobpjdgaaGdT
namespace Go.HL.Gd
open Go.HL Go.Proofs
set_option maxRecDepth 4000
set_option linter.unusedSimpArgs false
set_option linter.unusedVariables false
theorem con_zero {lim : Int} {its : List It} (hg : GI lim its) {i : Nat} (h : i < its.length) : its[i].con = 0 ↔ ¬ 0 < its[i].con := by
  rcases hg.place its[i] (List.getElem_mem h) with h' | h' <;> omega
theorem rOf_spec (p : Nat) (lim : Int) (its : List It) (a : Int) (w0 w : World) (A : Asn) (hg : GI lim its) (s : St w0 (A * rgs p lim its) w) :
    CallW Try.prog 49 [.pointer (some ⟨p, 0, none⟩), .int .i64 a]
      (fun r w' => St w0 (A * rgs p lim its * own 3 1 r (ofF its a).length (ints (ofF its a))) w') w := by
  have hlen := hg.len
  have hlim := hg.lim
  refine callW_of_lift l49_ok (by simp [l49]) ?_
  simp [l49]
  obtain ⟨v, s1⟩ := ropen s
  obtain ⟨b, cap, rfl, _⟩ := s1.own_val
  have L : ∀ {B C : Asn} {w : World}, St w0 (A * pt p (.cells #[.int .i64 lim, .slice b its.length cap] 84 (0, 0)) * B * C) w → w.cell? ⟨p, 1, none⟩ = some (.slice b its.length cap) := fun s => by rw [cell_of s.drop.swap.look]; rfl
  refine loopI (fun env w' => ∃ (i : Nat) (v : Value), env = [.pointer (some ⟨p, 0, none⟩), .int .i64 a, .slice none 0 0, v, .int .i64 i] ∧ i ≤ its.length ∧
      St w0 (A * pt p (.cells #[.int .i64 lim, .slice b its.length cap] 84 (0, 0)) * own 44 4 (.slice b its.length cap) its.length (flat its) * own 3 1 v (((its.take i).filter (fun x => !decide (0 < x.con) && decide (x.acc = a))).map It.num).length (ints (((its.take i).filter (fun x => !decide (0 < x.con) && decide (x.acc = a))).map It.num))) w')
    (fun env _ => its.length - slotN env 4) ⟨0, _, rfl, by omega, s1.own_nil _ _⟩ ?_
  rintro LQ env w' ⟨i, v, rfl, hi, s'⟩ hN hE hR
  simp
  refine eff_ldc (L s') ?_
  simp
  refine cndI (fun h => ?_) (fun h => ?_)
  · simp at h
    obtain ⟨g, cap', hv, _, hc⟩ := s'.drop.own_at (by omega)
    cases hv
    have htake : its.take (i + 1) = its.take i ++ [its[i]] := List.take_succ_eq_append_getElem h
    have hz := con_zero hg h
    have skip : (fun x => !decide (0 < x.con) && decide (x.acc = a)) its[i] = false → ∀ w2, St w0 (A * pt p (.cells #[.int .i64 lim, .slice (some ⟨g, 0, none⟩) its.length cap] 84 (0, 0)) * own 44 4 (.slice (some ⟨g, 0, none⟩) its.length cap) its.length (flat its) * own 3 1 v (((its.take i).filter (fun x => !decide (0 < x.con) && decide (x.acc = a))).map It.num).length (ints (((its.take i).filter (fun x => !decide (0 < x.con) && decide (x.acc = a))).map It.num))) w2 →
        LQ .nrm [.pointer (some ⟨p, 0, none⟩), .int .i64 a, .slice none 0 0, v, .int .i64 (i + 1)] w2 := fun hp w2 s2 => by
      refine hN _ _ ⟨i + 1, v, by simp, by omega, ?_⟩ (by simp [slotN]; omega)
      rw [htake, List.filter_append, List.filter_cons_of_neg (by simp [hp]), List.filter_nil, List.append_nil]
      exact s2
    have take : (fun x => !decide (0 < x.con) && decide (x.acc = a)) its[i] = true → ∀ w2, St w0 (A * pt p (.cells #[.int .i64 lim, .slice (some ⟨g, 0, none⟩) its.length cap] 84 (0, 0)) * own 44 4 (.slice (some ⟨g, 0, none⟩) its.length cap) its.length (flat its) * own 3 1 v (((its.take i).filter (fun x => !decide (0 < x.con) && decide (x.acc = a))).map It.num).length (ints (((its.take i).filter (fun x => !decide (0 < x.con) && decide (x.acc = a))).map It.num))) w2 →
        HC.wp G2 h49_2 (blockQ 1 (seqQ G2 h49_1 LQ)) [.pointer (some ⟨p, 0, none⟩), .int .i64 a, .slice none 0 0, v, .int .i64 i] w2 := fun hp w2 s2 => by
      simp
      refine eff_ldc (L s2) ?_
      simp [h]
      refine eff_ldc (v := .int .i64 its[i].num) (by rcases s2.drop.own_at (by omega) with ⟨g', c', hv, _, hc'⟩; cases hv; exact hc' _ _ (flat_at h 0 _ rfl)) ?_
      simp
      refine eff_bsl1 s2 rfl ?_
      intro c1 w4 s5
      simp
      refine eff_app (m := 1) (news := [.int .i64 its[i].num]) s5.swap rfl s5.cells_look (by simp [Value.oneCell']) (by decide) rfl ?_ ?_ ?_
      · have := List.length_filter_le ((fun x => !decide (0 < x.con) && decide (x.acc = a))) (its.take i)
        simp only [List.length_map, List.length_take] at this ⊢
        unfold maxLen; omega
      · have := List.length_filter_le ((fun x => !decide (0 < x.con) && decide (x.acc = a))) (its.take i)
        simp only [List.length_map, List.length_take] at this ⊢
        omega
      intro v' w5 s6
      simp
      try simp (disch := omega) only [wrap64]
      refine hN _ _ ⟨i + 1, v', by simp, by omega, ?_⟩ (by simp [slotN]; omega)
      refine St.cut (pt c1 (.cells #[.int .i64 its[i].num] 3 (0, 0))) s6 ?_
      rw [htake]
      simp only [List.filter_append, List.map_append, hp, List.filter_cons_of_pos, List.filter_nil, List.map_cons, List.map_nil, ints, List.length_append, List.length_map, List.length_cons, List.length_nil]
      ac_rfl
    simp
    refine eff_ldc (L s') ?_
    simp [h]
    refine eff_ldc (v := .int .i64 its[i].con) (hc _ _ (flat_at h 3 _ rfl)) ?_
    simp
    by_cases h0 : its[i].con = 0
    · simp [h0]
      refine eff_ldc (L s') ?_
      simp [h]
      refine eff_ldc (v := .int .i64 its[i].acc) (hc _ _ (flat_at h 2 _ rfl)) ?_
      simp
      refine cndI (fun h2 => ?_) (fun h2 => ?_)
      · simp at h2
        have := take (by simp [h0, h2]) w' s'
        simp at this
        simpa using this
      · simp at h2
        simp
        try simp (disch := omega) only [wrap64]
        exact skip (by simp [h2]) w' s'
    · simp [h0]
      try simp (disch := omega) only [wrap64]
      have hp : 0 < its[i].con := by omega
      exact skip (by simp [hp]) w' s'
  · simp at h
    simp
    refine hE _ _ _ ?_
    simp
    have e : i = its.length := by omega
    subst e
    rw [List.take_length] at s'
    exact (rclose (A := A * own 3 1 v ((its.filter (fun x => !decide (0 < x.con) && decide (x.acc = a))).map It.num).length (ints ((its.filter (fun x => !decide (0 < x.con) && decide (x.acc = a))).map It.num))) (lim := lim) (p := p) (its := its) (v := .slice b its.length cap) (s'.to (by ac_rfl))).swap
theorem rIn_spec (p : Nat) (lim : Int) (its : List It) (a : Int) (w0 w : World) (A : Asn) (hg : GI lim its) (s : St w0 (A * rgs p lim its) w) :
    CallW Try.prog 50 [.pointer (some ⟨p, 0, none⟩), .int .i64 a]
      (fun r w' => St w0 (A * rgs p lim its * own 3 1 r (inF its a).length (ints (inF its a))) w') w := by
  have hlen := hg.len
  have hlim := hg.lim
  refine callW_of_lift l50_ok (by simp [l50]) ?_
  simp [l50]
  obtain ⟨v, s1⟩ := ropen s
  obtain ⟨b, cap, rfl, _⟩ := s1.own_val
  have L : ∀ {B C : Asn} {w : World}, St w0 (A * pt p (.cells #[.int .i64 lim, .slice b its.length cap] 84 (0, 0)) * B * C) w → w.cell? ⟨p, 1, none⟩ = some (.slice b its.length cap) := fun s => by rw [cell_of s.drop.swap.look]; rfl
  refine loopI (fun env w' => ∃ (i : Nat) (v : Value), env = [.pointer (some ⟨p, 0, none⟩), .int .i64 a, .slice none 0 0, v, .int .i64 i] ∧ i ≤ its.length ∧
      St w0 (A * pt p (.cells #[.int .i64 lim, .slice b its.length cap] 84 (0, 0)) * own 44 4 (.slice b its.length cap) its.length (flat its) * own 3 1 v (((its.take i).filter (fun x => decide (0 < x.con) && decide (x.con = a))).map It.num).length (ints (((its.take i).filter (fun x => decide (0 < x.con) && decide (x.con = a))).map It.num))) w')
    (fun env _ => its.length - slotN env 4) ⟨0, _, rfl, by omega, s1.own_nil _ _⟩ ?_
  rintro LQ env w' ⟨i, v, rfl, hi, s'⟩ hN hE hR
  simp
  refine eff_ldc (L s') ?_
  simp
  refine cndI (fun h => ?_) (fun h => ?_)
  · simp at h
    obtain ⟨g, cap', hv, _, hc⟩ := s'.drop.own_at (by omega)
    cases hv
    have htake : its.take (i + 1) = its.take i ++ [its[i]] := List.take_succ_eq_append_getElem h
    have hz := con_zero hg h
    have skip : (fun x => decide (0 < x.con) && decide (x.con = a)) its[i] = false → ∀ w2, St w0 (A * pt p (.cells #[.int .i64 lim, .slice (some ⟨g, 0, none⟩) its.length cap] 84 (0, 0)) * own 44 4 (.slice (some ⟨g, 0, none⟩) its.length cap) its.length (flat its) * own 3 1 v (((its.take i).filter (fun x => decide (0 < x.con) && decide (x.con = a))).map It.num).length (ints (((its.take i).filter (fun x => decide (0 < x.con) && decide (x.con = a))).map It.num))) w2 →
        LQ .nrm [.pointer (some ⟨p, 0, none⟩), .int .i64 a, .slice none 0 0, v, .int .i64 (i + 1)] w2 := fun hp w2 s2 => by
      refine hN _ _ ⟨i + 1, v, by simp, by omega, ?_⟩ (by simp [slotN]; omega)
      rw [htake, List.filter_append, List.filter_cons_of_neg (by simp [hp]), List.filter_nil, List.append_nil]
      exact s2
    have take : (fun x => decide (0 < x.con) && decide (x.con = a)) its[i] = true → ∀ w2, St w0 (A * pt p (.cells #[.int .i64 lim, .slice (some ⟨g, 0, none⟩) its.length cap] 84 (0, 0)) * own 44 4 (.slice (some ⟨g, 0, none⟩) its.length cap) its.length (flat its) * own 3 1 v (((its.take i).filter (fun x => decide (0 < x.con) && decide (x.con = a))).map It.num).length (ints (((its.take i).filter (fun x => decide (0 < x.con) && decide (x.con = a))).map It.num))) w2 →
        HC.wp G2 h50_2 (blockQ 1 (seqQ G2 h50_1 LQ)) [.pointer (some ⟨p, 0, none⟩), .int .i64 a, .slice none 0 0, v, .int .i64 i] w2 := fun hp w2 s2 => by
      simp
      refine eff_ldc (L s2) ?_
      simp [h]
      refine eff_ldc (v := .int .i64 its[i].num) (by rcases s2.drop.own_at (by omega) with ⟨g', c', hv, _, hc'⟩; cases hv; exact hc' _ _ (flat_at h 0 _ rfl)) ?_
      simp
      refine eff_bsl1 s2 rfl ?_
      intro c1 w4 s5
      simp
      refine eff_app (m := 1) (news := [.int .i64 its[i].num]) s5.swap rfl s5.cells_look (by simp [Value.oneCell']) (by decide) rfl ?_ ?_ ?_
      · have := List.length_filter_le ((fun x => decide (0 < x.con) && decide (x.con = a))) (its.take i)
        simp only [List.length_map, List.length_take] at this ⊢
        unfold maxLen; omega
      · have := List.length_filter_le ((fun x => decide (0 < x.con) && decide (x.con = a))) (its.take i)
        simp only [List.length_map, List.length_take] at this ⊢
        omega
      intro v' w5 s6
      simp
      try simp (disch := omega) only [wrap64]
      refine hN _ _ ⟨i + 1, v', by simp, by omega, ?_⟩ (by simp [slotN]; omega)
      refine St.cut (pt c1 (.cells #[.int .i64 its[i].num] 3 (0, 0))) s6 ?_
      rw [htake]
      simp only [List.filter_append, List.map_append, hp, List.filter_cons_of_pos, List.filter_nil, List.map_cons, List.map_nil, ints, List.length_append, List.length_map, List.length_cons, List.length_nil]
      ac_rfl
    simp
    by_cases h0 : 0 < a
    · simp [h0]
      refine eff_ldc (L s') ?_
      simp [h]
      refine eff_ldc (v := .int .i64 its[i].con) (hc _ _ (flat_at h 3 _ rfl)) ?_
      simp
      refine cndI (fun h2 => ?_) (fun h2 => ?_)
      · simp at h2
        have := take (by simp [h2, h0]) w' s'
        simp at this
        simpa using this
      · simp at h2
        simp
        try simp (disch := omega) only [wrap64]
        exact skip (by simp [h2]) w' s'
    · simp [h0]
      try simp (disch := omega) only [wrap64]
      exact skip (by simp; intro h1 h2; omega) w' s'
  · simp at h
    simp
    refine hE _ _ _ ?_
    simp
    have e : i = its.length := by omega
    subst e
    rw [List.take_length] at s'
    exact (rclose (A := A * own 3 1 v ((its.filter (fun x => decide (0 < x.con) && decide (x.con = a))).map It.num).length (ints ((its.filter (fun x => decide (0 < x.con) && decide (x.con = a))).map It.num))) (lim := lim) (p := p) (its := its) (v := .slice b its.length cap) (s'.to (by ac_rfl))).swap
theorem rKinds_spec (p : Nat) (lim : Int) (its : List It) (a : Int) (w0 w : World) (A : Asn) (hg : GI lim its) (s : St w0 (A * rgs p lim its) w) :
    CallW Try.prog 51 [.pointer (some ⟨p, 0, none⟩), .int .i64 a]
      (fun r w' => r = .agg (ints (tally (its.filter (ofP a)))).toArray ∧ St w0 (A * rgs p lim its) w') w := by
  have hlen := hg.len
  have hlim := hg.lim
  refine callW_of_lift l51_ok (by simp [l51]) ?_
  simp [l51]
  refine eff_new s ?_
  intro b w1 s1
  simp
  refine eff_new s1 ?_
  intro b2 w2 s2
  simp
  have e0 : (ints (tally [])).toArray = #[.int .i64 0, .int .i64 0, .int .i64 0, .int .i64 0, .int .i64 0, .int .i64 0, .int .i64 0, .int .i64 0, .int .i64 0, .int .i64 0, .int .i64 0, .int .i64 0, .int .i64 0, .int .i64 0, .int .i64 0, .int .i64 0] := by rfl
  have s3 : St w0 (A * pt b (.cells (ints (tally [])).toArray 74 (0, 0)) * pt b2 (.cells (ints (tally [])).toArray 74 (0, 0)) * rgs p lim its) w2 := by
    rw [e0]
    have := s2.to (B := A * pt b _ * pt b2 _ * rgs p lim its) (by ac_rfl)
    simpa using this
  obtain ⟨v, s4⟩ := ropen s3
  obtain ⟨b0, cap, rfl, _⟩ := s4.own_val
  have L : ∀ {B C : Asn} {w : World}, St w0 (A * pt b (.cells (ints (tally [])).toArray 74 (0, 0)) * pt p (.cells #[.int .i64 lim, .slice b0 its.length cap] 84 (0, 0)) * B * C) w → w.cell? ⟨p, 1, none⟩ = some (.slice b0 its.length cap) := fun s => by rw [cell_of s.drop.swap.look]; rfl
  refine loopI (fun env w' => ∃ (i : Nat), env = [.pointer (some ⟨p, 0, none⟩), .int .i64 a, .pointer (some ⟨b, 0, none⟩), .pointer (some ⟨b2, 0, none⟩), .int .i64 i] ∧ i ≤ its.length ∧
      St w0 (A * pt b (.cells (ints (tally [])).toArray 74 (0, 0)) * pt p (.cells #[.int .i64 lim, .slice b0 its.length cap] 84 (0, 0)) * own 44 4 (.slice b0 its.length cap) its.length (flat its) * pt b2 (.cells (ints (tally ((its.take i).filter (ofP a)))).toArray 74 (0, 0))) w')
    (fun env _ => its.length - slotN env 4) ⟨0, rfl, by omega, s4.to (by simp only [List.take_zero, List.filter_nil]; ac_rfl)⟩ ?_
  rintro LQ env w' ⟨i, rfl, hi, s'⟩ hN hE hR
  simp
  refine eff_ldc (L s') ?_
  simp
  refine cndI (fun h => ?_) (fun h => ?_)
  · simp at h
    obtain ⟨g, cap', hv, _, hc⟩ := s'.drop.own_at (by omega)
    cases hv
    have htake : its.take (i + 1) = its.take i ++ [its[i]] := List.take_succ_eq_append_getElem h
    have hz := con_zero hg h
    have skip : ofP a its[i] = false → LQ .nrm [.pointer (some ⟨p, 0, none⟩), .int .i64 a, .pointer (some ⟨b, 0, none⟩), .pointer (some ⟨b2, 0, none⟩), .int .i64 (i + 1)] w' := fun hp => by
      refine hN _ _ ⟨i + 1, by simp, by omega, ?_⟩ (by simp [slotN]; omega)
      rw [htake, List.filter_append, List.filter_cons_of_neg (by simp [hp]), List.filter_nil, List.append_nil]
      exact s'
    simp
    refine eff_ldc (L s') ?_
    simp [h]
    refine eff_ldc (v := .int .i64 its[i].con) (hc _ _ (flat_at h 3 _ rfl)) ?_
    simp
    by_cases h0 : its[i].con = 0
    · simp [h0]
      refine eff_ldc (L s') ?_
      simp [h]
      refine eff_ldc (v := .int .i64 its[i].acc) (hc _ _ (flat_at h 2 _ rfl)) ?_
      simp
      refine cndI (fun h2 => ?_) (fun h2 => ?_)
      · simp at h2
        have hp : ofP a its[i] = true := by simp [ofP, h0, h2]
        simp
        refine eff_ldc (L s') ?_
        simp [h]
        obtain ⟨k0, k1⟩ := hg.kind its[i] (List.getElem_mem h)
        obtain ⟨n, hn⟩ : ∃ n : Nat, its[i].kind = n := ⟨its[i].kind.toNat, by omega⟩
        have hn16 : n < 16 := by omega
        have hn16i : (n : Int) < 16 := by omega
        refine eff_ldc (v := .int .i64 n) (by rw [← hn]; exact hc _ _ (flat_at h 1 _ rfl)) ?_
        simp [hn16i]
        have hcount := List.length_filter_le (fun x : It => decide (x.kind = (n : Int))) ((its.take i).filter (ofP a))
        have hcount2 := List.length_filter_le (ofP a) (its.take i)
        simp only [List.length_take] at hcount2
        have hcell : w'.cell? ⟨b2, n, none⟩ = some (.int .i64 ((((its.take i).filter (ofP a)).filter fun x => decide (x.kind = (n : Int))).length : Int)) := by rw [cell_of s'.look]; simp only [ints, List.getElem?_toArray, List.getElem?_map, tally_at _ _ hn16]; rfl
        have hsn := tally_snoc ((its.take i).filter (ofP a)) its[i] n hn16 hn
        generalize (((its.take i).filter (ofP a)).filter fun x => decide (x.kind = (n : Int))).length = cn at hcell hsn hcount
        refine eff_ldc hcell ?_
        have hww : IntKind.i64.wrap ((cn : Int) + 1) = (cn : Int) + 1 := wrap64 (by omega) (by omega)
        simp [hn16i, hww]
        refine eff_st1 s' rfl (by simp [ints, tally_len, hn16]) ?_
        intro w4 s5
        simp
        try simp (disch := omega) only [wrap64]
        refine hN _ _ ⟨i + 1, by simp, by omega, ?_⟩ (by simp [slotN]; omega)
        rw [htake, List.filter_append, List.filter_cons_of_pos hp, List.filter_nil, hsn]
        refine s5.to ?_
        simp only [ints, List.setIfInBounds_toArray, List.map_set]
      · simp at h2
        simp
        try simp (disch := omega) only [wrap64]
        exact skip (by simp [ofP, h2])
    · simp [h0]
      try simp (disch := omega) only [wrap64]
      have hp : 0 < its[i].con := by omega
      exact skip (by simp [ofP, hp])
  · simp at h
    simp
    refine hE _ _ _ ?_
    simp
    have e : i = its.length := by omega
    subst e
    rw [List.take_length] at s'
    refine eff_ldcs (vs := ints (tally (its.filter (ofP a)))) (off := 0) s'.row_cells (by simp [ints, tally_len]) ?_
    simp
    have t1 := s'.to (B := A * pt p (.cells #[.int .i64 lim, .slice b0 its.length cap] 84 (0, 0)) * own 44 4 (.slice b0 its.length cap) its.length (flat its) * pt b2 (.cells (ints (tally (its.filter (ofP a)))).toArray 74 (0, 0)) * pt b (.cells (ints (tally [])).toArray 74 (0, 0))) (by ac_rfl)
    refine eff_stA (vs := ints (tally (its.filter (ofP a)))) t1 (by simp) (by simp [ints, tally_len]) (ints_one _) (by simp [ints, tally_len]) ?_
    intro w4 s5
    simp
    have hz : (ints (tally [])).drop 16 = [] := List.drop_of_length_le (by simp [ints, tally_len])
    have s6 : St w0 (A * pt p (.cells #[.int .i64 lim, .slice b0 its.length cap] 84 (0, 0)) * own 44 4 (.slice b0 its.length cap) its.length (flat its) * pt b2 (.cells (ints (tally (its.filter (ofP a)))).toArray 74 (0, 0)) * pt b (.cells (ints (tally (its.filter (ofP a)))).toArray 74 (0, 0))) w4 := by simpa [hz] using s5
    refine rv_cellA (vs := ints (tally (its.filter (ofP a)))) rfl s6.row_cells (by simp [ints, tally_len]) ?_
    simp
    exact rclose s6.drop.drop
theorem rKinds_nil (a : Int) (w0 w : World) (A : Asn) (s : St w0 A w) : CallW Try.prog 51 [.pointer none, .int .i64 a] (fun r w' => r = .agg (ints (tally [])).toArray ∧ St w0 A w') w := by
  refine callW_of_lift l51_ok (by simp [l51]) ?_
  simp [l51]
  refine eff_new s ?_
  intro b w1 s1
  simp
  refine eff_new s1 ?_
  intro b2 w2 s2
  have e : (ints (tally [])).toArray = #[.int .i64 0, .int .i64 0, .int .i64 0, .int .i64 0, .int .i64 0, .int .i64 0, .int .i64 0, .int .i64 0, .int .i64 0, .int .i64 0, .int .i64 0, .int .i64 0, .int .i64 0, .int .i64 0, .int .i64 0, .int .i64 0] := by rfl
  have s3 : St w0 (A * pt b (.cells (ints (tally [])).toArray 74 (0, 0)) * pt b2 (.cells (ints (tally [])).toArray 74 (0, 0))) w2 := by rw [e]; simpa using s2
  simp
  refine eff_ldcs (vs := ints (tally [])) (off := 0) s3.row_cells (by simp [ints, tally_len]) ?_
  simp
  refine eff_stA (vs := ints (tally [])) s3.swap (by simp) (by simp [ints, tally_len]) (ints_one _) (by simp [ints, tally_len]) ?_
  intro w4 s4
  simp
  have hz : (ints (tally [])).drop 16 = [] := List.drop_of_length_le (by simp [ints, tally_len])
  have s5 : St w0 (A * pt b2 (.cells (ints (tally [])).toArray 74 (0, 0)) * pt b (.cells (ints (tally [])).toArray 74 (0, 0))) w4 := by simpa [hz] using s4
  refine rv_cellA (vs := ints (tally [])) rfl s5.row_cells (by simp [ints, tally_len]) ?_
  simp
  exact s5.drop.drop
theorem rLoad_spec (lim : Int) (rows : List It) (v : Value) (w0 w : World) (A : Asn) (hl : rows.length ≤ 1048576) (hrow : Row w0 A v rows.length 4 (flat rows)) (s : St w0 A w) :
    CallW Try.prog 55 [.int .i64 lim, v] (fun r w' => if loadE lim rows = 0 then ∃ p, r = .tuple #[.pointer (some ⟨p, 0, none⟩), .int .i64 0] ∧ St w0 (A * rgs p lim rows) w' else r = .tuple #[.pointer none, .int .i64 (loadE lim rows)] ∧ St w0 A w') w := by
  obtain ⟨a, cap, rfl⟩ := hrow.val
  refine callW_of_lift l55_ok (by simp [l55]) ?_
  simp [l55]
  refine eff_call ((rNew_spec lim w0 w A s).mono ?_)
  intro r w1 h1
  by_cases h0 : 0 ≤ lim ∧ lim ≤ 512
  · rw [if_pos h0] at h1
    obtain ⟨p, rfl, s1⟩ := h1
    simp
    refine cndI (fun h2 => ?_) (fun h2 => ?_)
    · simp at h2
      have e : loadE lim rows = 150 := by unfold loadE; rw [if_pos h0, if_pos h2]
      simp [e]
      exact s1.drop
    simp at h2
    have e : loadE lim rows = scanE 0 rows := by unfold loadE; rw [if_pos h0, if_neg (by omega)]
    rw [e]
    simp
    have e0 : scanE 0 rows = scanE 0 (rows.drop 0) := rfl
    rw [e0]
    refine loopI (fun env w' => ∃ (i : Nat) (o7 o8 o9 : Value), env = [.int .i64 lim, .slice a rows.length cap, .pointer none, .int .i64 0, .pointer (some ⟨p, 0, none⟩), .int .i64 0, .int .i64 i, o7, o8, o9] ∧ i ≤ rows.length ∧ scanE 0 (rows.drop 0) = scanE i (rows.drop i) ∧
        St w0 (A * rgs p lim (rows.take i)) w')
      (fun env _ => rows.length - slotN env 6) ⟨0, _, _, _, rfl, by omega, rfl, s1⟩ ?_
    rintro LQ env w' ⟨i, o7, o8, o9, rfl, hi, hsc, s'⟩ hN hE hR
    simp
    refine cndI (fun h => ?_) (fun h => ?_)
    · simp at h
      have hcur : scanE i (rows.drop i) = if itemE i rows[i] = 0 then scanE (i + 1) (rows.drop (i + 1)) else itemE i rows[i] := by rw [List.drop_eq_getElem_cons h]; rfl
      obtain ⟨g, o, cap', hv, hc⟩ := hrow.at (by omega)
      cases hv
      simp [h]
      refine eff_ldcs (vs := rows[i].cs) (fun j u hu => by rw [Nat.add_assoc]; exact hc _ s'.drop _ _ (flat_at h j u hu)) rfl ?_
      simp
      refine eff_new s' ?_
      intro rb w2 s2
      simp
      refine eff_stA (vs := rows[i].cs) s2 rfl rfl (cs_one _) (by simp) ?_
      intro w3 s3
      simp
      have s7 : St w0 (A * rgs p lim (rows.take i) * pt rb (.cells rows[i].cs.toArray 44 (0, 0))) w3 := by simpa using s3
      have c0 : ∀ {B : Asn} {w : World}, St w0 (B * pt rb (.cells rows[i].cs.toArray 44 (0, 0))) w → w.cell? ⟨rb, 0, none⟩ = some (.int .i64 rows[i].num) ∧ w.cell? ⟨rb, 1, none⟩ = some (.int .i64 rows[i].kind) ∧ w.cell? ⟨rb, 2, none⟩ = some (.int .i64 rows[i].acc) ∧ w.cell? ⟨rb, 3, none⟩ = some (.int .i64 rows[i].con) :=
        fun s => ⟨by rw [cell_of s.look]; rfl, by rw [cell_of s.look]; rfl, by rw [cell_of s.look]; rfl, by rw [cell_of s.look]; rfl⟩
      have hw1 : IntKind.i64.wrap ((i : Int) + 1) = (i : Int) + 1 := wrap64 (by omega) (by omega)
      refine eff_ldc (c0 s7).1 ?_
      simp [hw1]
      refine cndI (fun e1 => ?_) (fun e1 => ?_)
      · simp at e1
        have hE1 : itemE i rows[i] = 151 := by unfold itemE; rw [if_pos e1]
        simp
        refine hR _ _ ?_
        rw [hsc, hcur, hE1]
        simp
        exact s7.drop.drop
      simp at e1
      simp
      refine eff_ldc (c0 s7).2.1 ?_
      have bad : kindF rows[i].kind = false → itemE i rows[i] = 152 := fun hk => by unfold itemE; rw [if_neg (by omega), if_pos hk]
      by_cases k0 : rows[i].kind < 0
      · have hE1 := bad (by simp [kindF]; omega)
        simp [k0]
        refine hR _ _ ?_
        rw [hsc, hcur, hE1]
        simp
        exact s7.drop.drop
      simp [k0]
      refine eff_ldc (c0 s7).2.1 ?_
      simp
      refine cndI (fun e2 => ?_) (fun e2 => ?_)
      · simp at e2
        have hE1 := bad (by simp [kindF]; omega)
        simp
        refine hR _ _ ?_
        rw [hsc, hcur, hE1]
        simp
        exact s7.drop.drop
      simp at e2
      have hk : kindF rows[i].kind = true := by simp [kindF]; omega
      simp
      have hmid : itemE i rows[i] = if rows[i].con < 0 ∨ (0 < rows[i].con ∧ rows[i].acc ≠ -1) ∨ (¬ 0 < rows[i].con ∧ accF rows[i].acc = false) then 2 else 0 := by unfold itemE; rw [if_neg (by omega), if_neg (by simp [hk])]
      have good : ∀ (o8 o9 : Value) w, St w0 (A * rgs p lim (rows.take i) * pt rb (.cells rows[i].cs.toArray 44 (0, 0))) w → itemE i rows[i] = 0 →
          HC.wp G2 h55_2 (blockQ 1 (seqQ G2 h55_1 LQ))
            [.int .i64 lim, .slice (some ⟨g, o, none⟩) rows.length cap, .pointer none, .int .i64 0, .pointer (some ⟨p, 0, none⟩), .int .i64 0, .int .i64 i, .pointer (some ⟨rb, 0, none⟩), o8, o9] w := by
        intro o8 o9 w s hE1
        simp
        obtain ⟨v0, t⟩ := ropen (s.to (B := A * pt rb (.cells rows[i].cs.toArray 44 (0, 0)) * rgs p lim (rows.take i)) (by ac_rfl))
        obtain ⟨va, vc, rfl, _⟩ := t.own_val
        have hti : (rows.take i).length = i := by rw [List.length_take]; omega
        generalize hT : rows.take i = T at t hti
        refine regmI (fun vs w => match vs with
          | [] => St w0 (A * pt rb (.cells rows[i].cs.toArray 44 (0, 0)) * pt p (.cells #[.int .i64 lim, .slice va T.length vc] 84 (0, 0)) * own 44 4 (.slice va T.length vc) T.length (flat T)) w
          | [sl] => ∃ c, sl = .slice (some ⟨c, 0, none⟩) 1 1 ∧ St w0 (A * pt rb (.cells rows[i].cs.toArray 44 (0, 0)) * pt p (.cells #[.int .i64 lim, .slice va T.length vc] 84 (0, 0)) * own 44 4 (.slice va T.length vc) T.length (flat T) * pt c (.cells rows[i].cs.toArray 44 (0, 0))) w
          | [sl, v'] => ∃ c, sl = .slice (some ⟨c, 0, none⟩) 1 1 ∧ St w0 (A * pt rb (.cells rows[i].cs.toArray 44 (0, 0)) * pt p (.cells #[.int .i64 lim, .slice va T.length vc] 84 (0, 0)) * pt c (.cells rows[i].cs.toArray 44 (0, 0)) * own 44 4 v' (T.length + 1) (flat T ++ rows[i].cs)) w
          | _ :: v' :: _ => ∃ c, St w0 (A * pt rb (.cells rows[i].cs.toArray 44 (0, 0)) * pt c (.cells rows[i].cs.toArray 44 (0, 0)) * own 44 4 v' (T.length + 1) (flat T ++ rows[i].cs) * pt p (.cells #[.int .i64 lim, v'] 84 (0, 0))) w) t.drew ?_
        simp
        refine effm_ldc (v := .slice va T.length vc) (fun vs' w he hw => ?_) ?_
        · match vs', hw with
          | [], hw => rw [cell_of (St.swap hw).look]; rfl
          | [_], ⟨c, _, hw⟩ => rw [cell_of (St.swap hw.drop).look]; rfl
          | [_, _], ⟨c, _, hw⟩ => rw [cell_of hw.drop.drop.look]; rfl
          | _ :: _ :: _ :: _, hw => simp [era] at he
        simp
        refine effm_ldcs (us := rows[i].cs) (off := 0) (fun vs' w he hw => ?_) rfl ?_
        · match vs', hw with
          | [], hw => exact (St.drop (St.drop hw)).row_cells
          | [_], ⟨c, _, hw⟩ => exact hw.drop.drop.drop.row_cells
          | [_, _], ⟨c, _, hw⟩ => exact hw.drop.drop.drop.row_cells
          | _ :: _ :: _ :: _, hw => simp [era] at he
        simp
        refine effm_mv rfl (fun w hw => eff_bslV hw rfl fun c w' h => ⟨c, rfl, h⟩) (fun sl hsl => ?_)
        obtain ⟨w7, c, rfl, _⟩ := hsl
        simp
        refine effm_mv rfl (fun w hw => ?_) (fun v' hv' => ?_)
        · obtain ⟨c', e, hw⟩ := hw
          cases e
          have hw' := hw.to (B := A * pt rb (.cells rows[i].cs.toArray 44 (0, 0)) * pt p (.cells #[.int .i64 lim, .slice va T.length vc] 84 (0, 0)) * pt c (.cells rows[i].cs.toArray 44 (0, 0)) * own 44 4 (.slice va T.length vc) T.length (flat T)) (by ac_rfl)
          exact eff_app (m := 1) (news := rows[i].cs) hw' rfl hw.cells_look (cs_one _) (by decide) rfl (by unfold maxLen; omega) (by omega) fun v'' w' h => ⟨c, rfl, h⟩
        obtain ⟨w8, c', _, hv'⟩ := hv'
        obtain ⟨na, nc, rfl, _⟩ := hv'.own_val
        simp
        refine effm_mv rfl (fun w hw => ?_) (fun u _ => ?_)
        · obtain ⟨c', e, hw⟩ := hw
          have hw' := hw.to (B := A * pt rb (.cells rows[i].cs.toArray 44 (0, 0)) * pt c' (.cells rows[i].cs.toArray 44 (0, 0)) * own 44 4 (.slice na (T.length + 1) nc) (T.length + 1) (flat T ++ rows[i].cs) * pt p (.cells #[.int .i64 lim, .slice va T.length vc] 84 (0, 0))) (by ac_rfl)
          exact eff_st1 hw' rfl (by simp) fun w' h => ⟨c', by simpa using h⟩
        simp
        intro w9 c9 h9
        try simp (disch := omega) only [wrap64]
        refine hN _ _ ⟨i + 1, _, _, _, by simp; exact ⟨rfl, rfl, rfl⟩, by omega, ?_, ?_⟩ (by simp [slotN]; omega)
        · rw [hsc, hcur, if_pos hE1]
        · have htake : rows.take (i + 1) = T ++ [rows[i]] := by rw [← hT]; exact List.take_succ_eq_append_getElem h
          have e9 : flat T ++ rows[i].cs = flat (rows.take (i + 1)) := by rw [htake]; simp only [flat, List.flatMap_append, List.flatMap_cons, List.flatMap_nil, List.append_nil]
          have hl9 : T.length + 1 = (rows.take (i + 1)).length := by rw [htake]; simp
          rw [e9, hl9] at h9
          refine rclose (v := .slice na (rows.take (i + 1)).length nc) ?_
          exact St.cut (pt rb (.cells rows[i].cs.toArray 44 (0, 0)) * pt c9 (.cells rows[i].cs.toArray 44 (0, 0))) h9 (by ac_rfl)
      have tail : ∀ (at_ in_ : Bool) w, St w0 (A * rgs p lim (rows.take i) * pt rb (.cells rows[i].cs.toArray 44 (0, 0))) w → (at_ || in_) = decide (itemE i rows[i] = 0) →
          HC.wp G2 h55_4 (blockQ 1 (seqQ G2 h55_1 LQ))
            [.int .i64 lim, .slice (some ⟨g, o, none⟩) rows.length cap, .pointer none, .int .i64 0, .pointer (some ⟨p, 0, none⟩), .int .i64 0, .int .i64 i, .pointer (some ⟨rb, 0, none⟩), .bool at_, .bool in_] w := by
        intro at_ in_ w s hb
        simp
        have hE2 : itemE i rows[i] = 0 ∨ itemE i rows[i] = 2 := by rw [hmid]; split <;> simp
        rcases hE2 with hE1 | hE1
        · have hb : (at_ || in_) = true := by rw [hb, hE1]; rfl
          have := good (.bool at_) (.bool in_) w s hE1
          simp at this
          cases at_ <;> cases in_ <;> simp at hb <;> simpa using this
        · have hb : (at_ || in_) = false := by rw [hb, hE1]; rfl
          cases at_ <;> cases in_ <;> simp at hb
          simp
          refine hR _ _ ?_
          rw [hsc, hcur, hE1]
          simp
          exact s.drop.drop
      refine eff_ldc (c0 s7).2.2.2 ?_
      rcases Int.lt_trichotomy rows[i].con 0 with h3 | h3 | h3
      · have hne : ¬ rows[i].con = 0 := by omega
        have hnp : ¬ 0 < rows[i].con := by omega
        simp [hne]
        refine eff_ldc (c0 s7).2.2.2 ?_
        simp [hnp]
        have := tail false false w3 s7 (by rw [hmid, if_pos (.inl h3)]; rfl)
        simp at this
        simpa using this
      · have hnp : ¬ 0 < rows[i].con := by omega
        have hnn : ¬ rows[i].con < 0 := by omega
        simp [h3]
        refine eff_ldc (c0 s7).2.2.1 ?_
        simp
        refine eff_ldc (v := .int .i64 0) (by rw [(c0 s7).2.2.2, h3]) ?_
        simp
        have := tail (accF rows[i].acc) false w3 s7 (by
          rw [hmid]
          cases hac : accF rows[i].acc with
          | true => rw [if_neg (by simp [h3])]; rfl
          | false => rw [if_pos (.inr (.inr ⟨hnp, rfl⟩))]; rfl)
        simp at this
        simpa using this
      · have hne : ¬ rows[i].con = 0 := by omega
        have hnn : ¬ rows[i].con < 0 := by omega
        simp [hne]
        refine eff_ldc (c0 s7).2.2.2 ?_
        simp [h3]
        refine eff_ldc (c0 s7).2.2.1 ?_
        simp
        have := tail false (decide (rows[i].acc = -1)) w3 s7 (by
          rw [hmid]
          by_cases hac : rows[i].acc = -1
          · rw [if_neg (by rintro (h' | ⟨_, h'⟩ | ⟨h', _⟩) <;> omega)]; simp [hac]
          · rw [if_pos (.inr (.inl ⟨h3, hac⟩))]; simp [hac])
        simp at this
        simpa using this
    · simp at h
      simp
      refine hE _ _ _ ?_
      have e : i = rows.length := by omega
      subst e
      rw [hsc]
      simp [scanE]
      rw [List.take_length] at s'
      exact s'
  · rw [if_neg h0] at h1
    obtain ⟨rfl, s1⟩ := h1
    have e : loadE lim rows = 2 := by unfold loadE; rw [if_neg h0]
    simp [e]
    exact s1
end Go.HL.Gd
