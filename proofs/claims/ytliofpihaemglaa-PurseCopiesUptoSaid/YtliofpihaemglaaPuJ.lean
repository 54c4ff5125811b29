/-
  Purse: the law PurseNames: the walk's middle part. Conditions: texts within bounds.
-/
import Derived.Test.YtliofpihaemglaaPuH
namespace Go.HL.Pu
open Go.HL Go.HL.Nm Go.Proofs
set_option maxRecDepth 4000
set_option linter.unusedSimpArgs false
set_option linter.unusedVariables false
def mineK (l : List Int) (i : Int) : Bool := l.any fun n => decide (n = i)
theorem mine_take {l : List Int} (i : Int) {k : Nat} (h : k < l.length) : mineK (l.take (k + 1)) i = (mineK (l.take k) i || decide (l[k] = i)) := by
  unfold mineK
  rw [take_snoc h, List.any_append]
  simp
def clsT (S : World → Prop) : List Value → World → Prop
  | [], w => S w
  | r :: _, w => r = .bool true ∧ S w
@[simp] theorem clsT_nil (S : World → Prop) (w : World) : clsT S [] w = S w := rfl
@[simp] theorem clsT_cons (S : World → Prop) (v : Value) (l : List Value) (w : World) : clsT S (v :: l) w = (v = .bool true ∧ S w) := rfl
theorem clsT_low {S : World → Prop} {vs : List Value} {w : World} (h : clsT S vs w) : S w := by
  cases vs with
  | nil => exact h
  | cons _ _ => exact h.2
theorem names_mid (names : Value) (ask : List UInt8) (rows : List Ac) (p : Nat) (v4 v5 v6 v7 v8 v9 v10 v11 v12 v13 v14 v15 v16 v17 v18 v19 v20 v21 v22 v23 v24 : Value) (w0 w : World) (A A0 : Asn) (hA : ∀ w, St w0 A w → St w0 A0 w) (ha : ask.length ≤ 1048576) (hg : Gd rows)
    (s : St w0 (A * pur p ⟨64, rows, 0, 0⟩ * own 9 1 v5 rows.length (strs rows)) w) :
    HC.wp U1 h3_40 (endQ Try.prog [RV.slot 2] fun r w' => r = Value.bool true ∧ St w0 A0 w')
      [names, .string (mk ask), .bool false, .pointer (some ⟨p, 0, none⟩), v4, v5, v6, v7, v8, v9, v10, v11, v12, v13, v14, v15, v16, v17, v18, v19, v20, v21, v22, v23, v24] w := by
  have hlen := hg.len
  obtain ⟨g, cap, rfl, _, _⟩ := s.own_at (by omega)
  simp
  refine loopI (fun env w' => ∃ (i : Nat) (o14 o15 o16 o17 o18 : Value), env = [names, .string (mk ask), .bool false, .pointer (some ⟨p, 0, none⟩), v4, .slice (some ⟨g, 0, none⟩) rows.length cap, v6, v7, v8, v9, v10, v11, v12, .int .i64 i, o14, o15, o16, o17, o18, v19, v20, v21, v22, v23, v24] ∧ i ≤ rows.length ∧
      St w0 (A * pur p ⟨64, rows, 0, 0⟩ * own 9 1 (.slice (some ⟨g, 0, none⟩) rows.length cap) rows.length (strs rows)) w')
    (fun env _ => rows.length - slotN env 13) ⟨0, _, _, _, _, _, rfl, by omega, s⟩ ?_
  clear s
  rintro LQ env w' ⟨i, o14, o15, o16, o17, o18, rfl, hi, s⟩ hN hE hR
  simp
  refine cndI (fun h => ?_) (fun h => ?_)
  · simp at h
    have h : i < rows.length := by omega
    obtain ⟨_, _, hv, _, hcell⟩ := s.own_at (by omega)
    cases hv
    have hnl := hg.names i h
    simp [h]
    refine eff_ldc (hcell i _ (strs_at h)) ?_
    simp
    refine eff_call ((Fold_spec rows[i].name w0 w' _ hnl s).mono ?_)
    rintro r w1 ⟨rfl, s1⟩
    simp
    have hfs := fold_short rows[i].name
    refine eff_call ((Find_spec p ⟨64, rows, 0, 0⟩ (keyF rows[i].name) w0 w1 (A * own 9 1 (.slice (some ⟨g, 0, none⟩) rows.length cap) rows.length (strs rows)) (by unfold keyF; omega) (s1.to (by ac_rfl))).mono ?_)
    rintro r w2 ⟨rfl, s2⟩
    have hik : i < (keys rows).length := by simpa [keys] using h
    have hk : keyF (keyF rows[i].name) = (keys rows)[i] := by rw [key_key]; simp [keys]
    obtain ⟨hb, hn⟩ := askN_at hg.keys hik
    rw [hk, hb, hn]
    simp [h]
    have s3 := s2.swap
    clear s s1 s2
    obtain ⟨_, _, hv, _, hcell⟩ := s3.own_at (by omega)
    cases hv
    refine eff_ldc (hcell i _ (strs_at h)) ?_
    simp
    refine eff_call ((Near_spec p ⟨64, rows, 0, 0⟩ rows[i].name w0 w2 (A * own 9 1 (.slice (some ⟨g, 0, none⟩) rows.length cap) rows.length (strs rows)) hnl hlen.2 hg.names (s3.to (by ac_rfl))).mono ?_)
    intro r w3 s4
    have hmem := fun n => near_mem (x := rows[i].name) (l := rows) (j := 0) (n := n)
    have hhas := near_has (x := rows[i].name) (j := 0) h rfl
    have hup := near_up rows[i].name rows 0
    have hnn := nearF_len rows rows[i].name 0
    simp only [Nat.zero_add] at hmem hhas
    generalize nearF rows rows[i].name 0 = N at *
    have hNp : 0 < N.length := List.length_pos_of_mem hhas
    obtain ⟨ng, ncap, rfl, _, _⟩ := s4.own_at hNp
    simp
    have s5 := s4.to (B := A * pur p ⟨64, rows, 0, 0⟩ * own 3 1 (.slice (some ⟨ng, 0, none⟩) N.length ncap) N.length (ints N) * own 9 1 (.slice (some ⟨g, 0, none⟩) rows.length cap) rows.length (strs rows)) (by ac_rfl)
    clear s4 s3
    refine loopI (fun env w' => ∃ (k : Nat), env = [names, .string (mk ask), .bool false, .pointer (some ⟨p, 0, none⟩), v4, .slice (some ⟨g, 0, none⟩) rows.length cap, v6, v7, v8, v9, v10, v11, v12, .int .i64 i, .int .i64 i, .bool true, .slice (some ⟨ng, 0, none⟩) N.length ncap, .bool (mineK (N.take k) i), .int .i64 k, v19, v20, v21, v22, v23, v24] ∧ k ≤ N.length ∧
        St w0 (A * pur p ⟨64, rows, 0, 0⟩ * own 3 1 (.slice (some ⟨ng, 0, none⟩) N.length ncap) N.length (ints N) * own 9 1 (.slice (some ⟨g, 0, none⟩) rows.length cap) rows.length (strs rows)) w')
      (fun env _ => N.length - slotN env 18) ⟨0, by simp [mineK], by omega, s5⟩ ?_
    clear s5
    rintro LQ2 env w4 ⟨k, rfl, hk2, s⟩ hN2 hE2 hR2
    simp
    refine cndI (fun h2 => ?_) (fun h2 => ?_)
    · have h20 := h2
      simp at h20
      simp at h2
      have h2 : k < N.length := by omega
      have after : ∀ w, St w0 (A * pur p ⟨64, rows, 0, 0⟩ * own 3 1 (.slice (some ⟨ng, 0, none⟩) N.length ncap) N.length (ints N) * own 9 1 (.slice (some ⟨g, 0, none⟩) rows.length cap) rows.length (strs rows)) w →
          HC.wp U1 h3_26 (blockQ 8 (seqQ U1 h3_24 LQ2)) [names, .string (mk ask), .bool false, .pointer (some ⟨p, 0, none⟩), v4, .slice (some ⟨g, 0, none⟩) rows.length cap, v6, v7, v8, v9, v10, v11, v12, .int .i64 i, .int .i64 i, .bool true, .slice (some ⟨ng, 0, none⟩) N.length ncap, .bool (mineK (N.take (k + 1)) i), .int .i64 k, v19, v20, v21, v22, v23, v24] w := by
        intro w s
        generalize hS : (A * pur p ⟨64, rows, 0, 0⟩ * own 3 1 (.slice (some ⟨ng, 0, none⟩) N.length ncap) N.length (ints N) * own 9 1 (.slice (some ⟨g, 0, none⟩) rows.length cap) rows.length (strs rows)) = S at s
        have hcI : ∀ {w}, St w0 S w → ∀ j u, (ints N)[j]? = some u → w.cell? ⟨ng, j, none⟩ = some u := fun h => by
          rw [← hS] at h
          obtain ⟨_, _, hv, _, hc⟩ := h.drop.own_at hNp
          cases hv; exact hc
        have hcS : ∀ {w}, St w0 S w → ∀ j u, (strs rows)[j]? = some u → w.cell? ⟨g, j, none⟩ = some u := fun h => by
          rw [← hS] at h
          obtain ⟨_, _, hv, _, hc⟩ := h.own_at (by omega)
          cases hv; exact hc
        obtain ⟨j, hj, hjl, hjs⟩ := hmem N[k] (List.getElem_mem h2)
        have eN : ∀ {w}, St w0 S w → w.cell? ⟨ng, k, none⟩ = some (.int .i64 j) := fun h => by rw [hcI h k _ (ints_at h2), hj]
        simp
        have hjr : ¬ rows.length ≤ j := Nat.not_le.2 hjl
        refine brmI (clsT (St w0 S)) s.drew ?_
        simp [h20]
        refine effm_ldc (v := .int .i64 j) (fun vs' w he hw => eN (clsT_low hw)) ?_
        simp [h20]
        refine effm_ldc (v := .int .i64 j) (fun vs' w he hw => by have := eN (clsT_low hw); simpa [addr_add] using this) ?_
        simp [h20, hjr, hjl]
        refine effm_ldc (v := .int .i64 j) (fun vs' w he hw => eN (clsT_low hw)) ?_
        simp [hjl]
        refine effm_ldc (v := .string (mk rows[j].name)) (fun vs' w he hw => hcS (clsT_low hw) j _ (strs_at hjl)) ?_
        simp [h]
        refine effm_ldc (v := .string (mk rows[i].name)) (fun vs' w he hw => hcS (clsT_low hw) i _ (strs_at h)) ?_
        simp
        refine effm_mv rfl (fun w hw => eff_call ((alike_spec rows[j].name rows[i].name w0 w S (hg.names j hjl) hnl hw).mono fun r w' h => ?_)) (fun r hr => ?_)
        · obtain ⟨rfl, h⟩ := h
          have e : (encAll (lookF rows[j].name) == encAll (lookF rows[i].name)) = true := by
            have : encAll (lookF rows[j].name) = encAll (lookF rows[i].name) := hjs
            simp [this]
          exact ⟨by rw [e], h⟩
        obtain ⟨_, rfl, _⟩ := hr
        simp
        refine ⟨fun _ => h2, ?_⟩
        by_cases hk0 : 0 < k
        · obtain ⟨k', rfl⟩ : ∃ k', k = k' + 1 := ⟨k - 1, by omega⟩
          have hk' : k' < N.length := by omega
          have hlt : N[k'] < N[k' + 1] := List.pairwise_iff_getElem.1 hup k' (k' + 1) hk' h2 (by omega)
          have hwk : IntKind.i64.wrap ((k' : Int)) = k' := wrap64 (by omega) (by omega)
          simp
          refine effm_ldc (v := .int .i64 j) (fun vs' w he hw => by have := eN (clsT_low hw); simpa [addr_add] using this) ?_
          simp [hwk]
          refine ⟨hk', ?_⟩
          refine effm_ldc (v := .int .i64 N[k']) (fun vs' w he hw => hcI (clsT_low hw) k' _ (ints_at hk')) ?_
          have hle : ¬ (j : Int) ≤ N[k'] := by rw [← hj]; omega
          simp [hle]
          intro w9 s9
          try simp (disch := omega) only [wrap64]
          refine hN2 _ _ ⟨k' + 1 + 1, by simp, by omega, by rw [hS]; exact s9⟩ (by simp [slotN]; omega)
        · have hk1 : k = 0 := by omega
          subst hk1
          simp
          intro w9 s9
          try simp (disch := omega) only [wrap64]
          refine hN2 _ _ ⟨1, by simp, by omega, by rw [hS]; exact s9⟩ (by simp [slotN]; omega)
      have hmt := mine_take (l := N) i h2
      have h2n : (ints N)[k]? = some (.int .i64 N[k]) := ints_at h2
      simp
      cases hb : mineK (N.take k) i with
      | true =>
        rw [hb] at hmt
        have := after w4 s
        rw [hmt] at this
        simp
        simpa using this
      | false =>
        rw [hb] at hmt
        obtain ⟨_, _, hv, _, hc⟩ := s.drop.own_at hNp
        cases hv
        simp [h20]
        refine eff_ldc (hc k _ h2n) ?_
        have := after w4 s
        rw [hmt] at this
        simp at this
        simp
        simpa using this
    simp at h2
    simp
    refine hE2 _ _ _ ?_
    have hke : k = N.length := by omega
    subst hke
    rw [List.take_length]
    have hmine : mineK N i = true := by
      unfold mineK
      exact List.any_eq_true.2 ⟨i, hhas, by simp⟩
    rw [hmine]
    simp
    try simp (disch := omega) only [wrap64]
    exact hN _ _ ⟨i + 1, _, _, _, _, _, by simp; exact ⟨rfl, rfl, rfl, rfl, rfl⟩, by omega, St.cut (own 3 1 (.slice (some ⟨ng, 0, none⟩) N.length ncap) N.length (ints N)) s (by ac_rfl)⟩ (by simp [slotN]; omega)
  simp at h
  simp
  refine hE _ _ _ ?_
  simpa using names_tail names ask rows p _ _ _ _ _ _ _ _ _ _ _ _ _ _ _ _ _ _ _ _ _ w0 w' A A0 hA ha hg s
end Go.HL.Pu
