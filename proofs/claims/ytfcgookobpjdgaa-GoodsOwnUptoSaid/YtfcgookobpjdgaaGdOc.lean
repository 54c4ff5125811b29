/-
  Goods: the law GoodsOwn: the walk's second part. Conditions: so many acts at most.
-/
import Derived.Test.YtfcgookobpjdgaaGdOb
namespace Go.HL.Gd
open Go.HL Go.Proofs
set_option maxRecDepth 4000
set_option linter.unusedSimpArgs false
set_option linter.unusedVariables false
theorem own_more (lim lm who : Int) (more : List Ac) (its : List It) (p q c : Nat) (a1 a2 v7 v8 wv v12 v13 v14 v15 v16 v18 v19 v20 : Value) (R L W : Nat → Value) (Z : Nat → List Int) (w0 w : World) (A A0 : Asn) (hA : ∀ w, St w0 A w → St w0 A0 w)
    (hl1 : more.length ≤ 1048576) (hr2 : Row w0 A a2 more.length 3 (acs more)) (hg : GI lm its)
    (hw : Row w0 A wv its.length 4 (flat its)) (hr : Row w0 A v13 3 1 ((List.range 3).map R)) (hls : Row w0 A v14 6 1 ((List.range 6).map L)) (hz : Row w0 A v15 6 1 ((List.range 6).map W))
    (hW : ∀ j, j < 6 → Row w0 A (W j) (Z j).length 1 (ints (Z j))) (hZ : ∀ j, (Z j).length ≤ 1048576) (z0 : Z 0 = ofF its who) (z2 : Z 2 = inF its who)
    (s : St w0 (A * gds p lm its * gds q lm its * gds c lm its * rowsA R its * listsA L Z) w) :
    HC.wp G2 h5_26 (endQ Try.prog [RV.slot 4] fun r w' => r = Value.bool true ∧ St w0 A0 w')
      [.int .i64 lim, a1, a2, .int .i64 who, .bool false, .pointer (some ⟨p, 0, none⟩), .int .i64 0, v7, v8, .pointer (some ⟨q, 0, none⟩), .int .i64 0, wv, v12, v13, v14, v15, v16, .pointer (some ⟨c, 0, none⟩), v18, v19, v20] w := by
  have hlen := hg.len
  have hlim := hg.lim
  have hlenX : its.length ≤ 512 := by omega
  obtain ⟨xa2, xc2, rfl⟩ := hr2.val
  generalize hRs : rowsA R its = RS at s
  generalize hLs : listsA L Z = LS at s
  simp
  refine loopI (fun env w' => ∃ (i : Nat) (it : List It), env = [.int .i64 lim, a1, .slice xa2 more.length xc2, .int .i64 who, .bool false, .pointer (some ⟨p, 0, none⟩), .int .i64 0, v7, v8, .pointer (some ⟨q, 0, none⟩), .int .i64 0, wv, v12, v13, v14, v15, v16, .pointer (some ⟨c, 0, none⟩), .int .i64 i, v19, v20] ∧ i ≤ more.length ∧ GI lm it ∧
      St w0 (A * gds p lm its * gds q lm it * gds c lm it * RS * LS) w')
    (fun env _ => more.length - slotN env 18) ⟨0, its, rfl, by omega, hg, s⟩ ?_
  clear s
  rintro LQ env w' ⟨i, it, rfl, hi, hgi, s⟩ hN hE hR
  have hleni := hgi.len
  simp
  refine cndI (fun h => ?_) (fun h => ?_)
  · simp at h
    obtain ⟨g, o, cap', hv, hc⟩ := hr2.at (by omega)
    cases hv
    have hg2 := gi_act hgi more[i]
    simp [h]
    refine eff_ldcs (vs := more[i].cs) (fun j u hu => by rw [Nat.add_assoc]; exact hc _ s.drop.drop.drop.drop.drop _ _ (acs_at h j u hu)) rfl ?_
    simp
    refine eff_call ((do_spec c lm it more[i] w0 w' (A * gds p lm its * gds q lm it * RS * LS) (by omega) hlim (s.to (by ac_rfl))).mono ?_)
    rintro r w1 ⟨rfl, s1⟩
    simp [h]
    generalize hit2 : (actF lm it more[i]).2 = it2 at *
    refine eff_ldcs (vs := more[i].cs) (fun j u hu => by rw [Nat.add_assoc]; exact hc _ s1.drop.drop.drop.drop.drop _ _ (acs_at h j u hu)) rfl ?_
    simp
    refine eff_call ((do_spec q lm it more[i] w0 w1 (A * gds p lm its * gds c lm it2 * RS * LS) (by omega) hlim (s1.to (by ac_rfl))).mono ?_)
    rintro r w2 ⟨rfl, s2⟩
    simp
    rw [hit2] at s2
    try simp (disch := omega) only [wrap64]
    exact hN _ _ ⟨i + 1, it2, by simp, by omega, hg2, s2.to (by ac_rfl)⟩ (by simp [slotN]; omega)
  simp at h
  simp
  refine hE _ _ _ ?_
  simp
  subst hRs hLs
  simpa using own_rows lim lm who its it p q c a1 _ v7 v8 wv v12 v13 v14 v15 v16 _ v19 v20 R L W Z w0 w' A A0 hA hw hr hls hz hW hZ z0 z2 hlenX (by omega) s
def ownO (Z : Nat → List Int) (j : Nat) : Option Value → Asn
  | none => emp
  | some v => own 3 1 v (Z j).length (ints (Z j))
theorem own_none (Z : Nat → List Int) : ∀ n, bigA (ownO Z) (fun _ => none) n = emp
  | 0 => rfl
  | n + 1 => by
    show bigA (ownO Z) (fun _ => none) n * emp = emp
    rw [own_none Z n, sep_emp]
theorem own_were (lim lm who : Int) (more : List Ac) (its : List It) (p q : Nat) (a1 a2 v7 v8 wv v12 v13 v14 v15 v16 v17 v18 v19 v20 : Value) (R L : Nat → Value) (Z : Nat → List Int) (w0 w : World) (A A0 : Asn) (hA : ∀ w, St w0 A w → St w0 A0 w)
    (hl1 : more.length ≤ 1048576) (hr2 : Row w0 A a2 more.length 3 (acs more)) (hg : GI lm its)
    (hw : Row w0 A wv its.length 4 (flat its)) (hr : Row w0 A v13 3 1 ((List.range 3).map R)) (hls : Row w0 A v14 6 1 ((List.range 6).map L))
    (hZ : ∀ j, (Z j).length ≤ 1048576) (z0 : Z 0 = ofF its who) (z2 : Z 2 = inF its who)
    (s : St w0 (A * gds p lm its * gds q lm its * rowsA R its * listsA L Z) w) :
    HC.wp G2 h5_35 (endQ Try.prog [RV.slot 4] fun r w' => r = Value.bool true ∧ St w0 A0 w')
      [.int .i64 lim, a1, a2, .int .i64 who, .bool false, .pointer (some ⟨p, 0, none⟩), .int .i64 0, v7, v8, .pointer (some ⟨q, 0, none⟩), .int .i64 0, wv, v12, v13, v14, v15, v16, v17, v18, v19, v20] w := by
  have hlen := hg.len
  have hlim := hg.lim
  obtain ⟨g, o, cap, rfl, hc⟩ := hls.at (by omega)
  generalize hRs : rowsA R its = RS at s
  have s1 : St w0 (A * gds p lm its * gds q lm its * RS * listsA L Z * bigA (ownO Z) (fun _ => none) 6) w := by rw [own_none, sep_emp]; exact s
  simp
  refine loopI (fun env w' => ∃ (i : Nat) (G : Nat → Option Value) (lv : Value), env = [.int .i64 lim, a1, a2, .int .i64 who, .bool false, .pointer (some ⟨p, 0, none⟩), .int .i64 0, v7, v8, .pointer (some ⟨q, 0, none⟩), .int .i64 0, wv, v12, v13, .slice (some ⟨g, o, none⟩) 6 cap, lv, .int .i64 i, v17, v18, v19, v20] ∧ i ≤ 6 ∧
      (∀ j, j < i → ∃ g, G j = some g) ∧ (∀ j, i ≤ j → G j = none) ∧ St w0 (A * gds p lm its * gds q lm its * RS * listsA L Z * bigA (ownO Z) G 6 * own 46 1 lv i ((List.range i).map fun j => gv (G j))) w')
    (fun env _ => 6 - slotN env 16) ⟨0, fun _ => none, _, rfl, by omega, fun j hj => by omega, fun _ _ => rfl, s1.own_nil _ _⟩ ?_
  clear s s1
  rintro LQ env w' ⟨i, G, lv, rfl, hi, hG1, hG2, s⟩ hN hE hR
  simp
  refine cndI (fun h => ?_) (fun h => ?_)
  · have h0 := h
    simp at h0
    simp at h
    have h : i < 6 := by omega
    simp
    refine eff_bsl0 s ?_
    intro x0 w1 s1
    simp [h0]
    refine eff_ldc (hc w1 s1.drop.drop.drop.drop.drop.drop.drop i _ (range_at h)) ?_
    simp
    have hzl := hZ i
    refine eff_appR s1 (row_in (e := 3) (B := A * gds p lm its * gds q lm its * RS * bigH (fun j zs => own 3 1 (L j) (Z j).length (ints zs)) Z i 6 * bigA (ownO Z) G 6 * own 46 1 lv i ((List.range i).map fun j => gv (G j)) * own 3 1 x0 0 []) s1 (by rw [lists_one L Z h]; ac_rfl)) (ints_one _) (by decide) rfl (by unfold maxLen; omega) (by omega) ?_
    intro x1 w2 s2
    have s2 : St w0 (A * gds p lm its * gds q lm its * RS * listsA L Z * bigA (ownO Z) G 6 * own 46 1 lv i ((List.range i).map fun j => gv (G j)) * own 3 1 x1 (Z i).length (ints (Z i))) w2 := by simpa using s2
    obtain ⟨xa, xc, hx1, _⟩ := s2.own_val
    simp
    refine eff_bsl1 s2 (by rw [hx1]; rfl) ?_
    intro b w3 s3
    simp
    have s3' := s3.to (B := A * gds p lm its * gds q lm its * RS * listsA L Z * bigA (ownO Z) G 6 * own 3 1 x1 (Z i).length (ints (Z i)) * pt b (.cells #[x1] 46 (0, 0)) * own 46 1 lv i ((List.range i).map fun j => gv (G j))) (by ac_rfl)
    refine eff_app (m := 1) (news := [x1]) s3' rfl s3.cells_look (by rw [hx1]; simp [Value.oneCell']) (by decide) rfl (by unfold maxLen; omega) (by omega) ?_
    intro lv2 w4 s4
    rw [gv_succ] at s4
    simp
    try simp (disch := omega) only [wrap64]
    refine hN _ _ ⟨i + 1, upF G i (some x1), lv2, by simp, by omega, fun j hj => ?_, fun j hj => ?_, ?_⟩ (by simp [slotN]; omega)
    · by_cases e : j = i
      · subst e; exact ⟨_, upF_at _ _ _⟩
      · rw [upF_ne _ _ e]; exact hG1 j (by omega)
    · rw [upF_ne _ _ (by omega)]; exact hG2 j (by omega)
    · rw [big_set h]
      rw [big_at h, hG2 i (Nat.le_refl i)] at s4
      simp only [ownO, sep_emp] at s4 ⊢
      exact St.cut (pt b (.cells #[x1] 46 (0, 0))) s4 (by ac_rfl)
  simp at h
  simp
  refine hE _ _ _ ?_
  simp
  have hi6 : i = 6 := by omega
  subst hi6
  refine eff_call ((Copy_spec p lm its w0 w' (A * gds q lm its * RS * listsA L Z * bigA (ownO Z) G 6 * own 46 1 lv 6 ((List.range 6).map fun j => gv (G j))) (by omega) (s.to (by ac_rfl))).mono ?_)
  rintro r w2 ⟨c, rfl, s2⟩
  simp
  subst hRs
  have s3 := s2.to (B := A * bigA (ownO Z) G 6 * own 46 1 lv 6 ((List.range 6).map fun j => gv (G j)) * gds p lm its * gds q lm its * gds c lm its * rowsA R its * listsA L Z) (by ac_rfl)
  have s4 := s3.drop.drop.drop.drop.drop
  have hWs : ∀ j, j < 6 → Row w0 (A * bigA (ownO Z) G 6 * own 46 1 lv 6 ((List.range 6).map fun j => gv (G j))) (gv (G j)) (Z j).length 1 (ints (Z j)) := fun j hj => by
    obtain ⟨y, hy⟩ := hG1 j hj
    refine row_in (e := 3) (B := A * bigH (ownO Z) G j 6 * own 46 1 lv 6 ((List.range 6).map fun j => gv (G j))) s4 ?_
    rw [big_at hj, hy]
    simp only [ownO, gv, Option.getD_some]
    ac_rfl
  simpa using own_more lim lm who more its p q c a1 a2 v7 v8 wv v12 v13 _ lv _ v18 v19 v20 R L (fun j => gv (G j)) Z w0 w2 _ A0 (fun w s => hA w s.drop.drop) hl1 (hr2.mono fun w s => s.drop.drop) hg (hw.mono fun w s => s.drop.drop) (hr.mono fun w s => s.drop.drop) (hls.mono fun w s => s.drop.drop) (row_own s4) hWs hZ z0 z2 s3
end Go.HL.Gd
