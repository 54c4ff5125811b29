/-
  Goods: the law GoodsOwn: the walk's beginning. Conditions: so many acts at most.
-/
import Derived.Test.YtfcgookobpjdgaaGdOc
namespace Go.HL.Gd
open Go.HL Go.Proofs
set_option maxRecDepth 4000
set_option linter.unusedSimpArgs false
set_option linter.unusedVariables false
theorem one_cells {x : Value} (h : x.oneCell' = true) : x.cells = #[x] := by cases x <;> first | rfl | (simp [Value.oneCell'] at h)
theorem own_one {w0 w : World} {F : Asn} {e size n : Nat} {v : Value} {xs : List Value} (s : St w0 (F * own e size v n xs) w) : v.oneCell' = true := by
  obtain ⟨a, c, rfl, _⟩ := s.own_val
  rfl
theorem eff_bsl3 {P : Program} {K : Value → World → Prop} {w w0 : World} {F : Asn} {e : Nat} {z x0 x1 x2 : Value} (s : St w0 F w) (h0 : x0.oneCell' = true) (h1 : x1.oneCell' = true) (h2 : x2.oneCell' = true)
    (hk : ∀ v w', St w0 (F * own e 1 v 3 [x0, x1, x2]) w' → K v w') : EffW P (.bsl e 3 1 #[z] [0, 1, 2]) [x0, x1, x2] K w := by
  refine eff_bsl (cells := #[x0, x1, x2]) s ?_ fun b w' s' => hk _ w' (s'.own_mk (Nat.le_refl 3) (by decide) rfl rfl)
  rw [zrow]
  simp [Instr.fill, one_cells h0, one_cells h1, one_cells h2]
theorem eff_bsl6 {P : Program} {K : Value → World → Prop} {w w0 : World} {F : Asn} {e : Nat} {z x0 x1 x2 x3 x4 x5 : Value} (s : St w0 F w) (h0 : x0.oneCell' = true) (h1 : x1.oneCell' = true) (h2 : x2.oneCell' = true) (h3 : x3.oneCell' = true) (h4 : x4.oneCell' = true) (h5 : x5.oneCell' = true)
    (hk : ∀ v w', St w0 (F * own e 1 v 6 [x0, x1, x2, x3, x4, x5]) w' → K v w') : EffW P (.bsl e 6 1 #[z] [0, 1, 2, 3, 4, 5]) [x0, x1, x2, x3, x4, x5] K w := by
  refine eff_bsl (cells := #[x0, x1, x2, x3, x4, x5]) s ?_ fun b w' s' => hk _ w' (s'.own_mk (Nat.le_refl 6) (by decide) rfl rfl)
  rw [zrow]
  simp [Instr.fill, one_cells h0, one_cells h1, one_cells h2, one_cells h3, one_cells h4, one_cells h5]
theorem own_start (lim lm who : Int) (more : List Ac) (its : List It) (p q : Nat) (a1 a2 v7 v8 wv v12 v13 v14 v15 v16 v17 v18 v19 v20 : Value) (w0 w : World) (A A0 : Asn) (hA : ∀ w, St w0 A w → St w0 A0 w)
    (hl1 : more.length ≤ 1048576) (hr2 : Row w0 A a2 more.length 3 (acs more)) (hg : GI lm its)
    (hw : Row w0 A wv its.length 4 (flat its))
    (s : St w0 (A * gds p lm its * gds q lm its) w) :
    HC.wp G2 h5_37 (endQ Try.prog [RV.slot 4] fun r w' => r = Value.bool true ∧ St w0 A0 w')
      [.int .i64 lim, a1, a2, .int .i64 who, .bool false, .pointer (some ⟨p, 0, none⟩), .int .i64 0, v7, v8, .pointer (some ⟨q, 0, none⟩), .int .i64 0, wv, v12, v13, v14, v15, v16, v17, v18, v19, v20] w := by
  have hlen := hg.len
  have hlim := hg.lim
  have hl512 : its.length ≤ 512 := by omega
  simp
  refine eff_call ((Rows_spec p lm its w0 w (A * gds q lm its) (by omega) (s.to (by ac_rfl))).mono ?_)
  intro r0 w1 s1
  simp
  refine eff_call ((Rows_spec p lm its w0 w1 (A * gds q lm its * own 44 4 r0 its.length (flat its)) (by omega) (s1.to (by ac_rfl))).mono ?_)
  intro r1 w2 s2
  simp
  refine eff_call ((Rows_spec q lm its w0 w2 (A * gds p lm its * own 44 4 r0 its.length (flat its) * own 44 4 r1 its.length (flat its)) (by omega) (s2.to (by ac_rfl))).mono ?_)
  intro r2 w3 s3
  simp
  have t3 : St w0 (A * gds p lm its * gds q lm its * rowsA (R3 r0 r1 r2) its) w3 := by
    rw [rowsA, big3]; exact s3.to (by simp only [R3]; ac_rfl)
  refine eff_bsl3 t3 (own_one s1) (own_one s2) (own_one s3) ?_
  intro rv w4 s4
  simp
  clear s s1 s2 s3 t3
  generalize hRs : rowsA (R3 r0 r1 r2) its = RS at s4
  generalize hRh : own 30 1 rv 3 [r0, r1, r2] = RH at s4
  refine eff_call ((Of_spec p lm its who w0 w4 (A * gds q lm its * RS * RH) (by omega) (s4.to (by ac_rfl))).mono ?_)
  intro l0 w5 s5
  simp
  refine eff_call ((Of_spec p lm its who w0 w5 (A * gds q lm its * RS * RH * own 3 1 l0 (ofF its who).length (ints (ofF its who))) (by omega) (s5.to (by ac_rfl))).mono ?_)
  intro l1 w6 s6
  simp
  refine eff_call ((In_spec p lm its who w0 w6 (A * gds q lm its * RS * RH * own 3 1 l0 (ofF its who).length (ints (ofF its who)) * own 3 1 l1 (ofF its who).length (ints (ofF its who))) (by omega) (s6.to (by ac_rfl))).mono ?_)
  intro l2 w7 s7
  simp
  refine eff_call ((In_spec p lm its who w0 w7 (A * gds q lm its * RS * RH * own 3 1 l0 (ofF its who).length (ints (ofF its who)) * own 3 1 l1 (ofF its who).length (ints (ofF its who)) * own 3 1 l2 (inF its who).length (ints (inF its who))) (by omega) (s7.to (by ac_rfl))).mono ?_)
  intro l3 w8 s8
  simp
  refine eff_call ((Of_spec q lm its who w0 w8 (A * gds p lm its * RS * RH * own 3 1 l0 (ofF its who).length (ints (ofF its who)) * own 3 1 l1 (ofF its who).length (ints (ofF its who)) * own 3 1 l2 (inF its who).length (ints (inF its who)) * own 3 1 l3 (inF its who).length (ints (inF its who))) (by omega) (s8.to (by ac_rfl))).mono ?_)
  intro l4 w9 s9
  simp
  refine eff_call ((In_spec q lm its who w0 w9 (A * gds p lm its * RS * RH * own 3 1 l0 (ofF its who).length (ints (ofF its who)) * own 3 1 l1 (ofF its who).length (ints (ofF its who)) * own 3 1 l2 (inF its who).length (ints (inF its who)) * own 3 1 l3 (inF its who).length (ints (inF its who)) * own 3 1 l4 (ofF its who).length (ints (ofF its who))) (by omega) (s9.to (by ac_rfl))).mono ?_)
  intro l5 w10 s10
  simp
  have t4 : St w0 (A * gds p lm its * gds q lm its * RS * RH * listsA (L6 l0 l1 l2 l3 l4 l5) (Z6 (ofF its who) (inF its who))) w10 := by
    rw [listsA, big6]; exact s10.to (by simp only [L6, Z6]; ac_rfl)
  refine eff_bsl6 t4 (own_one s5) (own_one s6) (own_one s7) (own_one s8) (own_one s9) (own_one s10) ?_
  intro lv w11 s11
  clear s5 s6 s7 s8 s9 s10 t4
  simp
  subst hRs hRh
  have t5 : St w0 (A * own 30 1 rv 3 ((List.range 3).map (R3 r0 r1 r2)) * own 46 1 lv 6 ((List.range 6).map (L6 l0 l1 l2 l3 l4 l5)) * gds p lm its * gds q lm its * rowsA (R3 r0 r1 r2) its * listsA (L6 l0 l1 l2 l3 l4 l5) (Z6 (ofF its who) (inF its who))) w11 := by
    have e1 : (List.range 3).map (R3 r0 r1 r2) = [r0, r1, r2] := rfl
    have e2 : (List.range 6).map (L6 l0 l1 l2 l3 l4 l5) = [l0, l1, l2, l3, l4, l5] := rfl
    rw [e1, e2]
    exact s11.to (by ac_rfl)
  have t6 := t5.drop.drop.drop.drop
  have hz := of_len hl512 who
  have hz' := in_len hl512 who
  simpa using own_were lim lm who more its p q a1 a2 v7 v8 wv v12 rv lv v15 v16 v17 v18 v19 v20 _ _ (Z6 (ofF its who) (inF its who)) w0 w11 _ A0 (fun w s => hA w s.drop.drop) hl1 (hr2.mono fun w s => s.drop.drop) hg (hw.mono fun w s => s.drop.drop) (row_own t6.drop |>.mono fun w s => s.drop) (row_own t6) (fun j => by match j with | 0 => exact hz | 1 => exact hz | 2 => exact hz' | 3 => exact hz' | 4 => exact hz | _ + 5 => exact hz') rfl rfl t5
theorem goodsOwn_walk (lim : Int) (acts more : List Ac) (who : Int) (v1 v2 : Value) (w0 w : World) (A : Asn) (hn : -9223372036854775808 ≤ lim ∧ lim ≤ 9223372036854775807) (hwho : -9223372036854775808 ≤ who ∧ who ≤ 9223372036854775807) (hl1 : acts.length ≤ 1048576) (hl2 : more.length ≤ 1048576)
    (hr1 : Row w0 A v1 acts.length 3 (acs acts)) (hr2 : Row w0 A v2 more.length 3 (acs more)) (s : St w0 A w) :
    CallW Try.prog 5 [.int .i64 lim, v1, v2, .int .i64 who] (fun r w' => r = .bool true ∧ St w0 A w') w := by
  obtain ⟨a1, cap1, rfl⟩ := hr1.val
  obtain ⟨a2, cap2, rfl⟩ := hr2.val
  refine callW_of_lift l5_ok (by simp [l5]) ?_
  simp [l5]
  refine eff_call ((known_spec w0 w A s).mono ?_)
  rintro r w1 ⟨rfl, s1⟩
  simp
  refine eff_call ((place_spec lim 513 w1 (by omega) (by omega)).mono ?_)
  rintro r w2 ⟨rfl, rfl⟩
  simp
  have hp := place_bd lim 513 (by omega)
  generalize placeF lim 513 = lm at hp ⊢
  refine eff_call ((New_spec lm w0 w2 A s1).mono ?_)
  intro r w3 h3
  rw [if_pos (by omega)] at h3
  obtain ⟨p, rfl, s3⟩ := h3
  simp
  refine loopI (fun env w' => ∃ (i : Nat) (its : List It), env = [.int .i64 lim, .slice a1 acts.length cap1, .slice a2 more.length cap2, .int .i64 who, .bool false, .pointer (some ⟨p, 0, none⟩), .int .i64 0, .int .i64 i, undef, undef, undef, undef, undef, undef, undef, undef, undef, undef, undef, undef, undef] ∧ i ≤ acts.length ∧ GI lm its ∧
      St w0 (A * gds p lm its) w')
    (fun env _ => acts.length - slotN env 7) ⟨0, [], rfl, by omega, gi_nil (by omega) (by omega), s3⟩ ?_
  clear s3 s1 s
  rintro LQ env w' ⟨i, its, rfl, hi, hg, s'⟩ hN hE hR
  have hlen := hg.len
  have hlim := hg.lim
  have hl512 : its.length ≤ 512 := by omega
  simp
  refine cndI (fun h => ?_) (fun h => ?_)
  · simp at h
    obtain ⟨g, o, cap', hv, hc⟩ := hr1.at (by omega)
    cases hv
    simp [h]
    refine eff_ldcs (vs := acts[i].cs) (fun j u hu => by rw [Nat.add_assoc]; exact hc _ s'.drop _ _ (acs_at h j u hu)) rfl ?_
    simp
    refine eff_call ((do_spec p _ its acts[i] w0 w' _ (by omega) hlim s').mono ?_)
    rintro r w5 ⟨rfl, s5⟩
    simp
    try simp (disch := omega) only [wrap64]
    exact hN _ _ ⟨i + 1, _, by simp, by omega, gi_act hg acts[i], s5⟩ (by simp [slotN]; omega)
  simp at h
  simp
  refine hE _ _ _ ?_
  simp
  clear hN hE hR h
  refine eff_call ((Rows_spec p lm its w0 w' A (by omega) s').mono ?_)
  intro gvn x1 t1
  clear s'
  simp
  refine eff_call ((Limit_spec p lm its w0 x1 (A * own 44 4 gvn its.length (flat its)) (t1.to (by ac_rfl))).mono ?_)
  rintro r x2 ⟨rfl, t2⟩
  clear t1
  simp
  have t2' := t2.swap
  refine eff_call ((Load_spec lm its gvn w0 x2 _ (by omega) (row_own t2') t2').mono ?_)
  intro r x3 h3
  rw [if_pos (load_ok hg)] at h3
  obtain ⟨q, rfl, t3⟩ := h3
  clear t2 t2'
  simp
  refine eff_bsl0 t3 ?_
  intro v0 x4 t4
  simp
  refine eff_appR t4 (row_in (e := 44) (B := A * gds p lm its * gds q lm its * own 44 4 v0 0 []) t4 (by ac_rfl)) (flat_one _) (by decide) rfl (by unfold maxLen; omega) (by omega) ?_
  intro wv x5 t5
  clear t3 t4
  have t5 : St w0 (A * gds p lm its * gds q lm its * own 44 4 wv its.length (flat its) * own 44 4 gvn its.length (flat its)) x5 := by
    have := t5.to (B := A * gds p lm its * gds q lm its * own 44 4 wv (0 + its.length) ([] ++ flat its) * own 44 4 gvn its.length (flat its)) (by ac_rfl)
    simpa using this
  simp
  obtain ⟨ga, gc, rfl, _⟩ := t5.own_val
  refine loopI (fun env w' => ∃ (k : Nat) (gs : List It), env = [.int .i64 lim, .slice a1 acts.length cap1, .slice a2 more.length cap2, .int .i64 who, .bool false, .pointer (some ⟨p, 0, none⟩), .int .i64 0, .int .i64 i, .slice ga its.length gc, .pointer (some ⟨q, 0, none⟩), .int .i64 0, wv, .int .i64 k, undef, undef, undef, undef, undef, undef, undef, undef] ∧ k ≤ its.length ∧ gs.length = its.length ∧
      St w0 (A * gds p lm its * gds q lm its * own 44 4 wv its.length (flat its) * own 44 4 (.slice ga its.length gc) its.length (flat gs)) w')
    (fun env _ => its.length - slotN env 12) ⟨0, its, rfl, by omega, rfl, t5⟩ ?_
  clear t5
  rintro LQ env w' ⟨k, gs, rfl, hk, hgs, s'⟩ hN hE hR
  simp
  refine cndI (fun h => ?_) (fun h => ?_)
  · simp at h
    obtain ⟨g, cap, hv, _⟩ := s'.own_at (by omega)
    cases hv
    simp [h, Instr.fill, Value.cells]
    have hfl := flat_len gs
    refine eff_stR (vs := It.cs ⟨-4, 0, 0, 0⟩) s' rfl rfl (cs_one _) (by omega) ?_
    intro w3 s3
    rw [show flat gs = gs.flatMap It.cs from rfl, flat_set It.cs 4 cs_len _ gs k (by omega)] at s3
    simp
    try simp (disch := omega) only [wrap64]
    exact hN _ _ ⟨k + 1, gs.set k ⟨-4, 0, 0, 0⟩, by simp, by omega, by simp [hgs], s3⟩ (by simp [slotN]; omega)
  simp at h
  simp
  refine hE _ _ _ ?_
  simp
  have s2 := s'.drop
  refine eff_call ((Rows_spec q lm its w0 w' (A * gds p lm its * own 44 4 wv its.length (flat its)) (by omega) (s2.to (by ac_rfl))).mono ?_)
  intro r w3 s3
  simp
  refine eff_call ((items_spec its its r wv w0 w3 (A * gds p lm its * own 44 4 wv its.length (flat its) * gds q lm its * own 44 4 r its.length (flat its)) (by omega) (row_own s3) (row_in (e := 44) (B := A * gds p lm its * gds q lm its * own 44 4 r its.length (flat its)) s3 (by ac_rfl)) s3).mono ?_)
  rintro r' w4 ⟨rfl, s4⟩
  simp
  have s5 := s4.drop.to (B := A * own 44 4 wv its.length (flat its) * gds p lm its * gds q lm its) (by ac_rfl)
  simpa using own_start lim lm who more its p q _ _ _ _ wv _ undef undef undef undef undef undef undef undef w0 w4 (A * own 44 4 wv its.length (flat its)) A (fun w s => s.drop) hl2 (hr2.mono fun w s => s.drop) hg (row_own s5.drop.drop) s5
end Go.HL.Gd
