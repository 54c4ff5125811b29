/-
  Wheel: the law of steps: its middle. No condition.
-/
import Derived.Test.YtngjaibngkhidaaWhX
namespace Go.HL.Wh
open Go.HL Go.Proofs
set_option maxRecDepth 4000
set_option linter.unusedSimpArgs false
set_option linter.unusedVariables false
set_option maxHeartbeats 1000000 in
theorem anew_part (p q to m1 m2 : Nat) (ts us : List Tm) (w0 w : World) (A : Asn) (x0 x1 x2 x3 x4 x6 x8 x9 x10 x12 x13 x14 x15 x16 x17 x18 x19 x20 x21 x22 x23 x24 x25 x26 x27 x28 x29 x30 x31 x32 x33 : Value)
    (ha : plOK to ts) (hb : plOK to us) (hla : ts.length ≤ 65536) (hab : ts.map tmr = us.map tmr) (hto : to ≤ 1099511627776)
    (s : St w0 (A * whl p to m1 ts * whl q to m2 us) w) :
    h5_23.wp U2 (QS w0 A) [x0, x1, x2, x3, x4, .pointer (some ⟨p, 0, none⟩), x6, .pointer (some ⟨q, 0, none⟩), x8, x9, x10, .int .i64 to, x12, x13, x14, x15, x16, x17, x18, x19, x20, x21, x22, x23, x24, x25, x26, x27, x28, x29, x30, x31, x32, x33] w := by
  have hlb : us.length = ts.length := by
    have := congrArg List.length hab
    simpa using this.symm
  obtain ⟨L, hL⟩ : ∃ L, sortT (ts.map tmr) = L := ⟨_, rfl⟩
  have hLl : L.length = ts.length := by rw [← hL, sortT_len, List.length_map]
  have hfr : frE to [] L = 0 := by rw [← hL]; exact frE_sort ha hla
  simp
  refine eff_call (All_spec p to m1 ts w0 w (A * whl q to m2 us) hla (s.to (by ac_rfl)) fun v w1 s1 => ?_)
  rw [hL] at s1
  simp
  refine eff_call (From_spec to L v w0 w1 (A * whl q to m2 us * whl p to m1 ts * outs v L) (by omega) (row_own s1) s1 fun r w2 h2 => ?_)
  rw [if_pos (by omega), Int.toNat_natCast, if_pos hfr] at h2
  obtain ⟨c, cs, rfl, hc, hcm, s2⟩ := h2
  simp
  have s2 : St w0 (A * whl p to m1 ts * whl c to 0 cs * whl q to m2 us) w2 := St.cut (outs v L) s2 (by ac_rfl)
  refine eff_call (All_spec q to m2 us w0 w2 (A * whl p to m1 ts * whl c to 0 cs) (by omega) s2 fun v2 w3 s3 => ?_)
  simp
  have hI : StE to ts us cs := ⟨ha, hb, hc, hla, hab, by rw [hcm, ← hL]; exact (sortT_perm _).symm⟩
  have key := places_part p q c to m1 m2 0 v2 ts us cs w0 w3 A x0 x1 x2 x3 x6 x8 x9 x10 (.int .i64 to) x12 x13 x14 x15 x16 x17 x18 x19 x20 x21 (.int .i64 0) x25 x26 x27 x28 x29 x30 x31 x32 x33 x4 hI (s3.to (by ac_rfl))
  simpa using key
set_option maxHeartbeats 1000000 in
theorem same_part (p q to m1 m2 : Nat) (v1 v2 : Value) (L : List (Int × Int)) (ts us : List Tm) (w0 w : World) (A : Asn) (x0 x1 x2 x3 x4 x6 x8 x9 x10 x13 x14 x15 x16 x17 x18 x20 x21 x22 x23 x24 x25 x26 x27 x28 x29 x30 x31 x32 x33 : Value)
    (ha : plOK to ts) (hb : plOK to us) (hla : ts.length ≤ 65536) (hab : ts.map tmr = us.map tmr) (hto : to ≤ 1099511627776) (hLl : L.length ≤ 65536)
    (s : St w0 (A * whl p to m1 ts * whl q to m2 us * outs v1 L * outs v2 L) w) :
    h5_31.wp U2 (QS w0 A) [x0, x1, x2, x3, x4, .pointer (some ⟨p, 0, none⟩), x6, .pointer (some ⟨q, 0, none⟩), x8, x9, x10, .int .i64 to, v1, x13, x14, x15, x16, x17, x18, v2, x20, x21, x22, x23, x24, x25, x26, x27, x28, x29, x30, x31, x32, x33] w := by
  have r1 := row_outs s (B := A * whl p to m1 ts * whl q to m2 us * outs v2 L) (v := v1) (l := L) (by ac_rfl)
  have r2 := row_own s
  obtain ⟨a1, c1, rfl⟩ := r1.val
  obtain ⟨a2, c2, rfl⟩ := r2.val
  obtain ⟨B, hB⟩ : ∃ B, A * whl p to m1 ts * whl q to m2 us * outs (.slice a1 L.length c1) L * outs (.slice a2 L.length c2) L = B := ⟨_, rfl⟩
  rw [show own 32 2 (.slice a2 L.length c2) L.length (L.flatMap encT) = outs (.slice a2 L.length c2) L from rfl] at *
  rw [hB] at r1 r2 s
  simp
  refine loopI (fun env w' => ∃ (i : Nat), env = [x0, x1, x2, x3, x4, .pointer (some ⟨p, 0, none⟩), x6, .pointer (some ⟨q, 0, none⟩), x8, x9, x10, .int .i64 to, .slice a1 L.length c1, x13, x14, x15, x16, x17, x18, .slice a2 L.length c2, x20, .int .i64 i, x22, x23, x24, x25, x26, x27, x28, x29, x30, x31, x32, x33] ∧ i ≤ L.length ∧ St w0 B w')
    (fun env _ => L.length - slotN env 21) ⟨0, rfl, by omega, s⟩ ?_
  rintro LQ env w' ⟨i, rfl, hi, s'⟩ hN hE hR
  simp
  refine cndI (fun h => ?_) (fun h => ?_)
  · have hi' : i < L.length := by
      simp at h
      omega
    obtain ⟨g1, o1, c1', e1, k1⟩ := r1.at (by omega)
    cases e1
    obtain ⟨g2, o2, c2', e2, k2⟩ := r2.at (by omega)
    cases e2
    simp
    refine brqI s' ?_
    simp [hi']
    refine effq_ldcs (vs := encT L[i]) (fun w s j u hu => by rw [Nat.add_assoc]; exact k1 w s _ _ (flatT_at hi' j u hu)) rfl ?_
    simp [hi']
    refine effq_ldcs (vs := encT L[i]) (fun w s j u hu => by rw [Nat.add_assoc]; exact k2 w s _ _ (flatT_at hi' j u hu)) rfl ?_
    simp
    refine effq_neqP tmT [.int .i64 L[i].1, .int .i64 L[i].2] [.int .i64 L[i].1, .int .i64 L[i].2] rfl rfl ?_
    simp
    intro w2 s2
    try simp
    try simp (disch := omega) only [wrap64]
    exact hN _ _ ⟨i + 1, by simp, by omega, s2⟩ (by simp [slotN]; omega)
  · simp
    refine hE _ _ _ ?_
    simp
    rw [← hB] at s'
    have key := anew_part p q to m1 m2 ts us w0 w' A x0 x1 x2 x3 x4 x6 x8 x9 x10 (.slice a1 L.length c1) x13 x14 x15 x16 x17 x18 (.slice a2 L.length c2) x20 (.int .i64 i) x22 x23 x24 x25 x26 x27 x28 x29 x30 x31 x32 x33 ha hb hla hab hto s'.drop.drop
    simpa using key
set_option maxHeartbeats 1000000 in
theorem once_part (p q now at_ to mv : Nat) (v : Value) (ts us : List Tm) (w0 w : World) (A : Asn) (x0 x1 x2 x3 x4 x6 x8 x9 x10 x13 x14 x15 x16 x17 x18 x19 x20 x21 x22 x23 x24 x25 x26 x27 x28 x29 x30 x31 x32 x33 : Value)
    (ha : plOK now ts) (hb : plOK now us) (hla : ts.length ≤ 65536) (hab : ts.map tmr = us.map tmr) (hto : to ≤ 1099511627776) (h1 : now ≤ at_) (h2 : at_ ≤ to)
    (hm1 : (movedT at_ ts).length ≤ mv) (hm2 : mv ≤ 1152921504606846976)
    (s : St w0 (A * whl p at_ mv (restT at_ ts) * whl q now 0 us * outs v (outL at_ ts)) w) :
    h5_36.wp U2 (QS w0 A) [x0, x1, x2, x3, x4, .pointer (some ⟨p, 0, none⟩), x6, .pointer (some ⟨q, 0, none⟩), x8, x9, x10, .int .i64 to, v, x13, x14, x15, x16, x17, x18, x19, x20, x21, x22, x23, x24, x25, x26, x27, x28, x29, x30, x31, x32, x33] w := by
  have hlb : us.length = ts.length := by
    have := congrArg List.length hab
    simpa using this.symm
  have hra : (restT at_ ts).length ≤ 65536 := by
    have h : (restT at_ ts).length ≤ ts.length := by
      unfold restT
      rw [List.length_map]
      exact List.length_filter_le _ _
    omega
  have hrt : (restT to ts).length ≤ 65536 := by
    have h : (restT to ts).length ≤ ts.length := by
      unfold restT
      rw [List.length_map]
      exact List.length_filter_le _ _
    omega
  have l1 := outL_len at_ ts
  have l2 := outL_len to (restT at_ ts)
  have l3 := outL_len to ts
  simp
  refine eff_call (Advance_spec p at_ mv (restT at_ ts) to w0 w (A * whl q now 0 us * outs v (outL at_ ts)) ha.rest (by omega) hra (by omega) (s.to (by ac_rfl)) fun r w1 h => ?_)
  rw [if_pos (by omega), Int.toNat_natCast] at h
  obtain ⟨v', rfl, s1⟩ := h
  rw [rest_rest h2] at s1
  simp
  have s1 : St w0 (A * whl q now 0 us * whl p to (mv + (movedT to (restT at_ ts)).length) (restT to ts) * outs v' (outL to (restT at_ ts)) * outs v (outL at_ ts)) w1 := s1.to (by ac_rfl)
  have hr := row_outs s1 (v := v') (l := outL to (restT at_ ts)) (B := A * whl q now 0 us * whl p to (mv + (movedT to (restT at_ ts)).length) (restT to ts) * outs v (outL at_ ts)) (by ac_rfl)
  refine eff_appR (F := A * whl q now 0 us * whl p to (mv + (movedT to (restT at_ ts)).length) (restT to ts) * outs v' (outL to (restT at_ ts))) s1 hr (fun u hu => ?_) (by decide) rfl (by unfold maxLen; omega) (by omega) ?_
  · obtain ⟨x, _, hx⟩ := List.mem_flatMap.1 hu
    exact encT_one x u hx
  intro v2 w2 s2
  have e : own 32 2 v2 ((outL at_ ts).length + (outL to (restT at_ ts)).length) ((outL at_ ts).flatMap encT ++ (outL to (restT at_ ts)).flatMap encT) = outs v2 (outL to ts) := by
    show _ = own _ 2 v2 (outL to ts).length ((outL to ts).flatMap encT)
    rw [← outL_split h2 ts, List.length_append, List.flatMap_append]
  rw [e] at s2
  simp
  have s2 : St w0 (A * whl p to (mv + (movedT to (restT at_ ts)).length) (restT to ts) * outs v' (outL to (restT at_ ts)) * outs v2 (outL to ts) * whl q now 0 us) w2 := s2.to (by ac_rfl)
  refine eff_call (Advance_spec q now 0 us to w0 w2 _ hb (by omega) (by omega) (by omega) s2 fun r w3 h => ?_)
  rw [if_pos (by omega), Int.toNat_natCast, show sortT ((dueT to us).map tmr) = outL to ts from (outL_congr hab).symm] at h
  obtain ⟨v3, rfl, s3⟩ := h
  have hmv : (movedT to us).length ≤ mv + (movedT to (restT at_ ts)).length := by
    have g := moved_sub h2 ts
    have e1 := moved_map (to := to) ha
    have e2 := moved_map (to := to) hb
    rw [← hab, ← e1] at e2
    omega
  have s3 : St w0 (A * outs v' (outL to (restT at_ ts)) * whl q to (0 + (movedT to us).length) (restT to us) * outs v2 (outL to ts) * outs v3 (outL to ts) * whl p to (mv + (movedT to (restT at_ ts)).length) (restT to ts)) w3 := s3.to (by ac_rfl)
  have r2 := row_outs s3 (B := A * outs v' (outL to (restT at_ ts)) * whl q to (0 + (movedT to us).length) (restT to us) * whl p to (mv + (movedT to (restT at_ ts)).length) (restT to ts) * outs v3 (outL to ts)) (v := v2) (l := outL to ts) (by ac_rfl)
  have r3 := row_outs s3 (B := A * outs v' (outL to (restT at_ ts)) * whl q to (0 + (movedT to us).length) (restT to us) * whl p to (mv + (movedT to (restT at_ ts)).length) (restT to ts) * outs v2 (outL to ts)) (v := v3) (l := outL to ts) (by ac_rfl)
  obtain ⟨a2, c2, rfl⟩ := r2.val
  obtain ⟨a3, c3, rfl⟩ := r3.val
  simp
  refine eff_call ((Moves_spec p to (mv + (movedT to (restT at_ ts)).length) (restT to ts) w0 w3 _ s3).mono ?_)
  rintro r w4 ⟨rfl, s4⟩
  simp
  refine eff_call ((Moves_spec q to (0 + (movedT to us).length) (restT to us) w0 w4 (A * outs v' (outL to (restT at_ ts)) * outs (.slice a2 (outL to ts).length c2) (outL to ts) * outs (.slice a3 (outL to ts).length c3) (outL to ts) * whl p to (mv + (movedT to (restT at_ ts)).length) (restT to ts)) (s4.to (by ac_rfl))).mono ?_)
  rintro r w5 ⟨rfl, s5⟩
  simp
  refine cndI (fun h => ?_) (fun h => ?_)
  · simp at h
    omega
  have s5 : St w0 (A * whl p to (mv + (movedT to (restT at_ ts)).length) (restT to ts) * whl q to (0 + (movedT to us).length) (restT to us) * outs (.slice a2 (outL to ts).length c2) (outL to ts) * outs (.slice a3 (outL to ts).length c3) (outL to ts)) w5 := St.cut (outs v' (outL to (restT at_ ts))) s5 (by ac_rfl)
  have key := same_part p q to _ _ _ _ (outL to ts) (restT to ts) (restT to us) w0 w5 A x0 x1 x2 x3 x4 x6 x8 x9 x10 x13 x14 x15 x16 v' (.int .i64 0) (.int .i64 0) x21 x22 x23 x24 x25 x26 x27 x28 x29 x30 x31 x32 x33 ha.rest hb.rest hrt (by rw [rest_map, rest_map, hab]) hto (by omega) s5
  simpa using key
end Go.HL.Wh
