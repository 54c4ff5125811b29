/-
  Wheel: the law of steps, walked. No condition.
-/
import Derived.Test.YtngjaibngkhidaaWhY
import Derived.Test.YtngjaibngkhidaaWhT
import Derived.Test.YtngjaibngkhidaaOpen2
namespace Go.HL.Wh
open Go.HL Go.Proofs
set_option maxRecDepth 4000
set_option linter.unusedSimpArgs false
set_option linter.unusedVariables false
theorem open_ints {H : Type} {enc : TypeId × Value → H} {W : World} {spare : Nat → Bool} {v : Value} {d : DataW H} {ps : List MemPlace} (h : DataW.Trod enc Try.prog W 0 spare true 47 v d ps) {base : Nat} (hval : Value.okWide Try.prog W .any base 47 v) :
    ∃ l : List Int, Row W (old W) v l.length 1 (l.map (Value.int .i64)) ∧ l.length ≤ Go.Proofs.Ytngjaibngkhidaa.Rows.uptoBulk d := by
  obtain ⟨va, vl, vc, rfl⟩ := Go.WideShapes.okWide_slice Try.underlying47 hval
  obtain ⟨n, h⟩ := h
  obtain ⟨v, l, h1, h2, h3, h4, h5, h6⟩ := open_erows (α := Int) (fun x => [Value.int .i64 x]) 1 (fun _ => True) (fun _ => 0) Try.underlying47 (by kernel_rfl) (by decide) (fun _ => rfl) (fun n cs x hx => by
    obtain ⟨m, e, _⟩ := DataW.trod_int Try.underlying3 hx
    exact ⟨m, e, trivial, Nat.zero_le _⟩) h
  have h1 : [Value.slice va vl vc] = [v] := by simpa [Value.cells] using h1
  cases h1
  refine ⟨l, ?_, h5⟩
  rw [show l.map (Value.int .i64) = l.flatMap fun x => [Value.int .i64 x] from by rw [List.map_eq_flatMap]]
  exact h4
def emN (x : Int) (n : Nat) : Nat := (x.emod n).toNat
theorem emN_lt (x : Int) {n : Nat} (h : 0 < n) : emN x n < n := by
  have h1 := Int.emod_lt_of_pos x (show (0 : Int) < n by omega)
  have h2 : x.emod n < n := h1
  unfold emN
  omega
theorem emN_max (x : Int) (n : Nat) : max (x.emod (n : Int)) 0 = (emN x n : Int) := (Int.ofNat_toNat _).symm
set_option maxHeartbeats 2000000 in
theorem steps_part (p q now : Nat) (far : Int) (sv : Value) (steps : List Int) (ts us : List Tm) (w0 w : World) (A : Asn) (x1 x4 x6 x8 x9 x10 x11 x12 x13 x14 x15 x16 x17 x18 x19 x20 x21 x22 x23 x24 x25 x26 x27 x28 x29 x30 x31 x32 x33 : Value)
    (ha : plOK now ts) (hb : plOK now us) (hla : ts.length ≤ 65536) (hab : ts.map tmr = us.map tmr) (hnow : now ≤ 549755813888) (hsl : steps.length ≤ 1048576)
    (hrow : Row w0 A sv steps.length 1 (steps.map (Value.int .i64)))
    (s : St w0 (A * whl p now 0 ts * whl q now 0 us) w) :
    h5_51.wp U2 (QS w0 A) [.int .i64 now, x1, sv, .int .i64 far, x4, .pointer (some ⟨p, 0, none⟩), x6, .pointer (some ⟨q, 0, none⟩), x8, x9, x10, x11, x12, x13, x14, x15, x16, x17, x18, x19, x20, x21, x22, x23, x24, x25, x26, x27, x28, x29, x30, x31, x32, x33] w := by
  obtain ⟨sa, sc, rfl⟩ := hrow.val
  have hfar := ahN_bd far
  simp
  try simp (disch := omega) only [wrap64]
  have hto : (now : Int) + (ahN far : Int) = ((now + ahN far : Nat) : Int) := by omega
  rw [hto]
  obtain ⟨er, ed, em⟩ := rest_same ha
  have s0 : St w0 (A * whl p now 0 (restT now ts) * whl q now 0 us * outs (.slice none 0 0) (outL now ts)) w := by
    have e0 : outL now ts = [] := by
      show sortT ((dueT now ts).map tmr) = []
      rw [ed]
      exact List.eq_nil_of_length_eq_zero (by rw [sortT_len]; rfl)
    rw [er, e0]
    exact s.own_nil _ _
  refine loopI (fun env w' => ∃ (i at_ mv : Nat) (v y15 y16 : Value), env = [.int .i64 now, x1, .slice sa steps.length sc, .int .i64 far, x4, .pointer (some ⟨p, 0, none⟩), x6, .pointer (some ⟨q, 0, none⟩), x8, x9, x10, .int .i64 (((now + ahN far : Nat)) : Int), v, .int .i64 at_, .int .i64 i, y15, y16, x17, x18, x19, x20, x21, x22, x23, x24, x25, x26, x27, x28, x29, x30, x31, x32, x33] ∧ i ≤ steps.length ∧ now ≤ at_ ∧ at_ ≤ now + ahN far ∧ mv ≤ i * 65536 ∧ (movedT at_ ts).length ≤ mv ∧
      St w0 (A * whl p at_ mv (restT at_ ts) * whl q now 0 us * outs v (outL at_ ts)) w')
    (fun env _ => steps.length - slotN env 14) ⟨0, now, 0, _, _, _, rfl, by omega, by omega, by omega, by omega, by rw [em]; exact Nat.le_refl _, s0⟩ ?_
  rintro LQ env w' ⟨i, at_, mv, v, y15, y16, rfl, hi, h1, h2, hm, hm2, s'⟩ hN hE hR
  have l1 := outL_len at_ ts
  have fin : ∀ (b13 : Value), HC.wp U2 h5_36 (QS w0 A) [.int .i64 now, x1, .slice sa steps.length sc, .int .i64 far, x4, .pointer (some ⟨p, 0, none⟩), x6, .pointer (some ⟨q, 0, none⟩), x8, x9, x10, .int .i64 (((now + ahN far : Nat)) : Int), v, b13, .int .i64 i, y15, y16, x17, x18, x19, x20, x21, x22, x23, x24, x25, x26, x27, x28, x29, x30, x31, x32, x33] w' := fun b13 => by
    have key := once_part p q now at_ (now + ahN far) mv v ts us w0 w' A (.int .i64 now) x1 (.slice sa steps.length sc) (.int .i64 far) x4 x6 x8 x9 x10 b13 (.int .i64 i) y15 y16 x17 x18 x19 x20 x21 x22 x23 x24 x25 x26 x27 x28 x29 x30 x31 x32 x33 ha hb hla hab (by omega) h1 h2 hm2 (by omega) s'
    exact key
  simp
  refine cndI (fun h => ?_) (fun h => ?_)
  · have hi' : i < steps.length := by
      simp at h
      omega
    obtain ⟨g, o, cap', hv, hc⟩ := hrow.at (by omega)
    cases hv
    simp [hi']
    refine eff_ldc (v := .int .i64 steps[i]) (hc _ s'.drop.drop.drop i _ (ints_at hi')) ?_
    simp
    have hmx := emN_max steps[i] 16777216
    simp only [Int.cast_ofNat_Int] at hmx
    rw [hmx]
    have hlt := emN_lt steps[i] (n := 16777216) (by decide)
    obtain ⟨d, hd⟩ : ∃ d, emN steps[i] 16777216 = d := ⟨_, rfl⟩
    rw [hd] at hlt ⊢
    try simp (disch := omega) only [wrap64]
    refine cndI (fun h3 => ?_) (fun h3 => ?_)
    · simp
      refine hE _ _ _ ?_
      exact fin _
    simp at h3
    have h3 : at_ + d ≤ now + ahN far := by omega
    simp
    have hra : (restT at_ ts).length ≤ ts.length := by
      unfold restT
      rw [List.length_map]
      exact List.length_filter_le _ _
    refine eff_call (Advance_spec p at_ mv (restT at_ ts) ((at_ : Int) + (d : Int)) w0 w' (A * whl q now 0 us * outs v (outL at_ ts)) ha.rest (by omega) (by omega) (by omega) (s'.to (by ac_rfl)) fun r w1 h4 => ?_)
    rw [if_pos (by omega), show ((at_ : Int) + (d : Int)).toNat = at_ + d by omega] at h4
    obtain ⟨v', rfl, s1⟩ := h4
    have hle : at_ ≤ at_ + d := by omega
    rw [rest_rest hle] at s1
    simp
    have s1 : St w0 (A * whl q now 0 us * whl p (at_ + d) (mv + (movedT (at_ + d) (restT at_ ts)).length) (restT (at_ + d) ts) * outs v' (outL (at_ + d) (restT at_ ts)) * outs v (outL at_ ts)) w1 := s1.to (by ac_rfl)
    have hr := row_outs s1 (v := v') (l := outL (at_ + d) (restT at_ ts)) (B := A * whl q now 0 us * whl p (at_ + d) (mv + (movedT (at_ + d) (restT at_ ts)).length) (restT (at_ + d) ts) * outs v (outL at_ ts)) (by ac_rfl)
    have l2 := outL_len (at_ + d) (restT at_ ts)
    refine eff_appR (F := A * whl q now 0 us * whl p (at_ + d) (mv + (movedT (at_ + d) (restT at_ ts)).length) (restT (at_ + d) ts) * outs v' (outL (at_ + d) (restT at_ ts))) s1 hr (fun u hu => ?_) (by decide) rfl (by unfold maxLen; omega) (by omega) ?_
    · obtain ⟨x, _, hx⟩ := List.mem_flatMap.1 hu
      exact encT_one x u hx
    intro v2 w2 s2
    have e : own 32 2 v2 ((outL at_ ts).length + (outL (at_ + d) (restT at_ ts)).length) ((outL at_ ts).flatMap encT ++ (outL (at_ + d) (restT at_ ts)).flatMap encT) = outs v2 (outL (at_ + d) ts) := by
      show _ = own _ 2 v2 (outL (at_ + d) ts).length ((outL (at_ + d) ts).flatMap encT)
      rw [← outL_split hle ts, List.length_append, List.flatMap_append]
    rw [e] at s2
    simp
    try simp (disch := omega) only [wrap64]
    have hmm := moved_sub hle ts
    have hml : (movedT (at_ + d) (restT at_ ts)).length ≤ (restT at_ ts).length := List.length_filter_le _ _
    refine hN _ _ ⟨i + 1, at_ + d, mv + (movedT (at_ + d) (restT at_ ts)).length, v2, v', .int .i64 0, ?_, by omega, by omega, h3, by omega, by omega, St.cut (outs v' (outL (at_ + d) (restT at_ ts))) s2 (by ac_rfl)⟩ (by simp [slotN]; omega)
    simp
  · simp
    refine hE _ _ _ ?_
    exact fin _
def schA (p now : Nat) (ts : List Tm) (n a : Int) : Asn := fun h => ∃ ts', (schF now ts n a = 0 → ∃ b, ts' = ts ++ [hgT ⟨n, a.toNat, 0, 0, b⟩ now]) ∧ (schF now ts n a ≠ 0 → ts' = ts) ∧ whl p now 0 ts' h
theorem schA_mk {p now : Nat} {ts : List Tm} {n a : Int} {w0 w : World} {F : Asn} (h : if schF now ts n a = 0 then ∃ b, St w0 (F * whl p now 0 (ts ++ [hgT ⟨n, a.toNat, 0, 0, b⟩ now])) w else St w0 (F * whl p now 0 ts) w) : St w0 (F * schA p now ts n a) w := by
  by_cases hz : schF now ts n a = 0
  · rw [if_pos hz] at h
    obtain ⟨b, s⟩ := h
    exact s.mono (sep_mono (fun _ h => h) fun g hg => ⟨_, fun _ => ⟨b, rfl⟩, fun e => absurd hz e, hg⟩)
  · rw [if_neg hz] at h
    exact h.mono (sep_mono (fun _ h => h) fun g hg => ⟨_, fun e => absurd e hz, fun _ => rfl, hg⟩)
theorem schA_open {p now : Nat} {ts : List Tm} {n a : Int} {w0 w : World} {F : Asn} (hp : plOK now ts) (hl : ts.length ≤ 65536) (s : St w0 (F * schA p now ts n a) w) :
    ∃ ts', plOK now ts' ∧ ts'.length ≤ 65536 ∧ ts'.map tmr = (if schF now ts n a = 0 then ts.map tmr ++ [(n, a)] else ts.map tmr) ∧ St w0 (F * whl p now 0 ts') w := by
  obtain ⟨g, h1, h2, h3, d, e, hF, ts', c1, c2, hw⟩ := s.holds
  refine ⟨ts', ?_, ?_, ?_, s.of ⟨g, h1, h2, h3, d, e, hF, hw⟩⟩
  · by_cases hz : schF now ts n a = 0
    · obtain ⟨b, rfl⟩ := c1 hz; exact hp.sch b hz
    · rw [c2 hz]; exact hp
  · by_cases hz : schF now ts n a = 0
    · obtain ⟨b, rfl⟩ := c1 hz
      have := (schF_zero.1 hz).2.2.2.2
      simp; omega
    · rw [c2 hz]; exact hl
  · by_cases hz : schF now ts n a = 0
    · obtain ⟨b, rfl⟩ := c1 hz; rw [if_pos hz]; exact tmr_sch b hz
    · rw [c2 hz, if_neg hz]
def twoC (w0 : World) (S0 S1 S2 : Asn) (r : Value) : List Value → World → Prop
  | [], w => St w0 S0 w
  | [v], w => v = r ∧ St w0 S1 w
  | v :: u :: _, w => (v = r ∧ u = r) ∧ St w0 S2 w
set_option maxHeartbeats 4000000 in
theorem steps_walk (now : Int) (timers : List Ac) (steps : List Int) (far : Int) (tv sv : Value) (w0 w : World) (A : Asn) (_ : -9223372036854775808 ≤ now ∧ now ≤ 9223372036854775807) (_ : -9223372036854775808 ≤ far ∧ far ≤ 9223372036854775807)
    (htl : timers.length ≤ 1048576) (hsl : steps.length ≤ 1048576) (hrow : Row w0 A tv timers.length 3 (acs timers)) (hsr : Row w0 A sv steps.length 1 (steps.map (Value.int .i64))) (s : St w0 A w) :
    CallW Try.prog 5 [.int .i64 now, tv, sv, .int .i64 far] (fun r w' => r = .bool true ∧ St w0 A w') w := by
  obtain ⟨ta, tc, rfl⟩ := hrow.val
  refine callW_of_lift l5_ok (by simp [l5]) ?_
  simp [l5]
  refine eff_call ((known_spec w0 w A s).mono ?_)
  rintro r w1 ⟨rfl, s1⟩
  simp
  have hmx := emN_max now 549755813888
  simp only [Int.cast_ofNat_Int] at hmx
  rw [hmx]
  have hlt := emN_lt now (n := 549755813888) (by decide)
  obtain ⟨N, hN⟩ : ∃ N, emN now 549755813888 = N := ⟨_, rfl⟩
  rw [hN] at hlt ⊢
  refine eff_call (New_spec N w0 w1 A s1 fun r w2 h2 => ?_)
  rw [if_pos (by omega), Int.toNat_natCast] at h2
  obtain ⟨p, rfl, s2⟩ := h2
  simp
  refine eff_call (New_spec N w0 w2 _ s2 fun r w3 h3 => ?_)
  rw [if_pos (by omega), Int.toNat_natCast] at h3
  obtain ⟨q, rfl, s3⟩ := h3
  simp
  have nil : plOK N [] := ⟨by simp, by simp, by simp, by simp⟩
  refine loopI (fun env w' => ∃ (i : Nat) (y10 : Value) (ts us : List Tm), env = [.int .i64 N, .slice ta timers.length tc, sv, .int .i64 far, .bool false, .pointer (some ⟨p, 0, none⟩), .int .i64 0, .pointer (some ⟨q, 0, none⟩), .int .i64 0, .int .i64 i, y10, undef, undef, undef, undef, undef, undef, undef, undef, undef, undef, undef, undef, undef, undef, undef, undef, undef, undef, undef, undef, undef, undef, undef] ∧ i ≤ timers.length ∧ plOK N ts ∧ plOK N us ∧ ts.length ≤ 65536 ∧ us.length ≤ 65536 ∧ ts.map tmr = us.map tmr ∧ St w0 (A * whl p N 0 ts * whl q N 0 us) w')
    (fun env _ => timers.length - slotN env 9) ⟨0, _, [], [], rfl, by omega, nil, nil, by simp, by simp, rfl, s3⟩ ?_
  rintro LQ env w' ⟨i, y10, ts, us, rfl, hi, ha, hb, hla, hlb, hab, s'⟩ hN' hE hR
  simp
  refine cndI (fun h => ?_) (fun h => ?_)
  · have hi' : i < timers.length := by
      simp at h
      omega
    obtain ⟨g, o, cap', hv, hc⟩ := hrow.at (by omega)
    cases hv
    have hbd := ahN_bd timers[i].x
    have cell1 : ∀ {B : Asn} {w : World}, St w0 (A * B) w → w.cell? ⟨g, o + i * 3 + 1, none⟩ = some (.int .i64 timers[i].n) := fun sw => by
      rw [Nat.add_assoc]; exact hc _ sw.drop _ _ (acs_at hi' 1 _ rfl)
    have cell2 : ∀ {B : Asn} {w : World}, St w0 (A * B) w → w.cell? ⟨g, o + i * 3 + 2, none⟩ = some (.int .i64 timers[i].x) := fun sw => by
      rw [Nat.add_assoc]; exact hc _ sw.drop _ _ (acs_at hi' 2 _ rfl)
    simp [hi']
    refine eff_ldc (cell2 (s'.to (by rw [sep_assoc]))) ?_
    simp
    try simp (disch := omega) only [wrap64]
    obtain ⟨a, hadef⟩ : ∃ a : Int, (N : Int) + ahN timers[i].x = a := ⟨_, rfl⟩
    obtain ⟨n, hndef⟩ : ∃ n : Int, timers[i].n = n := ⟨_, rfl⟩
    rw [hadef]
    rw [hndef] at cell1
    have er : schF N us n a = schF N ts n a := by rw [schF_P, schF_P, hab]
    refine brmI (twoC w0 (A * (whl p N 0 ts * whl q N 0 us)) (A * (whl q N 0 us * schA p N ts n a)) (A * (schA p N ts n a * schA q N us n a)) (.int .i64 (schF N ts n a))) (s'.drew.to (sep_assoc _ _ _)) ?_
    simp [hi']
    refine effm_ldc (v := .int .i64 n) (fun vs' w he hw => ?_) ?_
    · match vs', hw with
      | [], hw => exact cell1 hw
      | [_], hw => exact cell1 hw.2
      | _ :: _ :: _, hw => simp [era] at he
    simp
    refine effm_mv rfl (fun w hw => eff_call (Sched_spec p N 0 ts n a w0 w (A * whl q N 0 us) (by omega) (St.to (show St w0 _ w from hw) (by ac_rfl)) fun w4 h4 => ?_)) (fun r hr => ?_)
    · exact ⟨rfl, (schA_mk h4).to (by ac_rfl)⟩
    obtain ⟨_, rfl, _⟩ : ∃ w, r = .int .i64 (schF N ts n a) ∧ _ := hr
    simp [hi']
    refine effm_ldc (v := .int .i64 n) (fun vs' w he hw => ?_) ?_
    · match vs', hw with
      | [], hw => exact cell1 hw
      | [_], hw => exact cell1 hw.2
      | _ :: _ :: _, hw => simp [era] at he
    simp
    refine effm_mv rfl (fun w hw => eff_call (Sched_spec q N 0 us n a w0 w (A * schA p N ts n a) (by omega) (St.to (And.right hw) (by ac_rfl)) fun w4 h4 => ?_)) (fun r hr => ?_)
    · rw [er] at h4 ⊢
      exact ⟨⟨rfl, rfl⟩, (schA_mk (by rw [er]; exact h4)).to (by ac_rfl)⟩
    obtain ⟨_, ⟨_, rfl⟩, _⟩ : ∃ w, (_ ∧ r = .int .i64 (schF N ts n a)) ∧ _ := hr
    simp
    intro w5 s5
    have s5 : St w0 (A * (schA p N ts n a * schA q N us n a)) w5 := And.right s5
    try simp (disch := omega) only [wrap64]
    obtain ⟨us', hb', hlb', hbm, s6⟩ := schA_open hb hlb (s5.to (B := A * schA p N ts n a * schA q N us n a) (by ac_rfl))
    obtain ⟨ts', ha', hla', ham, s7⟩ := schA_open ha hla (s6.to (B := A * whl q N 0 us' * schA p N ts n a) (by ac_rfl))
    refine hN' _ _ ⟨i + 1, _, ts', us', by simp; rfl, by omega, ha', hb', hla', hlb', ?_, s7.to (by ac_rfl)⟩ (by simp [slotN]; omega)
    rw [ham, hbm, er, hab]
  · simp
    refine hE _ _ _ ?_
    have key := steps_part p q N far sv steps ts us w0 w' A (.slice ta timers.length tc) (.bool false) (.int .i64 0) (.int .i64 0) (.int .i64 i) y10 undef undef undef undef undef undef undef undef undef undef undef undef undef undef undef undef undef undef undef undef undef undef undef ha hb hla hab (by omega) hsl hsr s'
    exact key
end Go.HL.Wh
