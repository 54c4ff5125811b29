/-
  Wheel: memory of its own: the beginning. No condition.
-/
import Derived.Test.YtngjaibngkhidaaWhOc
namespace Go.HL.Wh
open Go.HL Go.Proofs
set_option maxRecDepth 4000
set_option linter.unusedSimpArgs false
set_option linter.unusedVariables false
def R6 (r0 r1 r2 r3 r4 r5 : Value) : Nat → Value | 0 => r0 | 1 => r1 | 2 => r2 | 3 => r3 | 4 => r4 | _ => r5
def L5 (l0 l1 l2 l3 l4 : Value) : Nat → Value | 0 => l0 | 1 => l1 | 2 => l2 | 3 => l3 | _ => l4
def Y6 (X RR AL : List (Int × Int)) : Nat → List (Int × Int) | 0 => X | 1 => X | 2 => RR | 3 => RR | 4 => RR | _ => AL
def Z5 (x y z : List Int) : Nat → List Int | 0 => x | 1 => x | 2 => y | 3 => z | _ => z
theorem big6 {α : Type} (F : Nat → α → Asn) (Y : Nat → α) : bigA F Y 6 = F 0 (Y 0) * F 1 (Y 1) * F 2 (Y 2) * F 3 (Y 3) * F 4 (Y 4) * F 5 (Y 5) := by
  show emp * F 0 (Y 0) * F 1 (Y 1) * F 2 (Y 2) * F 3 (Y 3) * F 4 (Y 4) * F 5 (Y 5) = _
  rw [emp_sep]
theorem big5 {α : Type} (F : Nat → α → Asn) (Y : Nat → α) : bigA F Y 5 = F 0 (Y 0) * F 1 (Y 1) * F 2 (Y 2) * F 3 (Y 3) * F 4 (Y 4) := by
  show emp * F 0 (Y 0) * F 1 (Y 1) * F 2 (Y 2) * F 3 (Y 3) * F 4 (Y 4) = _
  rw [emp_sep]
theorem own_one {w0 w : World} {F : Asn} {e size n : Nat} {v : Value} {xs : List Value} (s : St w0 (F * own e size v n xs) w) : v.oneCell' = true := by
  obtain ⟨a, c, rfl, _⟩ := s.own_val
  rfl
set_option maxHeartbeats 2000000 in
theorem own_start (p q c T nw m1 m2 m3 : Nat) (X : List (Int × Int)) (ts us cs : List Tm) (w0 w : World) (A : Asn) (x0 x1 x4 x5 x7 x9 x11 x12 x13 x14 x15 x16 x17 x18 x19 x20 x21 : Value)
    (ha : plOK T ts) (hb : plOK T us) (hcp : plOK nw cs) (hla : ts.length ≤ 65536) (hlb : us.length ≤ 65536) (hlc : cs.length ≤ 65536) (hab : ts.map tmr = us.map tmr) (hX : X.length ≤ 65536) (hT : T ≤ 1099243192320) (hm2 : m2 ≤ 2305843009213693952)
    (s : St w0 (A * whl p T m1 ts * whl q T m2 us * whl c nw m3 cs * outs x12 X * outs x13 X) w) :
    h4_37.wp U2 (QO w0 A) [x0, x1, .int .i64 T, .bool false, x4, x5, .pointer (some ⟨p, 0, none⟩), x7, .pointer (some ⟨q, 0, none⟩), x9, .pointer (some ⟨c, 0, none⟩), x11, x12, x13, x14, x15, x16, x17, x18, x19, x20, x21] w := by
  obtain ⟨RR, hRR⟩ : ∃ RR, sortT (ts.map tmr) = RR := ⟨_, rfl⟩
  obtain ⟨AL, hAL⟩ : ∃ AL, sortT (cs.map tmr) = AL := ⟨_, rfl⟩
  have lR : RR.length ≤ 65536 := by rw [← hRR, sortT_len, List.length_map]; exact hla
  have lA : AL.length ≤ 65536 := by rw [← hAL, sortT_len, List.length_map]; exact hlc
  have h12 : x12.oneCell' = true := own_one (s.to (B := A * whl p T m1 ts * whl q T m2 us * whl c nw m3 cs * outs x13 X * outs x12 X) (by ac_rfl))
  have h13 : x13.oneCell' = true := own_one s
  simp
  refine eff_call (All_spec p T m1 ts w0 w (A * whl q T m2 us * whl c nw m3 cs * outs x12 X * outs x13 X) hla (s.to (by ac_rfl)) fun r2 w1 s1 => ?_)
  rw [hRR] at s1
  have o2 := own_one s1
  simp
  refine eff_call (All_spec p T m1 ts w0 w1 (A * whl q T m2 us * whl c nw m3 cs * outs x12 X * outs x13 X * outs r2 RR) hla (s1.to (by ac_rfl)) fun r3 w2 s2 => ?_)
  rw [hRR] at s2
  have o3 := own_one s2
  simp
  refine eff_call (All_spec q T m2 us w0 w2 (A * whl p T m1 ts * whl c nw m3 cs * outs x12 X * outs x13 X * outs r2 RR * outs r3 RR) hlb (s2.to (by ac_rfl)) fun r4 w3 s3 => ?_)
  rw [← hab, hRR] at s3
  have o4 := own_one s3
  simp
  refine eff_call (All_spec c nw m3 cs w0 w3 (A * whl p T m1 ts * whl q T m2 us * outs x12 X * outs x13 X * outs r2 RR * outs r3 RR * outs r4 RR) hlc (s3.to (by ac_rfl)) fun r5 w4 s4 => ?_)
  rw [hAL] at s4
  have o5 := own_one s4
  simp
  have t4 : St w0 (A * whl p T m1 ts * whl q T m2 us * whl c nw m3 cs * rowsA (R6 x12 x13 r2 r3 r4 r5) (Y6 X RR AL)) w4 := by
    rw [rowsA, big6]
    refine s4.to ?_
    show _ = A * whl p T m1 ts * whl q T m2 us * whl c nw m3 cs * (outs x12 X * outs x13 X * outs r2 RR * outs r3 RR * outs r4 RR * outs r5 AL)
    ac_rfl
  clear s s1 s2 s3 s4
  obtain ⟨RS, hRS⟩ : ∃ RS, rowsA (R6 x12 x13 r2 r3 r4 r5) (Y6 X RR AL) = RS := ⟨_, rfl⟩
  rw [hRS] at t4
  refine eff_bslO (vs := [x12, x13, r2, r3, r4, r5]) t4 (by simp [h12, h13, o2, o3, o4, o5]) rfl rfl (by decide) ?_
  intro rv w5 s5
  obtain ⟨RH, hRH⟩ : ∃ RH, own 38 1 rv 6 [x12, x13, r2, r3, r4, r5] = RH := ⟨_, rfl⟩
  rw [hRH] at s5
  simp
  obtain ⟨z0, hz0⟩ : ∃ z, ldF T (ts.map tmr) 0 = z := ⟨_, rfl⟩
  obtain ⟨z1, hz1⟩ : ∃ z, ldF nw (cs.map tmr) 1 = z := ⟨_, rfl⟩
  obtain ⟨z4, hz4⟩ : ∃ z, ldF nw (cs.map tmr) 4 = z := ⟨_, rfl⟩
  have lz0 : z0.length ≤ 64 := hz0 ▸ ldF_len _ _ _
  have lz1 : z1.length ≤ 64 := hz1 ▸ ldF_len _ _ _
  have lz4 : z4.length ≤ 64 := hz4 ▸ ldF_len _ _ _
  refine eff_call (Load_spec p T m1 ts 0 w0 w5 (A * whl q T m2 us * whl c nw m3 cs * RS * RH) ha hla (s5.to (by ac_rfl)) fun l0 w6 s6 => ?_)
  rw [hz0] at s6
  have q0 := own_one s6
  simp
  refine eff_call (Load_spec p T m1 ts 0 w0 w6 (A * whl q T m2 us * whl c nw m3 cs * RS * RH * intsA l0 z0) ha hla (s6.to (by ac_rfl)) fun l1 w7 s7 => ?_)
  rw [hz0] at s7
  have q1 := own_one s7
  simp
  refine eff_call (Load_spec c nw m3 cs 1 w0 w7 (A * whl p T m1 ts * whl q T m2 us * RS * RH * intsA l0 z0 * intsA l1 z0) hcp hlc (s7.to (by ac_rfl)) fun l2 w8 s8 => ?_)
  rw [hz1] at s8
  have q2 := own_one s8
  simp
  refine eff_call (Load_spec c nw m3 cs 4 w0 w8 (A * whl p T m1 ts * whl q T m2 us * RS * RH * intsA l0 z0 * intsA l1 z0 * intsA l2 z1) hcp hlc (s8.to (by ac_rfl)) fun l3 w9 s9 => ?_)
  rw [hz4] at s9
  have q3 := own_one s9
  simp
  refine eff_call (Load_spec c nw m3 cs 4 w0 w9 (A * whl p T m1 ts * whl q T m2 us * RS * RH * intsA l0 z0 * intsA l1 z0 * intsA l2 z1 * intsA l3 z4) hcp hlc (s9.to (by ac_rfl)) fun l4 w10 s10 => ?_)
  rw [hz4] at s10
  have q4 := own_one s10
  simp
  have t5 : St w0 (A * whl p T m1 ts * whl q T m2 us * whl c nw m3 cs * RS * RH * listsA (L5 l0 l1 l2 l3 l4) (Z5 z0 z1 z4)) w10 := by
    rw [listsA, big5]
    refine s10.to ?_
    show _ = A * whl p T m1 ts * whl q T m2 us * whl c nw m3 cs * RS * RH * (intsA l0 z0 * intsA l1 z0 * intsA l2 z1 * intsA l3 z4 * intsA l4 z4)
    ac_rfl
  clear s5 s6 s7 s8 s9 s10
  refine eff_bslO (vs := [l0, l1, l2, l3, l4]) t5 (by simp [q0, q1, q2, q3, q4]) rfl rfl (by decide) ?_
  intro lv w11 s11
  simp
  subst hRS hRH
  have e1 : (List.range 6).map (R6 x12 x13 r2 r3 r4 r5) = [x12, x13, r2, r3, r4, r5] := rfl
  have e2 : (List.range 5).map (L5 l0 l1 l2 l3 l4) = [l0, l1, l2, l3, l4] := rfl
  obtain ⟨A1, hA1⟩ : ∃ A1, A * own 38 1 rv 6 [x12, x13, r2, r3, r4, r5] * own 47 1 lv 5 [l0, l1, l2, l3, l4] = A1 := ⟨_, rfl⟩
  have t6 : St w0 (A1 * whl p T m1 ts * whl q T m2 us * whl c nw m3 cs * rowsA (R6 x12 x13 r2 r3 r4 r5) (Y6 X RR AL) * listsA (L5 l0 l1 l2 l3 l4) (Z5 z0 z1 z4)) w11 := by
    rw [← hA1]
    exact s11.to (by ac_rfl)
  have dn : ∀ w, St w0 A1 w → St w0 A w := fun w s => by rw [← hA1] at s; exact s.drop.drop
  have t7 : St w0 (A * own 38 1 rv 6 [x12, x13, r2, r3, r4, r5] * own 47 1 lv 5 [l0, l1, l2, l3, l4]) w11 := by rw [hA1]; exact t6.drop.drop.drop.drop.drop
  have h14 : Row w0 A1 rv 6 1 ((List.range 6).map (R6 x12 x13 r2 r3 r4 r5)) := by rw [e1, ← hA1]; exact row_in (e := 38) (B := A * own 47 1 lv 5 [l0, l1, l2, l3, l4]) t7 (by ac_rfl)
  have h15 : Row w0 A1 lv 5 1 ((List.range 5).map (L5 l0 l1 l2 l3 l4)) := by rw [e2, ← hA1]; exact row_own t7
  have key := own_want p q c T nw m1 m2 m3 (R6 x12 x13 r2 r3 r4 r5) (L5 l0 l1 l2 l3 l4) (Y6 X RR AL) (Z5 z0 z1 z4) ts us cs w0 w11 A1 A x0 x1 x4 x5 x7 x9 x11 x12 x13 rv lv x18 x19 x20 x21 dn ha hla hlc hRR.symm hAL.symm hz0.symm rfl rfl
    (fun j => by match j with | 0 => exact hX | 1 => exact hX | 2 => exact lR | 3 => exact lR | 4 => exact lR | _ + 5 => exact lA)
    (fun j => by match j with | 0 => exact lz0 | 1 => exact lz0 | 2 => exact lz1 | 3 => exact lz4 | _ + 4 => exact lz4) hb hlb hT hm2 h14 h15 t6
  simpa using key
theorem own_walk (now : Int) (timers : List Ac) (to : Int) (tv : Value) (w0 w : World) (A : Asn) (_ : -9223372036854775808 ≤ now ∧ now ≤ 9223372036854775807) (_ : -9223372036854775808 ≤ to ∧ to ≤ 9223372036854775807)
    (htl : timers.length ≤ 1048576) (hrow : Row w0 A tv timers.length 3 (acs timers)) (s : St w0 A w) :
    CallW Try.prog 4 [.int .i64 now, tv, .int .i64 to] (fun r w' => r = .bool true ∧ St w0 A w') w := by
  obtain ⟨ta, tc, rfl⟩ := hrow.val
  refine callW_of_lift l4_ok (by simp [l4]) ?_
  simp [l4]
  refine eff_call ((known_spec w0 w A s).mono ?_)
  rintro r w1 ⟨rfl, s1⟩
  simp
  have hmx := emN_max now 549755813888
  simp only [Int.cast_ofNat_Int] at hmx
  rw [hmx]
  have hlt := emN_lt now (n := 549755813888) (by decide)
  obtain ⟨N, hN⟩ : ∃ N, emN now 549755813888 = N := ⟨_, rfl⟩
  rw [hN] at hlt ⊢
  refine loopI (fun env w' => ∃ (i : Nat) (lv : Value) (L : List (Int × Int)), env = [.int .i64 N, .slice ta timers.length tc, .int .i64 to, .bool false, lv, .int .i64 i, undef, undef, undef, undef, undef, undef, undef, undef, undef, undef, undef, undef, undef, undef, undef, undef] ∧ i ≤ timers.length ∧ L.length = i ∧ i ≤ 60000 ∧
      (∀ x ∈ L, 1 ≤ x.1 ∧ x.1 ≤ (i : Int) ∧ (N : Int) < x.2 ∧ x.2 ≤ 1099511627776) ∧ (L.map (·.1)).Nodup ∧ St w0 (A * outs lv L) w')
    (fun env _ => timers.length - slotN env 5) ⟨0, _, [], rfl, by omega, rfl, by omega, by simp, by simp, s1.own_nil _ _⟩ ?_
  clear s s1
  rintro LQ env w' ⟨i, lv, L, rfl, hi, hL, h6, hLb, hLn, s'⟩ hN' hE hR
  obtain ⟨lva, lvc, rfl, _⟩ := s'.own_val
  have brk : ∀ i' : Value, HC.wp U2 h4_46 (QO w0 A) [.int .i64 N, .slice ta timers.length tc, .int .i64 to, .bool false, .slice lva L.length lvc, i', undef, undef, undef, undef, undef, undef, undef, undef, undef, undef, undef, undef, undef, undef, undef, undef] w' := by
    intro i'
    have hfr : frE N [] L = 0 := frE_ok L [] (fun x hx => by have := hLb x (by simpa using hx); exact ⟨this.1, this.2.2.1, this.2.2.2⟩) (by simpa using hLn) (by simp; omega)
    simp
    refine eff_call (From_spec N L (.slice lva L.length lvc) w0 w' (A * outs (.slice lva L.length lvc) L) (by omega) (row_own s') s' fun r w2 h2 => ?_)
    rw [if_pos (by omega), Int.toNat_natCast, if_pos hfr] at h2
    obtain ⟨p, ts, rfl, hp, hpm, s2⟩ := h2
    simp
    refine eff_call (From_spec N L (.slice lva L.length lvc) w0 w2 (A * outs (.slice lva L.length lvc) L * whl p N 0 ts) (by omega) ((row_own s').mono fun w s => s.drop) s2 fun r w3 h3 => ?_)
    rw [if_pos (by omega), Int.toNat_natCast, if_pos hfr] at h3
    obtain ⟨q, us, rfl, hq, hqm, s3⟩ := h3
    simp
    refine eff_call (From_spec N L (.slice lva L.length lvc) w0 w3 (A * outs (.slice lva L.length lvc) L * whl p N 0 ts * whl q N 0 us) (by omega) ((row_own s').mono fun w s => s.drop.drop) s3 fun r w4 h4 => ?_)
    rw [if_pos (by omega), Int.toNat_natCast, if_pos hfr] at h4
    obtain ⟨c, cs, rfl, hc, hcm, s4⟩ := h4
    have lts : ts.length = L.length := by rw [← hpm, List.length_map]
    have lus : us.length = L.length := by rw [← hqm, List.length_map]
    have lcs : cs.length = L.length := by rw [← hcm, List.length_map]
    simp
    refine eff_call (spoilt_spec L (.slice lva L.length lvc) w0 w4 (A * whl p N 0 ts * whl q N 0 us * whl c N 0 cs) (by omega) (s4.to (by ac_rfl)) fun r w5 s5 => ?_)
    simp
    have hto := ahN_bd to
    try simp (disch := omega) only [wrap64]
    obtain ⟨T, hT⟩ : ∃ T : Nat, N + ahN to = T := ⟨_, rfl⟩
    have hTe : (N : Int) + (ahN to : Int) = (T : Int) := by omega
    rw [hTe]
    refine eff_call (Advance_spec p N 0 ts T w0 w5 (A * whl q N 0 us * whl c N 0 cs) hp (by omega) (by omega) (by omega) ((s5.drop).to (by ac_rfl)) fun r w6 h6' => ?_)
    rw [if_pos (by omega), Int.toNat_natCast] at h6'
    obtain ⟨vx, rfl, s6⟩ := h6'
    simp
    refine eff_call (Advance_spec q N 0 us T w0 w6 (A * whl c N 0 cs * whl p T (0 + (movedT T ts).length) (restT T ts) * outs vx (sortT ((dueT T ts).map tmr))) hq (by omega) (by omega) (by omega) (s6.to (by ac_rfl)) fun r w7 h7 => ?_)
    rw [if_pos (by omega), Int.toNat_natCast] at h7
    obtain ⟨vy, rfl, s7⟩ := h7
    rw [show sortT ((dueT T us).map tmr) = outL T ts from outL_congr (by rw [hpm, hqm]), show sortT ((dueT T ts).map tmr) = outL T ts from rfl] at s7
    have lX := outL_len T ts
    have lr : ∀ us : List Tm, (restT T us).length ≤ us.length := fun us => by
      unfold restT
      rw [List.length_map]
      exact List.length_filter_le _ _
    have lr1 := lr ts
    have lr2 := lr us
    have lm : (movedT T us).length ≤ us.length := List.length_filter_le _ _
    simp
    have key := own_start p q c T N (0 + (movedT T ts).length) (0 + (movedT T us).length) 0 (outL T ts) (restT T ts) (restT T us) cs w0 w7 A (.int .i64 N) (.slice ta timers.length tc) (.slice lva L.length lvc) i' (.int .i64 0) (.int .i64 0) (.int .i64 0) vx vy undef undef undef undef undef undef undef undef hp.rest hq.rest hc (by omega) (by omega) (by omega) (by rw [rest_map, rest_map, hpm, hqm]) (by omega) (by omega) (by omega) (s7.to (by ac_rfl))
    simpa using key
  simp
  refine cndI (fun h => ?_) (fun h => ?_)
  · simp at h
    obtain ⟨h1, h2⟩ := h
    obtain ⟨g, o, cap', hv, hc⟩ := hrow.at (by omega)
    cases hv
    have h1' : i < timers.length := by omega
    have hbd := ahN_bd timers[i].x
    simp [h1]
    try simp (disch := omega) only [wrap64]
    refine eff_ldc (v := .int .i64 timers[i].x) (by rw [Nat.add_assoc]; exact hc _ s'.drop _ _ (acs_at h1' 2 _ rfl)) ?_
    simp [Instr.fill, Value.cells]
    try simp (disch := omega) only [wrap64]
    refine eff_bslV s' rfl ?_
    intro b w3 s3
    simp
    have s3' : St w0 (A * pt b (.cells (encT ((i : Int) + 1, (N : Int) + ahN timers[i].x)).toArray 32 (0, 0)) * outs (.slice lva L.length lvc) L) w3 := s3.swap
    refine eff_app (m := 1) (news := encT ((i : Int) + 1, (N : Int) + ahN timers[i].x)) s3' rfl s3.cells_look (encT_one _) (by decide) rfl (by unfold maxLen; omega) (by omega) ?_
    intro v2 w4 s4
    simp
    try simp (disch := omega) only [wrap64]
    have e : own 32 2 v2 (L.length + 1) (L.flatMap encT ++ encT ((i : Int) + 1, (N : Int) + ahN timers[i].x)) = outs v2 (L ++ [((i : Int) + 1, (N : Int) + ahN timers[i].x)]) := by
      show _ = own _ 2 v2 (L ++ [((i : Int) + 1, (N : Int) + ahN timers[i].x)]).length ((L ++ [((i : Int) + 1, (N : Int) + ahN timers[i].x)]).flatMap encT)
      rw [List.length_append, List.flatMap_append]
      simp
    rw [e] at s4
    refine hN' _ _ ⟨i + 1, v2, L ++ [((i : Int) + 1, (N : Int) + ahN timers[i].x)], by simp, by omega, by simp [hL], by omega, fun x hx => ?_, ?_, St.cut (pt b (.cells (encT ((i : Int) + 1, (N : Int) + ahN timers[i].x)).toArray 32 (0, 0))) s4 (by ac_rfl)⟩ (by simp [slotN]; omega)
    · rcases List.mem_append.1 hx with hx | hx
      · have := hLb x hx; omega
      · rw [List.mem_singleton.1 hx]; simp; omega
    · rw [List.map_append]
      refine List.nodup_append.2 ⟨hLn, by simp, fun a ha b hb e => ?_⟩
      obtain ⟨x, hx, rfl⟩ := List.mem_map.1 ha
      have := hLb x hx
      simp at hb
      omega
  · simp
    refine hE _ _ _ ?_
    exact brk _
end Go.HL.Wh
