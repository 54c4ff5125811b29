/-
  Wheel: the law of what is due, walked. Conditions: so many acts at most.
-/
import Derived.Test.YtngjaibngkhidaaWhR
import Derived.Test.YtngjaibngkhidaaOpen2
namespace Go.HL.Wh
open Go.HL Go.Proofs
set_option maxRecDepth 4000
set_option linter.unusedSimpArgs false
set_option linter.unusedVariables false
def acs (l : List Ac) : List Value := l.flatMap Ac.cs
theorem ac_len (x : Ac) : x.cs.length = 3 := rfl
theorem acs_at {l : List Ac} {i : Nat} (h : i < l.length) : ∀ j u, (l[i].cs)[j]? = some u → (acs l)[i * 3 + j]? = some u := by
  intro j u hu
  have hj : j < 3 := (List.getElem?_eq_some_iff.1 hu).1
  rw [← hu]
  exact flat_get Ac.cs 3 ac_len l i j h hj
theorem acs_rows : ∀ rows : List (List Int), (∀ r ∈ rows, r.length = 3) → ∃ xs : List Ac, xs.length = rows.length ∧ acs xs = rows.flatMap rowV
  | [], _ => ⟨[], rfl, rfl⟩
  | r :: rows, h => by
    obtain ⟨xs, h1, h2⟩ := acs_rows rows fun x hx => h x (List.mem_cons_of_mem _ hx)
    have hr := h r (List.mem_cons_self ..)
    match r, hr with
    | [a, b, c], _ => exact ⟨⟨a, b, c⟩ :: xs, by simp [h1], by rw [List.flatMap_cons, ← h2]; rfl⟩
theorem ac_one (a : Ac) : ∀ u ∈ a.cs, u.oneCell' = true := fun u hu => by simp [Ac.cs] at hu; rcases hu with rfl | rfl | rfl <;> rfl
set_option maxHeartbeats 8000000 in
theorem due_walk (now : Int) (acts : List Ac) (v : Value) (w0 w : World) (A : Asn) (_ : -9223372036854775808 ≤ now ∧ now ≤ 9223372036854775807) (hl : acts.length ≤ 1048576) (hrow : Row w0 A v acts.length 3 (acs acts)) (s : St w0 A w) :
    CallW Try.prog 3 [.int .i64 now, v] (fun r w' => r = .bool true ∧ St w0 A w') w := by
  obtain ⟨a, cap, rfl⟩ := hrow.val
  refine callW_of_lift l3_ok (by simp [l3]) ?_
  simp [l3]
  refine eff_call ((known_spec w0 w A s).mono ?_)
  rintro r w1 ⟨rfl, s1⟩
  simp
  obtain ⟨N, hN⟩ : ∃ N, (now.emod 1099511627776).toNat = N := ⟨_, rfl⟩
  have hNb : N ≤ 1099511627776 := by
    have h1 := Int.emod_lt_of_pos now (show (0 : Int) < 1099511627776 by decide)
    have h2 : now.emod 1099511627776 < 1099511627776 := h1
    omega
  have hm : max (now.emod 1099511627776) 0 = (N : Int) := by rw [← hN]; exact (Int.ofNat_toNat _).symm
  simp only [hm]
  refine eff_call (New_spec N w0 w1 A s1 fun r w2 h2 => ?_)
  rw [if_pos (by omega), Int.toNat_natCast] at h2
  obtain ⟨p, rfl, s2⟩ := h2
  simp
  refine eff_mkmI s2 ?_
  intro m w3 s3
  simp
  have hfill : Instr.fill (fun x => [(0, 1), (1, 1)][x]?) #[Value.int IntKind.i64 0, Value.int IntKind.i64 0] [(1, Value.int IntKind.i64 (N : Int))] = some #[.int .i64 0, .int .i64 (N : Int)] := by rfl
  rw [hfill]
  refine ⟨rfl, ?_⟩
  refine eff_new s3 ?_
  intro lb w4 s4
  simp
  rw [hfill]
  refine eff_stA (vs := encT (0, (N : Int))) s4 rfl rfl (encT_one _) (by simp) ?_
  intro w5 s5
  have s5 : St w0 (A * whl p N 0 [] * imap m [] 0 * lastA lb (0, (N : Int))) w5 := by simpa using s5
  simp
  refine loopI (fun env w' => ∃ (i now mv ever : Nat) (ts : List Tm) (es : List En) (c : Nat) (x0 : Int × Int) (x9 x10 x11 x12 x13 x14 x15 x16 x17 x18 x19 x20 : Value), env = [.int .i64 now, .slice a acts.length cap, .bool false, .pointer (some ⟨p, 0, none⟩), .int .i64 0, .map (some m), .int .i64 ever, .pointer (some ⟨lb, 0, none⟩), .int .i64 i, x9, x10, x11, x12, x13, x14, x15, x16, x17, x18, x19, x20] ∧ i ≤ acts.length ∧ ever ≤ i ∧ DI now mv ever ts es c x0 ∧ St w0 (A * whl p now mv ts * imap m es c * lastA lb x0) w')
    (fun env _ => acts.length - slotN env 8) ⟨0, N, 0, 0, [], [], 0, (0, (N : Int)), _, _, _, _, _, _, _, _, _, _, _, _, rfl, by omega, by omega, ⟨⟨by simp, by simp, by simp, by simp⟩, ⟨okE_nil 0, rfl⟩, rfl, by simp; omega, hNb, by simp, by simp [lvs]⟩, s5⟩ ?_
  rintro LQ env w' ⟨i, now, mv, ever, ts, es, c, x0, x9, x10, x11, x12, x13, x14, x15, x16, x17, x18, x19, x20, rfl, hi, hev, hI, s'⟩ hN' hE hR
  have hnow := hI.now
  simp
  refine cndI (fun h => ?_) (fun h => ?_)
  · simp at h
    obtain ⟨g, o, cap', hv, hc⟩ := hrow.at (by omega)
    cases hv
    obtain ⟨ac, hac⟩ : ∃ ac, acts[i] = ac := ⟨_, rfl⟩
    have hbd := ahN_bd ac.x
    simp [h]
    refine eff_ldcs (vs := acts[i].cs) (fun j u hu => by rw [Nat.add_assoc]; exact hc _ (s'.drop.drop.drop) _ _ (acs_at h j u hu)) rfl ?_
    rw [hac]
    simp
    refine eff_new s' ?_
    intro b w6 s6
    simp
    refine eff_stA (vs := ac.cs) s6 rfl rfl (ac_one _) (by simp) ?_
    intro w7 s7
    have s7 : St w0 (A * whl p now mv ts * imap m es c * lastA lb x0 * actA b ac) w7 := by simpa using s7
    simp
    refine eff_ldc (v := .int .i64 ac.k) (s7.row_cells 0 _ rfl) ?_
    simp
    have fin1 : ∀ (now mv ever : Nat) (ts : List Tm) (es : List En) (c : Nat) (x0 : Int × Int) (x10 x11 x12 x13 x14 x15 x16 x17 x18 x19 x20 : Value) (w8 : World), DI now mv ever ts es c x0 → ever ≤ i + 1 → St w0 (A * whl p now mv ts * imap m es c * lastA lb x0 * actA b ac) w8 → HC.wp U2 h3_1 LQ [.int .i64 now, .slice (some ⟨g, o, none⟩) acts.length cap, .bool false, .pointer (some ⟨p, 0, none⟩), .int .i64 0, .map (some m), .int .i64 ever, .pointer (some ⟨lb, 0, none⟩), .int .i64 i, .pointer (some ⟨b, 0, none⟩), x10, x11, x12, x13, x14, x15, x16, x17, x18, x19, x20] w8 := by
      intro now mv ever ts es c x0 x10 x11 x12 x13 x14 x15 x16 x17 x18 x19 x20 w8 hI hev s8
      simp
      try simp (disch := omega) only [wrap64]
      refine hN' _ _ ⟨i + 1, now, mv, ever, ts, es, c, x0, _, _, _, _, _, _, _, _, _, _, _, _, by simp; exact ⟨rfl, rfl, rfl, rfl, rfl, rfl, rfl, rfl, rfl, rfl, rfl, rfl⟩, by omega, hev, hI, St.cut (actA b ac) s8 (by ac_rfl)⟩ (by simp [slotN]; omega)
    have fin3 : ∀ (now mv ever : Nat) (ts : List Tm) (es : List En) (c : Nat) (x0 : Int × Int) (x10 x11 x12 x13 x14 x15 x16 x17 x18 x19 x20 : Value) (w8 : World), DI now mv ever ts es c x0 → ever ≤ i + 1 → St w0 (A * whl p now mv ts * imap m es c * lastA lb x0 * actA b ac) w8 → HC.wp U2 h3_3 (blockQ 1 (seqQ U2 h3_1 LQ)) [.int .i64 now, .slice (some ⟨g, o, none⟩) acts.length cap, .bool false, .pointer (some ⟨p, 0, none⟩), .int .i64 0, .map (some m), .int .i64 ever, .pointer (some ⟨lb, 0, none⟩), .int .i64 i, .pointer (some ⟨b, 0, none⟩), x10, x11, x12, x13, x14, x15, x16, x17, x18, x19, x20] w8 := by
      intro now mv ever ts es c x0 x10 x11 x12 x13 x14 x15 x16 x17 x18 x19 x20 w8 hI hev s8
      refine chk_part p now mv ever m c lb b ts es x0 ac w0 w8 A _ _ _ _ _ _ _ _ _ _ _ _ _ _ _ hI (by omega) s8 fun w9 s9 => ?_
      exact fin1 now mv ever ts es c x0 x10 x11 x12 x13 x14 x15 x16 x17 x18 x19 x20 w9 hI hev s9
    refine cndI (fun hk => ?_) (fun hk => ?_)
    · refine sch_part p now mv ever m c lb b ts es x0 ac w0 w7 A _ _ _ _ _ _ _ _ _ _ _ _ _ _ _ hI (by omega) s7 fun y10 y11 ts' es' c' ever' w8 hI' hev' s8 => ?_
      exact fin3 _ _ _ _ _ _ _ _ _ _ _ _ _ _ _ _ _ _ w8 hI' (by omega) s8
    show HC.wp U2 h3_44 _ _ _
    simp
    refine cndI (fun hk2 => ?_) (fun hk2 => ?_)
    · refine can_part p now mv ever m c lb b ts es x0 ac w0 w7 A _ _ _ _ _ _ _ _ _ _ _ _ _ _ _ hI (by omega) s7 fun y12 ts' es' w8 hI' s8 => ?_
      exact fin3 _ _ _ _ _ _ _ _ _ _ _ _ _ _ _ _ _ _ w8 hI' (by omega) s8
    show HC.wp U2 h3_43 _ _ _
    simp
    refine cndI (fun hk3 => ?_) (fun hk3 => ?_)
    · show HC.wp U2 h3_42 _ _ _
      simp
      refine eff_ldc (v := .int .i64 ac.x) (s7.row_cells 2 _ rfl) ?_
      simp
      try simp (disch := omega) only [wrap64]
      refine cndI (fun ht => ?_) (fun ht => ?_)
      · simp
        have h := fin1 now mv ever ts es c x0 x10 x11 x12 (.int .i64 ((now : Int) + ahN ac.x)) x14 x15 x16 x17 x18 (.int .i64 ac.k) x20 w7 hI (by omega) s7
        simpa using h
      · simp at ht
        simp
        have hmvb := hI.mv
        have h := fwd_part p now mv (now + ahN ac.x) m c lb ts es x0 w0 w7 (A * actA b ac) (Q := blockQ 2 (seqQ U2 h3_3 (blockQ 1 (seqQ U2 h3_1 LQ)))) (.slice (some ⟨g, o, none⟩) acts.length cap) (.bool false) (.int .i64 0) (.int .i64 ever) (.int .i64 i) (.pointer (some ⟨b, 0, none⟩)) x10 x11 x12 x14 x15 x16 x17 x18 (.int .i64 ac.k) x20 hI.pl (by omega) (by omega) hI.set hI.x1 hI.x2 hI.len (by omega) (s7.to (by ac_rfl)) fun y14 y15 y16 y17 y18 y20 es' w8 hs' s8 => ?_
        · simpa using h
        · exact fin3 _ _ _ _ _ _ _ _ _ _ _ _ _ _ _ _ _ _ w8 (hI.fwd (by omega) (by omega) hs') (by omega) (s8.to (by ac_rfl))
    · exact fin3 _ _ _ _ _ _ _ _ _ _ _ _ _ _ _ _ _ _ w7 hI (by omega) s7
  · simp at h
    simp
    refine hE _ _ _ ?_
    simp
    exact s'.drop.drop.drop
end Go.HL.Wh
