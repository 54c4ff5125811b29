/-
  Wheel: the law of what is due: a timer is set, a timer is cancelled. No condition.
-/
import Derived.Test.YtngjaibngkhidaaWhQ
namespace Go.HL.Wh
open Go.HL Go.Proofs
set_option maxRecDepth 4000
set_option linter.unusedSimpArgs false
set_option linter.unusedVariables false
/-- an act -/
structure Ac where
  k : Int
  n : Int
  x : Int
def Ac.cs (a : Ac) : List Value := [.int .i64 a.k, .int .i64 a.n, .int .i64 a.x]
abbrev actA (b : Nat) (x : Ac) : Asn := pt b (.cells x.cs.toArray 34 (0, 0))
/-- all is well -/
structure DI (now mv ever : Nat) (ts : List Tm) (es : List En) (c : Nat) (x : Int × Int) : Prop where
  pl : plOK now ts
  set : setOK es c ts
  x1 : x.1 = 0
  x2 : x.2 ≤ now + 1
  now : now ≤ 1099511627776
  len : ts.length ≤ 65536
  mv : mv + lvs ts ≤ 4 * ever
theorem plOK.add {now : Nat} {ts : List Tm} (h : plOK now ts) (n : Int) (a b : Nat) (hn : 1 ≤ n) (ha : now < a) (h2 : a ≤ 1099511627776) (hf : ∀ u ∈ ts, u.n ≠ n) : plOK now (ts ++ [hgT ⟨n, a, 0, 0, b⟩ now]) := by
  refine ⟨?_, fun t ht => ?_, fun t ht => ?_, fun t ht => ?_⟩
  · rw [List.map_append]
    refine List.nodup_append.2 ⟨h.num, by simp, fun x hx y hy => ?_⟩
    obtain ⟨u, hu, rfl⟩ := List.mem_map.1 hx
    simp at hy
    subst hy
    exact hf u hu
  all_goals
    rcases List.mem_append.1 ht with ht | ht
  · exact h.pl t ht
  · rw [List.mem_singleton.1 ht]; exact ⟨rfl, rfl⟩
  · exact h.ah t ht
  · rw [List.mem_singleton.1 ht]; exact ha
  · exact h.bd t ht
  · rw [List.mem_singleton.1 ht]; exact ⟨h2, hn⟩
theorem plOK.off {now : Nat} {ts : List Tm} (h : plOK now ts) (n : Int) : plOK now (offT ts n) := by
  have hm : ∀ t ∈ offT ts n, t ∈ ts := fun t ht => (List.mem_filter.1 ht).1
  exact ⟨h.num.sublist (List.filter_sublist.map _), fun t ht => h.pl t (hm t ht), fun t ht => h.ah t (hm t ht), fun t ht => h.bd t (hm t ht)⟩
theorem DI.add {now mv ever : Nat} {ts : List Tm} {es : List En} {c : Nat} {x : Int × Int} (h : DI now mv ever ts es c x) (n : Int) (a b : Nat) (hn : 1 ≤ n) (ha : now < a) (h2 : a ≤ 1099511627776) (hf : ∀ u ∈ ts, u.n ≠ n) (hl : ts.length < 65536) :
    DI now mv (ever + 1) (ts ++ [hgT ⟨n, a, 0, 0, b⟩ now]) (es ++ [⟨n, .int .i64 a, c⟩]) (c + 1) x := by
  refine ⟨h.pl.add n a b hn ha h2 hf, h.set.add (t := hgT ⟨n, a, 0, 0, b⟩ now) hf, h.x1, h.x2, h.now, by simp; omega, ?_⟩
  have h1 := h.mv
  rw [lvs_app]
  have h3 : lvs [hgT ⟨n, a, 0, 0, b⟩ now] ≤ 4 := by
    have := (lvF_bd a now).1
    simpa [lvs, hgT] using this
  omega
theorem DI.off {now mv ever : Nat} {ts : List Tm} {es : List En} {c : Nat} {x : Int × Int} (h : DI now mv ever ts es c x) (n : Int) : DI now mv ever (offT ts n) (delI es n) c x := by
  refine ⟨h.pl.off n, h.set.del n, h.x1, h.x2, h.now, Nat.le_trans (List.length_filter_le _ _) h.len, ?_⟩
  have h1 := h.mv
  have h2 := lvs_filter (fun u => decide (u.n ≠ n)) ts
  have : lvs (offT ts n) ≤ lvs ts := h2
  omega
theorem DI.fwd {now mv ever to : Nat} {ts : List Tm} {es es' : List En} {c : Nat} {x : Int × Int} (h : DI now mv ever ts es c x) (hle : now ≤ to) (hto : to ≤ 1099511627776) (hs : setOK es' c (restT to ts)) : DI to (mv + (movedT to ts).length) ever (restT to ts) es' c (0, (to : Int) + 1) := by
  have h1 := moves_bd h.pl hle
  have h2 := h.mv
  refine ⟨h.pl.rest, hs, rfl, Int.le_refl _, hto, ?_, by omega⟩
  have h3 := h.len
  have : (restT to ts).length ≤ ts.length := by
    unfold restT
    rw [List.length_map]
    exact List.length_filter_le _ _
  omega
set_option maxHeartbeats 1000000 in
theorem sch_part (p now mv ever m c lb b : Nat) (ts : List Tm) (es : List En) (x0 : Int × Int) (a : Ac) (w0 w : World) (A : Asn) {Q : EX → List Value → World → Prop} (x1 x2 x4 x8 x10 x11 x12 x13 x14 x15 x16 x17 x18 x19 x20 : Value)
    (hI : DI now mv ever ts es c x0) (hev : ever ≤ 1048576)
    (s : St w0 (A * whl p now mv ts * imap m es c * lastA lb x0 * actA b a) w)
    (hk : ∀ y10 y11 ts' es' c' ever' w', DI now mv ever' ts' es' c' x0 → ever' ≤ ever + 1 → St w0 (A * whl p now mv ts' * imap m es' c' * lastA lb x0 * actA b a) w' → Q .nrm [.int .i64 now, x1, x2, .pointer (some ⟨p, 0, none⟩), x4, .map (some m), .int .i64 ever', .pointer (some ⟨lb, 0, none⟩), x8, .pointer (some ⟨b, 0, none⟩), y10, y11, x12, x13, x14, x15, x16, x17, x18, x19, x20] w') :
    h3_12.wp U2 Q [.int .i64 now, x1, x2, .pointer (some ⟨p, 0, none⟩), x4, .map (some m), .int .i64 ever, .pointer (some ⟨lb, 0, none⟩), x8, .pointer (some ⟨b, 0, none⟩), x10, x11, x12, x13, x14, x15, x16, x17, x18, x19, x20] w := by
  have hnow := hI.now
  have hbd := ahN_bd a.x
  have hlen := hI.set.len
  have hcell : ∀ {T : List Tm} {E : List En} {C : Nat} {w' : World}, St w0 (A * whl p now mv T * imap m E C * lastA lb x0 * actA b a) w' → w'.cell? ⟨b, 1, none⟩ = some (.int .i64 a.n) := fun s' => s'.row_cells 1 _ rfl
  simp
  refine eff_ldc (v := .int .i64 a.x) (s.row_cells 2 _ rfl) ?_
  simp
  try simp (disch := omega) only [wrap64]
  refine eff_ldc (hcell s) ?_
  simp
  refine eff_call (Schedule_spec p now mv ts a.n ((now : Int) + ahN a.x) w0 w (A * imap m es c * lastA lb x0 * actA b a) hnow (s.to (by ac_rfl)) fun r w1 h1 => ?_)
  by_cases hc : 1 ≤ a.n ∧ (now : Int) < (now : Int) + ahN a.x ∧ (now : Int) + ahN a.x ≤ 1099511627776 ∧ (∀ u ∈ ts, u.n ≠ a.n) ∧ ts.length < 65536
  · rw [if_pos hc] at h1
    obtain ⟨rfl, b', s1⟩ := h1
    obtain ⟨c1, c2, c3, c4, c5⟩ := hc
    have s1 := s1.to (B := A * whl p now mv (ts ++ [hgT ⟨a.n, ((now : Int) + ahN a.x).toNat, 0, 0, b'⟩ now]) * imap m es c * lastA lb x0 * actA b a) (by ac_rfl)
    have hg : getI es a.n = none := by rw [hI.set.get, fnd_none.2 c4]; rfl
    simp
    refine eff_ldc (hcell s1) ?_
    simp [c1, c3]
    refine eff_ldc (hcell s1) ?_
    simp
    refine eff_lookI setI s1.drop.drop.look ?_
    rw [hg]
    simp
    refine eff_lenI setI.ty s1.drop.drop.look ?_
    have c5' : es.length < 65536 := by omega
    simp
    refine cndI (fun _ => ?_) (fun hx => absurd hx (by simp; omega))
    simp
    refine eff_ldc (hcell s1) ?_
    simp
    refine eff_updI setI (s1.to (B := A * whl p now mv (ts ++ [hgT ⟨a.n, ((now : Int) + ahN a.x).toNat, 0, 0, b'⟩ now]) * lastA lb x0 * actA b a * imap m es c) (by ac_rfl)) hg ?_
    intro w2 s2
    simp
    try simp (disch := omega) only [wrap64]
    have hD := hI.add a.n ((now : Int) + ahN a.x).toNat b' c1 (by omega) (by omega) c4 c5
    rw [show ((((now : Int) + ahN a.x).toNat : Nat) : Int) = (now : Int) + ahN a.x by omega] at hD
    have hq := hk (.int .i64 ((now : Int) + ahN a.x)) (.int .i64 0) _ _ _ _ w2 hD (Nat.le_refl _) (s2.to (by ac_rfl))
    simpa using hq
  · rw [if_neg hc] at h1
    obtain ⟨⟨e, rfl, he⟩, s1⟩ := h1
    have s1 := s1.to (B := A * whl p now mv ts * imap m es c * lastA lb x0 * actA b a) (by ac_rfl)
    have hq := hk (.int .i64 ((now : Int) + ahN a.x)) (.int .i64 e) _ _ _ _ w1 hI (by omega) s1
    simp
    refine eff_ldc (hcell s1) ?_
    by_cases c1 : 1 ≤ a.n
    · by_cases c3 : (now : Int) + ahN a.x ≤ 1099511627776
      · simp [c1, c3]
        refine eff_ldc (hcell s1) ?_
        simp
        refine eff_lookI setI s1.drop.drop.look ?_
        rw [hI.set.get]
        cases hf : fnd ts a.n with
        | none =>
          simp
          refine eff_lenI setI.ty s1.drop.drop.look ?_
          have c5 : ¬ es.length < 65536 := fun h => hc ⟨c1, by omega, c3, fnd_none.1 hf, by omega⟩
          simp
          refine cndI (fun hx => absurd hx (by simp; omega)) (fun _ => ?_)
          simp [he]
          simpa using hq
        | some t =>
          have ht : t ∈ ts := List.mem_of_find?_eq_some hf
          have hah := hI.pl.ah t ht
          have hne : ¬ t.a = 0 := by omega
          simp [hne, he]
          simpa using hq
      · simp [c1, c3, he]
        simpa using hq
    · simp [c1, he]
      simpa using hq
set_option maxHeartbeats 1000000 in
theorem can_part (p now mv ever m c lb b : Nat) (ts : List Tm) (es : List En) (x0 : Int × Int) (a : Ac) (w0 w : World) (A : Asn) {Q : EX → List Value → World → Prop} (x1 x2 x4 x8 x10 x11 x12 x13 x14 x15 x16 x17 x18 x19 x20 : Value)
    (hI : DI now mv ever ts es c x0) (hev : ever ≤ 1048576)
    (s : St w0 (A * whl p now mv ts * imap m es c * lastA lb x0 * actA b a) w)
    (hk : ∀ y12 ts' es' w', DI now mv ever ts' es' c x0 → St w0 (A * whl p now mv ts' * imap m es' c * lastA lb x0 * actA b a) w' → Q .nrm [.int .i64 now, x1, x2, .pointer (some ⟨p, 0, none⟩), x4, .map (some m), .int .i64 ever, .pointer (some ⟨lb, 0, none⟩), x8, .pointer (some ⟨b, 0, none⟩), x10, x11, y12, x13, x14, x15, x16, x17, x18, x19, x20] w') :
    h3_16.wp U2 Q [.int .i64 now, x1, x2, .pointer (some ⟨p, 0, none⟩), x4, .map (some m), .int .i64 ever, .pointer (some ⟨lb, 0, none⟩), x8, .pointer (some ⟨b, 0, none⟩), x10, x11, x12, x13, x14, x15, x16, x17, x18, x19, x20] w := by
  have hcell : ∀ {T : List Tm} {E : List En} {C : Nat} {w' : World}, St w0 (A * whl p now mv T * imap m E C * lastA lb x0 * actA b a) w' → w'.cell? ⟨b, 1, none⟩ = some (.int .i64 a.n) := fun s' => s'.row_cells 1 _ rfl
  simp
  refine eff_ldc (hcell s) ?_
  simp
  refine eff_call (Cancel_spec p now mv ts a.n w0 w (A * imap m es c * lastA lb x0 * actA b a) (s.to (by ac_rfl)) fun r w1 hr s1 => ?_)
  have s1 := s1.to (B := A * whl p now mv (offT ts a.n) * imap m es c * lastA lb x0 * actA b a) (by ac_rfl)
  have fin : ∀ y12, HC.wp U2 h3_13 Q [.int .i64 now, x1, x2, .pointer (some ⟨p, 0, none⟩), x4, .map (some m), .int .i64 ever, .pointer (some ⟨lb, 0, none⟩), x8, .pointer (some ⟨b, 0, none⟩), x10, x11, y12, x13, x14, x15, x16, x17, x18, x19, x20] w1 := by
    intro y12
    simp
    refine eff_ldc (hcell s1) ?_
    simp
    refine eff_delI setI (s1.to (B := A * whl p now mv (offT ts a.n) * lastA lb x0 * actA b a * imap m es c) (by ac_rfl)) ?_
    intro w2 s2
    simp
    exact hk _ _ _ w2 (hI.off a.n) (s2.to (by ac_rfl))
  subst hr
  by_cases hc : ∀ u ∈ ts, u.n ≠ a.n
  · rw [if_pos hc]
    simp
    refine eff_ldc (hcell s1) ?_
    simp
    refine eff_lookI setI s1.drop.drop.look ?_
    rw [hI.set.get, fnd_none.2 hc]
    simp
    simpa using fin (.int .i64 93)
  · rw [if_neg hc]
    simp
    refine eff_ldc (hcell s1) ?_
    simp
    refine eff_lookI setI s1.drop.drop.look ?_
    rw [hI.set.get]
    cases hf : fnd ts a.n with
    | none => exact absurd (fnd_none.1 hf) hc
    | some t =>
      have ht : t ∈ ts := List.mem_of_find?_eq_some hf
      have hah := hI.pl.ah t ht
      have hne : ¬ t.a = 0 := by omega
      simp [hne]
      simpa using fin (.int .i64 0)
set_option maxHeartbeats 1000000 in
theorem chk_part (p now mv ever m c lb b : Nat) (ts : List Tm) (es : List En) (x0 : Int × Int) (a : Ac) (w0 w : World) (A : Asn) {Q : EX → List Value → World → Prop} (x1 x2 x4 x8 x10 x11 x12 x13 x14 x15 x16 x17 x18 x19 x20 : Value)
    (hI : DI now mv ever ts es c x0) (hev : ever ≤ 1048576)
    (s : St w0 (A * whl p now mv ts * imap m es c * lastA lb x0 * actA b a) w)
    (hk : ∀ w', St w0 (A * whl p now mv ts * imap m es c * lastA lb x0 * actA b a) w' → Q .nrm [.int .i64 now, x1, x2, .pointer (some ⟨p, 0, none⟩), x4, .map (some m), .int .i64 ever, .pointer (some ⟨lb, 0, none⟩), x8, .pointer (some ⟨b, 0, none⟩), x10, x11, x12, x13, x14, x15, x16, x17, x18, x19, x20] w') :
    h3_3.wp U2 Q [.int .i64 now, x1, x2, .pointer (some ⟨p, 0, none⟩), x4, .map (some m), .int .i64 ever, .pointer (some ⟨lb, 0, none⟩), x8, .pointer (some ⟨b, 0, none⟩), x10, x11, x12, x13, x14, x15, x16, x17, x18, x19, x20] w := by
  have hlen := hI.set.len
  have hmv := hI.mv
  obtain ⟨B, hB⟩ : ∃ B, A * imap m es c * lastA lb x0 * actA b a = B := ⟨_, rfl⟩
  have hto : A * whl p now mv ts * imap m es c * lastA lb x0 * actA b a = B * whl p now mv ts := by rw [← hB]; ac_rfl
  simp
  refine eff_call ((Len_spec p now mv ts w0 w B (hto ▸ s)).mono ?_)
  rintro r w1 ⟨rfl, s1⟩
  simp
  rw [← hto] at s1
  refine eff_lenI setI.ty s1.drop.drop.look ?_
  rw [hto] at s1
  rw [hlen]
  simp
  refine eff_call ((Now_spec p now mv ts w0 w1 B s1).mono ?_)
  rintro r w2 ⟨rfl, s2⟩
  simp
  refine eff_call ((Moves_spec p now mv ts w0 w2 B s2).mono ?_)
  rintro r w3 ⟨rfl, s3⟩
  have h0 : ¬ (mv : Int) < 0 := by omega
  simp [h0]
  refine eff_call ((Moves_spec p now mv ts w0 w3 B s3).mono ?_)
  rintro r w4 ⟨rfl, s4⟩
  simp
  try simp (disch := omega) only [wrap64]
  have h4 : ¬ (4 * (ever : Int) < mv) := by omega
  simp [h4]
  exact hk w4 (hto ▸ s4)
end Go.HL.Wh
