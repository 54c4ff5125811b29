/-
  Wheel: the law of what is due: the set is looked through; time goes on. No condition.
-/
import Derived.Test.YtngjaibngkhidaaWhP
namespace Go.HL.Wh
open Go.HL Go.Proofs
set_option maxRecDepth 4000
set_option linter.unusedSimpArgs false
set_option linter.unusedVariables false
theorem left_push {es : List En} {seen : Array Nat} {e : En} (he : e ∈ es) (hn : e.b ∉ seen) : (leftE es (seen.push e.b)).length + 1 ≤ (leftE es seen).length := by
  have e1 : leftE es (seen.push e.b) = (leftE es seen).filter fun x => !decide (x.b = e.b) := by
    unfold leftE
    rw [List.filter_filter]
    refine List.filter_congr fun x _ => ?_
    rw [Bool.eq_iff_iff]
    simp [and_comm]
  rw [e1]
  refine Nat.lt_of_le_of_ne (List.length_filter_le _ _) fun h => ?_
  have h2 := (List.length_filter_eq_length_iff.1 h) e (List.mem_filter.2 ⟨he, by simpa using hn⟩)
  simp at h2
theorem left_start (es : List En) : (leftE es #[]).length + (#[] : Array Nat).size ≤ es.length := by
  exact List.length_filter_le (fun e : En => !(#[] : Array Nat).contains e.b) es
theorem sets_part (to m c lb : Nat) (ts : List Tm) (es : List En) (x0 : Int × Int) (w0 w : World) (A : Asn) {Q : EX → List Value → World → Prop} (x1 x2 x3 x4 x6 x8 x9 x10 x11 x12 x13 x14 x15 x16 x17 x18 x19 x20 : Value)
    (hp : plOK to ts) (hto : to ≤ 1099511627776) (hs : setOK es c ts)
    (s : St w0 (A * imap m es c * lastA lb x0) w)
    (hk : ∀ y18 y20 w', St w0 (A * imap m es c * lastA lb (0, (to : Int) + 1)) w' → Q .nrm [.int .i64 to, x1, x2, x3, x4, .map (some m), x6, .pointer (some ⟨lb, 0, none⟩), x8, x9, x10, x11, x12, x13, x14, x15, x16, x17, y18, x19, y20] w') :
    h3_25.wp U2 Q [.int .i64 to, x1, x2, x3, x4, .map (some m), x6, .pointer (some ⟨lb, 0, none⟩), x8, x9, x10, x11, x12, x13, x14, x15, x16, x17, x18, x19, x20] w := by
  simp
  refine eff_rngI setI.ty s s.swap.look ?_
  intro b w1 s1
  simp
  refine loopI (fun env w' => ∃ (seen : Array Nat) (y18 : Value), env = [.int .i64 to, x1, x2, x3, x4, .map (some m), x6, .pointer (some ⟨lb, 0, none⟩), x8, x9, x10, x11, x12, x13, x14, x15, x16, x17, y18, x19, .pointer (some ⟨b, 0, none⟩)] ∧ (leftE es seen).length + seen.size ≤ es.length ∧ St w0 (A * lastA lb x0 * imap m es c * pt b (.mapIter (some m) c seen c)) w') (fun _ w' => es.length + 1 - seenN w' b)
    ⟨#[], x18, rfl, left_start es, s1.to (by ac_rfl)⟩ ?_
  rintro LQ env w' ⟨seen, y18, rfl, hcnt, s'⟩ hN hE hR
  have hseen : seenN w' b = seen.size := by unfold seenN; rw [s'.look]
  simp
  refine eff_nxtI s' hs.ok.lt (fun e he hns w2 s2 => ?_) (fun hall w2 s2 => ?_)
  · have hleft := left_push he hns
    simp
    refine eff_ent s2 he hs.ok.bn ?_
    have hm : (e.k, e.v) ∈ setE ts := by rw [← hs.eq]; exact List.mem_map.2 ⟨e, he, rfl⟩
    obtain ⟨t, ht, hte⟩ := List.mem_map.1 hm
    have hev : e.v = .int .i64 t.a := (congrArg Prod.snd hte).symm
    rw [hev]
    have hah := hp.ah t ht
    have hna : ¬ t.a ≤ to := by omega
    simp [hna]
    refine hN _ _ ⟨seen.push e.b, _, by simp; rfl, ?_, s2⟩ ?_
    · rw [Array.size_push]; omega
    · have h1 : seenN w2 b = seen.size + 1 := by unfold seenN; rw [s2.look]; exact Array.size_push _
      rw [h1, hseen]; omega
  · simp
    refine hE _ _ _ ?_
    simp [Instr.fill, Value.cells]
    try simp (disch := omega) only [wrap64]
    refine eff_stA (vs := encT (0, (to : Int) + 1)) (St.cut (pt b (.mapIter (some m) c seen c)) s2 (B := A * imap m es c * lastA lb x0) (by ac_rfl)) rfl rfl (encT_one _) (by simp) ?_
    intro w3 s3
    have s3 : St w0 (A * imap m es c * lastA lb (0, (to : Int) + 1)) w3 := by simpa using s3
    simp
    exact hk _ _ _ s3
theorem fwd_part (p now mv to m c lb : Nat) (ts : List Tm) (es : List En) (x0 : Int × Int) (w0 w : World) (A : Asn) {Q : EX → List Value → World → Prop} (x1 x2 x4 x6 x8 x9 x10 x11 x12 x14 x15 x16 x17 x18 x19 x20 : Value)
    (hp : plOK now ts) (hle : now ≤ to) (hto : to ≤ 1099511627776) (hs : setOK es c ts) (hx1 : x0.1 = 0) (hx2 : x0.2 ≤ now + 1) (hlen : ts.length ≤ 65536) (hmv : mv ≤ 2305843009213693952)
    (s : St w0 (A * whl p now mv ts * imap m es c * lastA lb x0) w)
    (hk : ∀ y14 y15 y16 y17 y18 y20 es' w', setOK es' c (restT to ts) → St w0 (A * whl p to (mv + (movedT to ts).length) (restT to ts) * imap m es' c * lastA lb (0, (to : Int) + 1)) w' → Q .nrm [.int .i64 to, x1, x2, .pointer (some ⟨p, 0, none⟩), x4, .map (some m), x6, .pointer (some ⟨lb, 0, none⟩), x8, x9, x10, x11, x12, .int .i64 to, y14, y15, y16, y17, y18, x19, y20] w') :
    h3_40.wp U2 Q [.int .i64 now, x1, x2, .pointer (some ⟨p, 0, none⟩), x4, .map (some m), x6, .pointer (some ⟨lb, 0, none⟩), x8, x9, x10, x11, x12, .int .i64 to, x14, x15, x16, x17, x18, x19, x20] w := by
  simp
  refine eff_call (Advance_spec p now mv ts to w0 w (A * imap m es c * lastA lb x0) hp (by omega) hlen hmv (s.to (by ac_rfl)) fun r w1 h1 => ?_)
  rw [if_pos (by omega), Int.toNat_natCast] at h1
  obtain ⟨v, rfl, s1⟩ := h1
  simp
  have h := kloop_part now to m c lb ts es x0 v w0 w1 (A * whl p to (mv + (movedT to ts).length) (restT to ts)) (Q := seqQ U2 h3_25 Q) x1 x2 (.pointer (some ⟨p, 0, none⟩)) x4 x6 x8 x9 x10 x11 x12 (.int .i64 to) (.int .i64 0) x17 x18 x19 x20 hp hto hs hx1 hx2 hlen (s1.to (by ac_rfl)) fun y16 y17 es' x' w2 hs' s2 => ?_
  · simpa using h
  · refine sets_part to m c lb (restT to ts) es' x' w0 w2 (A * whl p to (mv + (movedT to ts).length) (restT to ts)) x1 x2 (.pointer (some ⟨p, 0, none⟩)) x4 x6 x8 x9 x10 x11 x12 (.int .i64 to) v (.int .i64 0) y16 y17 x18 x19 x20 hp.rest hto hs' (St.cut (outs v (outL to ts)) s2 (by ac_rfl)) fun y18 y20 w3 s3 => ?_
    exact hk _ _ _ _ _ _ _ _ hs' s3
end Go.HL.Wh
