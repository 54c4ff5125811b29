/-
  Wheel: time goes on; the walk through one slot. Conditions: so many timers at most.
-/
import Derived.Test.YtngjaibngkhidaaWhI
namespace Go.HL.Wh
open Go.HL Go.Proofs
set_option maxRecDepth 4000
set_option linter.unusedSimpArgs false
set_option linter.unusedVariables false
structure advP (now to mv0 : Nat) (ts : List Tm) : Prop where
  pl : plOK now ts
  lt : now < to
  bd : to ≤ 1099511627776
  len : ts.length ≤ 65536
  mv : mv0 ≤ 2305843009213693952
set_option maxHeartbeats 4000000 in
theorem slot_part (p now to mv0 : Nat) (ts : List Tm) (w0 w : World) (A : Asn) {Q : EX → List Value → World → Prop} (l n : Nat) (v x2 x3 x4 x5 x9 x10 x11 x12 : Value) (hp : advP now to mv0 ts) (hl : l ≤ 4) (hn : n < 64) (h4 : l = 4 → n = 0) (hv : visF now to (l, n))
    (s : St w0 (A * advA p to mv0 ts (vD l n) v) w)
    (hk : ∀ v' y9 y10 y12 w', St w0 (A * advA p to mv0 ts (vD l (n + 1)) v') w' → Q .nrm [.pointer (some ⟨p, 0, none⟩), .int .i64 to, x2, x3, x4, x5, v', .int .i64 l, .int .i64 n, y9, y10, x11, y12] w') :
    h14_17.wp U2 Q [.pointer (some ⟨p, 0, none⟩), .int .i64 to, x2, x3, x4, x5, v, .int .i64 l, .int .i64 n, x9, x10, x11, x12] w := by
  obtain ⟨os, hos, s1⟩ := advopen s
  obtain ⟨am, aes, ac, Y, hok, s2⟩ := wopen s1
  obtain ⟨q, hqe⟩ : ∃ q, l * 64 + n = q := ⟨_, rfl⟩
  have hq257 : q < 257 := by omega
  have hnum := hp.pl.num
  simp
  refine ⟨⟨by omega, by omega, by omega⟩, ?_⟩
  rw [hqe]
  refine eff_ldc (v := slv (Y q)) (wc_cell s2 hq257) ?_
  cases hYq : Y q with
  | none =>
    simp [slv]
    refine eff_rngN hungI.ty s2 ?_
    intro b w3 s3
    simp
    refine loopI (fun env w' => env = [.pointer (some ⟨p, 0, none⟩), .int .i64 to, x2, x3, x4, x5, v, .int .i64 l, .int .i64 n, x9, x10, x11, .pointer (some ⟨b, 0, none⟩)] ∧ St w0 (A * outs v os * hungA (curT to (vD l n) ts) * bigA slA Y 257 * imap am aes ac * wc p to (mv0 + (movT to (vD l n) ts).length) am Y * pt b (.mapIter none 0 #[] 0)) w') (fun _ _ => 0) ⟨rfl, s3⟩ ?_
    rintro LQ env w' ⟨rfl, s'⟩ hN hE hR
    simp
    refine eff_nxtN s' ?_
    simp
    refine hE _ _ _ ?_
    simp
    have hend : ∀ t ∈ ts, vD l n t = vD l (n + 1) t := by
      refine next_place hp.pl (l := l) hn (sn := []) (fun t ht => by simp) fun t ht htq => ?_
      cases hD : vD l n t with
      | true => rfl
      | false =>
        have hc := cur_mem (to := to) ht hD
        have h1 := ((hok.sl q hq257).mem t.n (tp t)).2 ⟨t, hc, rfl, by rw [← hqe]; exact htq, rfl⟩
        rw [hYq] at h1
        cases h1
    refine hk v x9 x10 _ w' ?_
    rw [← adv_congr hend]
    exact advclose hos (wclose hok (St.cut (pt b (.mapIter none 0 #[] 0)) s' (by ac_rfl)))
  | some x =>
    obtain ⟨m, es, c⟩ := x
    simp [slv]
    have hsl := hok.sl q hq257
    rw [hYq] at hsl
    have big : ∀ (D : Tm → Bool) (v : Value) (os : List (Int × Int)) (aes : List En) (ac : Nat) (Y : Dk) (mv : Nat) (es : List En), Y q = some (m, es, c) → A * outs v os * hungA (curT to D ts) * bigA slA Y 257 * imap am aes ac * wc p to mv am Y = A * outs v os * hungA (curT to D ts) * bigH slA Y q 257 * imap am aes ac * wc p to mv am Y * imap m es c := by
      intro D v os aes ac Y mv es hY
      rw [big_at hq257, hY]
      show _ * (_ * imap m es c) * _ * _ = _
      ac_rfl
    have hb := (s2.to (big _ _ _ _ _ _ _ _ hYq)).look
    refine eff_rngI hungI.ty s2 hb ?_
    intro b w3 s3
    simp
    refine loopI (fun env w' => ∃ (D : Tm → Bool) (sn : List Int) (seen : Array Nat) (es aes : List En) (ac : Nat) (Y : Dk) (os : List (Int × Int)) (v y9 y10 : Value), env = [.pointer (some ⟨p, 0, none⟩), .int .i64 to, x2, x3, x4, x5, v, .int .i64 l, .int .i64 n, y9, y10, x11, .pointer (some ⟨b, 0, none⟩)] ∧ slI to ts l n D sn seen es aes ac Y os ∧ Y q = some (m, es, c) ∧ St w0 (A * outs v os * hungA (curT to D ts) * bigA slA Y 257 * imap am aes ac * wc p to (mv0 + (movT to D ts).length) am Y * pt b (.mapIter (some m) c seen c)) w') (fun _ w' => ts.length + 1 - seenN w' b)
      ⟨vD l n, [], #[], es, aes, ac, Y, os, v, x9, x10, rfl, ⟨fun t ht => by simp, hok, fun e he => by simp, hos, by simpa using List.length_filter_le _ _⟩, hYq, s3⟩ ?_
    clear s3 hb hsl hYq s2 hok hos s1 s
    rintro LQ env w' ⟨D, sn, seen, es, aes, ac, Y, os, v, y9, y10, rfl, hI, hYq, s'⟩ hN hE hR
    have hok := hI.ok
    have hsl := hok.sl q hq257
    rw [hYq] at hsl
    have hes : okE es c := hsl.ok
    have hseen : seenN w' b = seen.size := by unfold seenN; rw [s'.look]
    have hcnt := hI.hc
    simp
    refine eff_nxtI (s'.to (B := A * outs v os * hungA (curT to D ts) * bigH slA Y q 257 * imap am aes ac * wc p to (mv0 + (movT to D ts).length) am Y * imap m es c * pt b (.mapIter (some m) c seen c)) (by rw [big _ _ _ _ _ _ _ _ hYq])) hes.lt (fun e he hns w2 s2 => ?_) (fun hall w2 s2 => ?_)
    · obtain ⟨u, hu, hun, huq, hev⟩ := (hsl.mem e.k e.v).1 (getI_of hes.kn he)
      have hnsn : u.n ∉ sn := fun g => hns ((hI.hs e he).2 (by rw [← hun]; exact g))
      obtain ⟨hut, hDu, hul, hus⟩ := at_place hp.pl hp.lt hl hn h4 hv hI.hD hu (by rw [hqe]; exact huq) hnsn
      have hub := hp.pl.bd u hut
      have hcnt2 := count_add hut hDu
      have hol : os.length ≤ 65536 := by
        have h1 := hI.hp.length_eq
        rw [List.length_map] at h1
        have h2 : (outT to D ts).length ≤ ts.length := List.length_filter_le _ _
        have := hp.len
        omega
      have hml : (movT to D ts).length ≤ ts.length := List.length_filter_le _ _
      have htslen := hp.len
      have hmv0 := hp.mv
      have hbd := hp.bd
      have hseen2 : ∀ (w3 : World) (F : Asn), St w0 (F * pt b (.mapIter (some m) c (seen.push e.b) c)) w3 → ts.length + 1 - seenN w3 b < ts.length + 1 - seenN w' b := by
        intro w3 F h
        have h1 : seenN w3 b = seen.size + 1 := by unfold seenN; rw [h.look]; exact Array.size_push _
        rw [h1, hseen]; omega
      simp
      refine eff_ent s2 he hes.bn ?_
      rw [hev]
      simp
      have s3 : St w0 (A * outs v os * hungA (offT (curT to D ts) u.n) * bigA slA Y 257 * imap am aes ac * wc p to (mv0 + (movT to D ts).length) am Y * pt b (.mapIter (some m) c (seen.push e.b) c) * tmA u) w2 := by
        have h1 : St w0 (A * outs v os * hungA (curT to D ts) * bigA slA Y 257 * imap am aes ac * wc p to (mv0 + (movT to D ts).length) am Y * pt b (.mapIter (some m) c (seen.push e.b) c)) w2 := by
          rw [big _ _ _ _ _ _ _ _ hYq]; exact s2
        rw [hungA_off hok.num hu] at h1
        exact h1.to (by ac_rfl)
      refine eff_ldc (v := .int .i64 u.a) (s3.row_cells 1 _ rfl) ?_
      simp
      have huq' : tmQ u = l * 64 + n := by rw [huq, hqe]
      obtain ⟨it, hit⟩ : ∃ it, pt b (.mapIter (some m) c (seen.push e.b) c) = it := ⟨_, rfl⟩
      rw [hit] at s3 hseen2
      have fin : ∀ (D' : Tm → Bool) (es' aes' : List En) (Y' : Dk) (os' : List (Int × Int)) (v' y10' : Value) (w3 : World), slI to ts l n D' (u.n :: sn) (seen.push e.b) es' aes' ac Y' os' → Y' q = some (m, es', c) →
          St w0 (A * outs v' os' * hungA (curT to D' ts) * bigA slA Y' 257 * imap am aes' ac * wc p to (mv0 + (movT to D' ts).length) am Y' * it) w3 →
          LQ .nrm [.pointer (some ⟨p, 0, none⟩), .int .i64 to, x2, x3, x4, x5, v', .int .i64 l, .int .i64 n, tp u, y10', x11, .pointer (some ⟨b, 0, none⟩)] w3 := by
        intro D' es' aes' Y' os' v' y10' w3 hI' hY' s4
        exact hN _ _ ⟨D', u.n :: sn, seen.push e.b, es', aes', ac, Y', os', v', tp u, y10', rfl, hI', hY', by rw [hit]; exact s4⟩ (hseen2 _ _ s4)
      refine cndI (fun hd => ?_) (fun hd => ?_)
      · simp at hd
        refine due_part p am to (mv0 + (movT to D ts).length) Y u aes ac (m, es, c) v os w0 w2 (A * hungA (offT (curT to D ts) u.n) * it) _ _ _ _ _ _ _ _ _ _ (hok.tm u hu) (by rw [huq]; exact hYq) hol (s3.to (by ac_rfl)) fun v' w3 s4 => ?_
        simp
        obtain ⟨hI', hmvE⟩ := hI.due hnum hes he hun.symm hut hDu huq' hd
        refine fin _ _ _ _ _ v' y10 w3 hI' (by rw [huq, upF_at, hYq]; rfl) ?_
        rw [hmvE, cur_due hnum hut hd, huq, hYq]
        rw [huq] at s4
        exact s4.to (by ac_rfl)
      · simp at hd
        simp
        refine eff_ldc (v := .int .i64 u.a) (s3.row_cells 1 _ rfl) ?_
        simp
        refine ⟨⟨by omega, by omega⟩, ?_⟩
        refine cndI (fun hlv => ?_) (fun hlv => ?_)
        · simp at hlv
          have hlv : (lvF u.a to).1 ≠ u.l := by rw [hul]; omega
          have hne : tmQ (hgT u to) ≠ tmQ u := by
            have h1 := hgT_ok u to
            have h2 := hok.tm u hu
            have h3 := h1.s
            have h4 := h2.s
            intro g
            unfold tmQ at g
            have : (hgT u to).l = u.l := by omega
            exact hlv this
          have hne2 : hgQ u to ≠ q := by rw [hgQ_eq, ← huq]; exact hne
          have hmem := hok.sl (hgQ u to) (by rw [hgQ_eq]; exact tmQ_lt (hgT_ok u to))
          refine mov_part p am to (mv0 + (movT to D ts).length) Y u (m, es, c) w0 w2 (A * outs v os * hungA (offT (curT to D ts) u.n) * imap am aes ac * it) l n _ _ _ _ _ _ _ _ _ hl hn h4 (by rw [hqe]; exact hYq) hub.1 hp.bd (by omega) ?_ (s3.to (by ac_rfl)) fun Y' m' w3 hY' s4 => ?_
          · rw [hqe, upF_ne _ _ hne2]
            cases hg : getI (slE (Y (hgQ u to))) u.n with
            | none => rfl
            | some g =>
              obtain ⟨t, ht, h1, h2, _⟩ := (hmem.mem _ _).1 hg
              have := num_inj hok.num ht hu h1
              rw [this, huq] at h2
              exact absurd h2.symm hne2
          simp
          obtain ⟨hI', hmvE⟩ := hI.mov hnum hes he hun.symm hut hDu huq' hd hne hlv m'
          subst hY'
          refine fin _ _ _ _ _ v _ w3 hI' ?_ ?_
          · rw [← hgQ_eq, upF_ne _ _ (Ne.symm hne2), huq, upF_at, hYq]; rfl
          · rw [hmvE, cur_mov hnum hut hd, hungA_on hok.num hu (t' := hgT u to) rfl, huq, hYq, ← hgQ_eq]
            rw [hqe, upF_ne _ _ hne2] at s4
            rw [← Nat.add_assoc]
            exact s4.to (by ac_rfl)
        · simp at hlv
          simp
          have hg := at_go hp.pl hp.lt hv hut hul hus hd (by omega)
          obtain ⟨hI', hmvE, hcur⟩ := hI.same hnum hes he hun.symm hut hDu huq' hd hg
          refine fin _ _ _ _ _ v _ w2 hI' hYq ?_
          rw [hmvE, hcur, hungA_off hok.num hu]
          exact s3.to (by ac_rfl)
    · simp
      refine hE _ _ _ ?_
      simp
      have hend := hI.done hp.pl hn (by rw [hqe]; exact hq257) (by rw [hqe, hYq]; rfl) hall
      refine hk v y9 y10 _ w2 ?_
      rw [← adv_congr hend]
      refine advclose hI.hp (wclose (am := am) hok ?_)
      have h1 : St w0 (A * outs v os * hungA (curT to D ts) * bigA slA Y 257 * imap am aes ac * wc p to (mv0 + (movT to D ts).length) am Y * pt b (.mapIter (some m) c seen c)) w2 := by
        rw [big _ _ _ _ _ _ _ _ hYq]; exact s2
      exact St.cut (pt b (.mapIter (some m) c seen c)) h1 (by ac_rfl)
end Go.HL.Wh
