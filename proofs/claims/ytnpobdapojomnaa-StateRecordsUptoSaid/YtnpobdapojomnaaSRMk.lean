/-
  What the claim leans on, part 11 of 13. Conditions: as each theorem says.
-/
import Derived.Test.YtnpobdapojomnaaSRMj
namespace Go.HL.Tl
open Go.HL Go.Proofs
set_option maxRecDepth 4000
set_option linter.unusedSimpArgs false
set_option linter.unusedVariables false
abbrev Flds := List (Int × List UInt8)
def rdsK (bad : Bool) (L : List (List UInt8)) : Bool × List Flds := L.foldl (fun s x => ((rdF s.1 x).1, s.2 ++ [(rdF s.1 x).2])) (bad, [])
theorem rdsK_snoc (bad : Bool) (L : List (List UInt8)) (x : List UInt8) : rdsK bad (L ++ [x]) = ((rdF (rdsK bad L).1 x).1, (rdsK bad L).2 ++ [(rdF (rdsK bad L).1 x).2]) := by
  simp [rdsK]
theorem rdsK_ok (bad : Bool) (L : List (List UInt8)) : ∀ i, ∀ F ∈ (rdsK bad (L.take i)).2, OKF F := by
  intro i
  induction i with
  | zero => simp [rdsK]
  | succ i ih =>
    by_cases h : i < L.length
    · rw [List.take_succ_eq_append_getElem h, rdsK_snoc]
      intro F hF
      rcases List.mem_append.1 hF with hF | hF
      · exact ih F hF
      · have : F = (rdF (rdsK bad (L.take i)).1 L[i]).2 := by simpa using hF
        rw [this]; exact rdF_ok _ _
    · rw [List.take_of_length_le (by omega)]
      rw [List.take_of_length_le (by omega)] at ih
      exact ih
theorem rdsK_len (bad : Bool) (L : List (List UInt8)) : ∀ i, i ≤ L.length → (rdsK bad (L.take i)).2.length = i := by
  intro i
  induction i with
  | zero => intro _; simp [rdsK]
  | succ i ih =>
    intro h
    rw [List.take_succ_eq_append_getElem (by omega), rdsK_snoc]
    simp [ih (by omega)]
def rcsR (bad : Bool) (F : Flds) (tag most : Int) : Bool × List Flds :=
  if (rdsK (lstR bad F tag most).2 (lstR bad F tag most).1).2 ≠ [] ∧ (rdsK (lstR bad F tag most).2 (lstR bad F tag most).1).1 = true then (true, []) else rdsK (lstR bad F tag most).2 (lstR bad F tag most).1
def rdsA (w0 : World) (B : Asn) (q : Nat) : List (Nat × Flds) → Asn
  | [] => emp
  | x :: t => rdP w0 B x.1 q x.2 * rdsA w0 B q t
theorem rdsA_snoc (w0 : World) (B : Asn) (q : Nat) (y : Nat × Flds) (l : List (Nat × Flds)) : rdsA w0 B q (l ++ [y]) = rdsA w0 B q l * rdP w0 B y.1 q y.2 := by
  induction l with
  | nil => exact (sep_emp _).trans (emp_sep _).symm
  | cons x t ih =>
    have h1 : rdsA w0 B q (x :: t ++ [y]) = rdP w0 B x.1 q x.2 * rdsA w0 B q (t ++ [y]) := rfl
    have h2 : rdsA w0 B q (x :: t) = rdP w0 B x.1 q x.2 * rdsA w0 B q t := rfl
    rw [h1, h2, ih, sep_assoc]
theorem rdsA_at (w0 : World) (B : Asn) (q : Nat) (l : List (Nat × Flds)) : ∀ (i : Nat) (h : i < l.length), ∃ R, rdsA w0 B q l = R * rdP w0 B l[i].1 q l[i].2 := by
  induction l with
  | nil => intro i h; simp at h
  | cons x t ih =>
    intro i h
    cases i with
    | zero => exact ⟨rdsA w0 B q t, sep_comm _ _⟩
    | succ i =>
      obtain ⟨R, hR⟩ := ih i (by simpa using h)
      have h3 : (x :: t)[i + 1] = t[i]'(by simpa using h) := rfl
      have h2 : rdsA w0 B q (x :: t) = rdP w0 B x.1 q x.2 * rdsA w0 B q t := rfl
      exact ⟨rdP w0 B x.1 q x.2 * R, by rw [h2, hR, h3, sep_assoc]⟩
def rptrs (l : List (Nat × Flds)) : List Value := l.map fun x => .pointer (some ⟨x.1, 0, none⟩)
def rcC (X : World → Prop) (Y : Nat → World → Prop) (Y2 : Nat → Nat → World → Prop) (Z : Value → World → Prop) : List Value → World → Prop
  | [], w => X w
  | [u], w => ∃ p, u = .pointer (some ⟨p, 0, none⟩) ∧ Y p w
  | [u, s], w => ∃ p d, u = .pointer (some ⟨p, 0, none⟩) ∧ s = .slice (some ⟨d, 0, none⟩) 1 1 ∧ Y2 p d w
  | _ :: _ :: v :: _, w => Z v w
theorem rcC_pre {X : World → Prop} {Y : Nat → World → Prop} {Y2 : Nat → Nat → World → Prop} {Z : Value → World → Prop} {vs : List Value} {w : World} (he : era 1 vs = era 1 []) (h : rcC X Y Y2 Z vs w) : X w := by
  cases vs with
  | nil => exact h
  | cons _ _ => simp [era] at he
set_option maxHeartbeats 1000000 in
theorem Records_rspec (r q : Nat) (bad : Bool) (F : Flds) (tag most : Int) (w0 w : World) (A B : Asn) (hB : ∀ w, St w0 A w → St w0 B w) (hO : OKF F) (s : St w0 (A * flt q bad * rdP w0 B r q F) w) :
    CallW Try.prog 78 [.pointer (some ⟨r, 0, none⟩), .int .i64 tag, .int .i64 most] (fun v w' => ∃ ps, ps.map (·.2) = (rcsR bad F tag most).2 ∧ St w0 (A * flt q (rcsR bad F tag most).1 * rdP w0 B r q F * own 78 1 v ps.length (rptrs ps) * rdsA w0 B q ps) w') w := by
  have hLo := lstR_ok (bad := bad) hO tag most
  refine callW_of_lift l78_ok (by simp [l78]) ?_
  simp [l78]
  refine eff_call ((items_rspec r q bad F tag most w0 w A B hB hO s).mono ?_)
  rintro _ w1 ⟨lv, n, l2, rfl, hP2, s1⟩
  unfold rcsR
  obtain ⟨L, hL⟩ : ∃ L, (lstR bad F tag most).1 = L := ⟨_, rfl⟩
  obtain ⟨b1, hb1⟩ : ∃ b1, (lstR bad F tag most).2 = b1 := ⟨_, rfl⟩
  rw [hL] at hP2 hLo ⊢
  rw [hb1] at s1 ⊢
  have hl2 : l2.length = L.length := by have := hP2.1; simpa using this
  obtain ⟨va, vc, rfl, _⟩ := (s1.to (B := A * flt q b1 * rdP w0 B r q F * ptsA l2 * own 114 1 lv l2.length (ptrs l2)) (by simp only [itA]; ac_rfl)).own_val
  simp
  refine loopI (fun env w' => ∃ (i : Nat) (ov o7 : Value) (ps : List (Nat × Flds)), env = [.pointer (some ⟨r, 0, none⟩), .int .i64 tag, .int .i64 most, .slice none 0 0, .slice va l2.length vc, .int .i64 n, ov, o7, .slice va l2.length vc, .int .i64 l2.length, .int .i64 i] ∧ i ≤ l2.length ∧ ps.map (·.2) = (rdsK b1 (L.take i)).2 ∧
      St w0 (A * flt q (rdsK b1 (L.take i)).1 * rdP w0 B r q F * itA (.slice va l2.length vc) l2 * own 78 1 ov ps.length (rptrs ps) * rdsA w0 B q ps) w')
    (fun env _ => l2.length - slotN env 10) ⟨0, _, _, [], rfl, by omega, by simp [rdsK], ?_⟩ ?_
  · have h := s1.own_nil 78 1
    have e : rdsA w0 B q [] = emp := rfl
    have e2 : (rdsK b1 (L.take 0)).1 = b1 := by simp [rdsK]
    rw [e, sep_emp, e2]; exact h
  clear s1 s
  rintro LQ env w' ⟨i, ov, o7, ps, rfl, hi, hps, s2⟩ hN hX hR
  have hpl : ps.length = i := by
    have := congrArg List.length hps
    rw [rdsK_len b1 L i (by omega)] at this
    simpa using this
  obtain ⟨bi, hbi⟩ : ∃ bi, (rdsK b1 (L.take i)).1 = bi := ⟨_, rfl⟩
  rw [hbi] at s2
  simp
  refine cndI (fun c => ?_) (fun c => ?_)
  · simp at c
    have hiL : i < L.length := by omega
    obtain ⟨D, hD⟩ : ∃ D, A * flt q bi * itA (.slice va l2.length vc) l2 * own 78 1 ov ps.length (rptrs ps) * rdsA w0 B q ps = D := ⟨_, rfl⟩
    obtain ⟨l, hP, s3⟩ := popen (s2.to (B := D * rdP w0 B r q F) (by rw [← hD]; ac_rfl))
    obtain ⟨base, lr, s4⟩ := ropen s3
    have fr : ∀ {Z : Asn} {w : World}, St w0 (D * rpt r q base lr * Z) w → w.cell? ⟨r, 0, none⟩ = some (.pointer (some ⟨q, 0, none⟩)) := fun h => (cell_of h.drop.look).trans rfl
    have s5 : St w0 (D * rpt r q base lr * (own 114 1 lr l.length (ptrs l) * ptsA l)) w' := s4.to (by ac_rfl)
    obtain ⟨g, _, hv, _, hcell⟩ := (s2.to (B := A * flt q bi * rdP w0 B r q F * own 78 1 ov ps.length (rptrs ps) * rdsA w0 B q ps * ptsA l2 * own 114 1 (.slice va l2.length vc) l2.length (ptrs l2)) (by simp only [itA]; ac_rfl)).own_at (by omega)
    cases hv
    simp [c]
    refine eff_ldc (v := .pointer (some ⟨l2[i].1, 0, none⟩)) (by have := hcell i (.pointer (some ⟨l2[i].1, 0, none⟩)) (by simp [ptrs, c]); simpa using this) ?_
    simp
    have hPi := hP2.2 i c (by simpa using hiL)
    have hxi : BR w0 B l2[i].2.v L[i] := by have := hPi.2; simpa using this
    have fp : ∀ {Z : Asn} {w : World}, St w0 (D * Z) w → w.cell? ⟨l2[i].1, 2, none⟩ = some (.int .i64 l2[i].2.from') ∧ w.cell? ⟨l2[i].1, 3, none⟩ = some l2[i].2.v := fun {Z w} h => by
      have h' : St w0 (A * flt q bi * own 114 1 (.slice (some ⟨g, 0, none⟩) l2.length vc) l2.length (ptrs l2) * own 78 1 ov ps.length (rptrs ps) * rdsA w0 B q ps * Z * ptsA l2) w := h.to (by rw [← hD]; simp only [itA]; ac_rfl)
      exact ⟨pts_cells c h' 2 _ rfl, pts_cells c h' 3 _ rfl⟩
    obtain ⟨E, hE⟩ : ∃ E, A * itA (.slice (some ⟨g, 0, none⟩) l2.length vc) l2 * rdP w0 B r q F * rdsA w0 B q ps = E := ⟨_, rfl⟩
    have toE : ∀ {w : World}, St w0 (D * rpt r q base lr * (own 114 1 lr l.length (ptrs l) * ptsA l)) w → St w0 (E * own 78 1 ov ps.length (rptrs ps) * flt q bi) w := fun h => by
      have a1 := pclose hP (rclose (base := base) (lv := lr) (h.to (B := D * rpt r q base lr * own 114 1 lr l.length (ptrs l) * ptsA l) (by ac_rfl)))
      exact a1.to (by rw [← hD, ← hE]; ac_rfl)
    refine regmI (rcC (St w0 (D * rpt r q base lr * (own 114 1 lr l.length (ptrs l) * ptsA l)))
      (fun p => St w0 (E * flt q (rdF bi L[i]).1 * rdP w0 B p q (rdF bi L[i]).2 * own 78 1 ov ps.length (rptrs ps)))
      (fun p d => St w0 (E * flt q (rdF bi L[i]).1 * rdP w0 B p q (rdF bi L[i]).2 * own 78 1 ov ps.length (rptrs ps) * pt d (.cells #[.pointer (some ⟨p, 0, none⟩)] 78 (0, 0))))
      (fun v w => ∃ p, St w0 (E * flt q (rdF bi L[i]).1 * rdP w0 B p q (rdF bi L[i]).2 * own 78 1 v (ps.length + 1) (rptrs ps ++ [.pointer (some ⟨p, 0, none⟩)])) w)) s5.drew ?_
    simp
    refine effm_ldc (v := .pointer (some ⟨q, 0, none⟩)) (fun vs' w he hw => fr (rcC_pre he hw)) ?_
    simp
    refine effm_ldc (v := .int .i64 l2[i].2.from') (fun vs' w he hw => (fp (St.to (B := D * (rpt r q base lr * (own 114 1 lr l.length (ptrs l) * ptsA l))) (rcC_pre he hw) (by ac_rfl))).1) ?_
    simp
    refine effm_ldc (v := l2[i].2.v) (fun vs' w he hw => (fp (St.to (B := D * (rpt r q base lr * (own 114 1 lr l.length (ptrs l) * ptsA l))) (rcC_pre he hw) (by ac_rfl))).2) ?_
    simp
    refine effm_mv rfl (fun w hw => eff_call ((read_spec q bi _ L[i] l2[i].2.v w0 w (E * own 78 1 ov ps.length (rptrs ps)) B (fun w s => hB w (by rw [← hE] at s; exact s.drop.drop.drop.drop)) (by have := hLo.2 _ (List.getElem_mem hiL); omega) hxi (toE hw)).mono ?_)) (fun u hu => ?_)
    · rintro _ w' ⟨p, l3, rfl, hP3, s'⟩
      exact ⟨p, rfl, (pclose hP3 s').to (by ac_rfl)⟩
    obtain ⟨_, p, rfl, _⟩ := hu
    simp
    refine effm_mv rfl (fun w hw => ?_) (fun sl hsl => ?_)
    · obtain ⟨p', e, hw⟩ := hw
      cases e
      exact eff_bsl1 hw rfl fun d w' s' => ⟨p, d, rfl, rfl, s'⟩
    obtain ⟨_, p', d, e, rfl, _⟩ := hsl
    cases e
    simp
    refine effm_mv rfl (fun w hw => ?_) (fun v9 _ => ?_)
    · obtain ⟨p', d', e, e2, hw⟩ := hw
      cases e; cases e2
      refine eff_app (m := 1) (news := [.pointer (some ⟨p, 0, none⟩)]) (St.swap hw) rfl (by simpa using St.cells_look hw) (by simp [Value.oneCell']) (by decide) rfl (by unfold maxLen; omega) (by omega) fun v'' w' h => ?_
      exact ⟨p, h.swap.drop⟩
    simp
    rintro w9 ⟨p', s9⟩
    try simp (disch := omega) only [wrap64]
    refine hN _ _ ⟨i + 1, v9, _, ps ++ [(p', (rdF bi L[i]).2)], by simp; rfl, by omega, ?_, ?_⟩ (by simp [slotN]; omega)
    · rw [List.take_succ_eq_append_getElem hiL, rdsK_snoc, hbi]
      simp [hps]
    · rw [List.take_succ_eq_append_getElem hiL, rdsK_snoc, hbi, rdsA_snoc]
      refine s9.to ?_
      rw [← hE]
      simp only [List.length_append, List.length_singleton, rptrs, List.map_append, List.map_cons, List.map_nil]
      ac_rfl
  · simp at c
    simp
    refine hX _ _ _ ?_
    obtain rfl : i = l2.length := by omega
    rw [hl2, List.take_length] at hps hbi
    rw [hl2] at hpl
    have hnil : (rdsK b1 L).2 = [] ↔ ps = [] := by rw [← hps]; simp
    have s3 : St w0 (A * flt q bi * rdP w0 B r q F * itA (.slice va l2.length vc) l2 * rdsA w0 B q ps * own 78 1 ov ps.length (rptrs ps)) w' := s2.to (by ac_rfl)
    obtain ⟨oa, oc, rfl, _, _⟩ := s3.own_val
    have fin : ∀ K : Value → World → Prop, (∀ v w', St w0 (A * flt q bi * rdP w0 B r q F * own 78 1 v ps.length (rptrs ps) * rdsA w0 B q ps) w' → K v w') → ∀ w, St w0 (A * flt q bi * rdP w0 B r q F * itA (.slice va l2.length vc) l2 * rdsA w0 B q ps * own 78 1 (.slice oa ps.length oc) ps.length (rptrs ps)) w →
        EffW Try.prog (.call 92) [.slice oa ps.length oc] K w := fun K hK w s =>
      eff_call ((ClipR_spec ps.length (rptrs ps) _ w0 w _ s).mono fun u w3 s3 => hK u w3 (s3.cut (itA (.slice va l2.length vc) l2) (by ac_rfl)))
    simp
    by_cases h0 : ps.length = 0
    · have hp0 : ps = [] := List.eq_nil_of_length_eq_zero h0
      have e : (if ¬ (rdsK b1 L).2 = [] ∧ (rdsK b1 L).1 = true then (true, []) else rdsK b1 L) = rdsK b1 L := if_neg fun h => h.1 (hnil.2 hp0)
      rw [e]
      simp [h0]
      rw [h0] at s3 fin
      refine fin _ (fun v w5 s5 => ?_) w' s3
      simp
      refine ⟨ps, hps, ?_⟩
      rw [hbi, h0]
      exact s5
    · have hp0 : ¬ ps = [] := fun h => h0 (by simp [h])
      have h1 : 0 < ps.length := by omega
      simp [h1]
      obtain ⟨l, hP, s4⟩ := popen (s3.to (B := A * flt q bi * itA (.slice va l2.length vc) l2 * rdsA w0 B q ps * own 78 1 (.slice oa ps.length oc) ps.length (rptrs ps) * rdP w0 B r q F) (by ac_rfl))
      obtain ⟨base, lr, s5⟩ := ropen s4
      refine eff_ldc (v := .pointer (some ⟨q, 0, none⟩)) ((cell_of s5.drop.drop.look).trans rfl) ?_
      simp
      obtain ⟨pl, e0, hb0, s6⟩ := fopen (s3.to (B := A * rdP w0 B r q F * itA (.slice va l2.length vc) l2 * rdsA w0 B q ps * own 78 1 (.slice oa ps.length oc) ps.length (rptrs ps) * flt q bi) (by ac_rfl))
      refine eff_ldc (v := .int .i64 e0) ((cell_of s6.look).trans rfl) ?_
      simp
      refine cndI (fun c3 => ?_) (fun c3 => ?_)
      · simp at c3
        have hbt : bi = true := hb0.1 c3
        have e : (if ¬ (rdsK b1 L).2 = [] ∧ (rdsK b1 L).1 = true then (true, []) else rdsK b1 L) = (true, []) := if_pos ⟨fun h => hp0 (hnil.1 h), by rw [hbi, hbt]⟩
        rw [e]
        simp
        have h := (s3.cut (B := A * flt q true * rdP w0 B r q F) (itA (.slice va l2.length vc) l2 * rdsA w0 B q ps * own 78 1 (.slice oa ps.length oc) ps.length (rptrs ps)) (by rw [hbt]; ac_rfl)).own_nil 78 1
        have e2 : rdsA w0 B q [] = emp := rfl
        rw [e2, sep_emp]; exact h
      · simp at c3
        have hbt : bi = false := by cases bi with
          | false => rfl
          | true => exact absurd c3 (hb0.2 rfl)
        have e : (if ¬ (rdsK b1 L).2 = [] ∧ (rdsK b1 L).1 = true then (true, []) else rdsK b1 L) = rdsK b1 L := if_neg fun h => by rw [hbi, hbt] at h; exact absurd h.2 (by decide)
        rw [e]
        simp
        refine fin _ (fun v w5 s5 => ?_) w' s3
        simp
        exact ⟨ps, hps, by rw [hbi]; exact s5⟩
theorem rcsR_ok {bad : Bool} {F : Flds} (tag most : Int) : (rcsR bad F tag most).2.length ≤ (lstR bad F tag most).1.length ∧ ∀ G ∈ (rcsR bad F tag most).2, OKF G := by
  unfold rcsR
  split
  · simp
  · have h1 := rdsK_len (lstR bad F tag most).2 (lstR bad F tag most).1 _ (Nat.le_refl _)
    have h2 := rdsK_ok (lstR bad F tag most).2 (lstR bad F tag most).1 (lstR bad F tag most).1.length
    rw [List.take_length] at h1 h2
    exact ⟨by omega, h2⟩
end Go.HL.Tl

namespace Go.HL.Tl
open Go.HL Go.Proofs
set_option maxRecDepth 4000
set_option linter.unusedSimpArgs false
set_option linter.unusedVariables false
abbrev rflt (q : Nat) (bad : Bool) : Asn := fltA 96 q bad
abbrev rrpt (r q : Nat) (base : Int) (lv : Value) : Asn := pt r (.cells #[.pointer (some ⟨q, 0, none⟩), .int .i64 base, lv] 103 (0, 0))
def rrP (r q : Nat) (F : Flds) : Asn := fun h => ∃ base lv l, l.map (·.tag) = F.map (·.1) ∧ (rrpt r q base lv * rfA lv l F) h
theorem rropen {w0 w : World} {A : Asn} {r q : Nat} {F : Flds} (h : St w0 (A * rrP r q F) w) : ∃ base lv l, l.map (·.tag) = F.map (·.1) ∧ St w0 (A * rrpt r q base lv * rfA lv l F) w := by
  obtain ⟨g, h1, h2, h3, d, e, a, base, lv, l, ht, b⟩ := h.holds
  refine ⟨base, lv, l, ht, ?_⟩
  rw [sep_assoc]
  exact h.of ⟨g, h1, h2, h3, d, e, a, b⟩
theorem rrclose {w0 w : World} {A : Asn} {r q : Nat} {F : Flds} {base : Int} {lv : Value} {l : List Rf} (ht : l.map (·.tag) = F.map (·.1)) (h : St w0 (A * rrpt r q base lv * rfA lv l F) w) : St w0 (A * rrP r q F) w := by
  rw [sep_assoc] at h
  exact h.mono (sep_mono (fun _ h => h) fun h hh => ⟨base, lv, l, ht, hh⟩)
theorem rrempty {w0 w : World} {A : Asn} {r q : Nat} {base : Int} (h : St w0 (A * rrpt r q base (.slice none 0 0)) w) : St w0 (A * rrP r q []) w := by
  refine rrclose (base := base) (lv := .slice none 0 0) (l := []) rfl ?_
  have := h.own_nil 100 5
  have e : bss ([] : List Value) [] = emp := rfl
  simp only [rfA, List.map_nil, e, sep_emp]; exact this

def h87_0 : HC := (.seq (.reg (.chk none (.bin .leq) (.cons (.inp 0) (.cons (.inp 1) .nil)) (.done [(2, (.op (.bin .leq) (.cons (.inp 0) (.cons (.inp 1) .nil))))] none))) .ret)
@[simp] theorem h87_0_wp : type_of% (@wpH h87_0 _ h87_0.eq_1) := wpH h87_0.eq_1
def h87_1 : HC := (.reg (.done [(1, (.cst (.int .i64 0)))] none))
@[simp] theorem h87_1_wp : type_of% (@wpH h87_1 _ h87_1.eq_1) := wpH h87_1.eq_1
def h87_2 : HC := (.seq (.br (.chk none (.bin .lss) (.cons (.inp 1) (.cons (.cst (.int .i64 0)) .nil)) (.done [] (some (.op (.bin .lss) (.cons (.inp 1) (.cons (.cst (.int .i64 0)) .nil)))))) h87_1 .skip) h87_0)
@[simp] theorem h87_2_wp : type_of% (@wpH h87_2 _ h87_2.eq_1) := wpH h87_2.eq_1
def l87 : Lifted := ⟨[0, 1, 4], 10, [.slot 2], (.seq (.reg (.done [(2, (.cst (.bool false)))] none)) h87_2)⟩
theorem l87_ok : liftFn T0 87 400 = some l87 := by kernel_rfl

def h68_0 : HC := (.reg (.chk none .chkp (.cons (.inp 0) .nil) (.chk none (.fld 0) (.cons (.op .chkp (.cons (.inp 0) .nil)) .nil) (.eff (.ld false 1) (.cons (.op (.fld 0) (.cons (.op .chkp (.cons (.inp 0) .nil)) .nil)) .nil) (.chk none .chkp (.cons (.bv 0) .nil) (.chk none (.fld 1) (.cons (.op .chkp (.cons (.bv 0) .nil)) .nil) (.eff (.st 1) (.cons (.op (.fld 1) (.cons (.op .chkp (.cons (.bv 0) .nil)) .nil)) (.cons (.inp 2) .nil)) (.done [] none))))))))
@[simp] theorem h68_0_wp : type_of% (@wpH h68_0 _ h68_0.eq_1) := wpH h68_0.eq_1
def h68_1 : HC := (.seq (.regq (some 1) (.chk none .chkp (.cons (.inp 0) .nil) (.chk none (.fld 0) (.cons (.op .chkp (.cons (.inp 0) .nil)) .nil) (.eff (.ld false 1) (.cons (.op (.fld 0) (.cons (.op .chkp (.cons (.inp 0) .nil)) .nil)) .nil) (.chk none .chkp (.cons (.inp 0) .nil) (.chk none (.fld 1) (.cons (.op .chkp (.cons (.inp 0) .nil)) .nil) (.eff (.ld false 1) (.cons (.op (.fld 1) (.cons (.op .chkp (.cons (.inp 0) .nil)) .nil)) .nil) (.chk none (.bin .add) (.cons (.bv 1) (.cons (.inp 1) .nil)) (.chk none .chkp (.cons (.bv 0) .nil) (.chk none (.fld 0) (.cons (.op .chkp (.cons (.bv 0) .nil)) .nil) (.eff (.st 1) (.cons (.op (.fld 0) (.cons (.op .chkp (.cons (.bv 0) .nil)) .nil)) (.cons (.op (.bin .add) (.cons (.bv 1) (.cons (.inp 1) .nil))) .nil)) (.done [] none)))))))))))) h68_0)
@[simp] theorem h68_1_wp : type_of% (@wpH h68_1 _ h68_1.eq_1) := wpH h68_1.eq_1
def l68 : Lifted := ⟨[0, 1, 2], 33, [], (.br (.chk none .chkp (.cons (.inp 0) .nil) (.chk none (.fld 0) (.cons (.op .chkp (.cons (.inp 0) .nil)) .nil) (.eff (.ld false 1) (.cons (.op (.fld 0) (.cons (.op .chkp (.cons (.inp 0) .nil)) .nil)) .nil) (.chk none .chkp (.cons (.bv 0) .nil) (.chk none (.fld 1) (.cons (.op .chkp (.cons (.bv 0) .nil)) .nil) (.eff (.ld false 1) (.cons (.op (.fld 1) (.cons (.op .chkp (.cons (.bv 0) .nil)) .nil)) .nil) (.chk none (.bin .eql) (.cons (.bv 1) (.cons (.cst (.int .i64 0)) .nil)) (.done [] (some (.op (.bin .eql) (.cons (.bv 1) (.cons (.cst (.int .i64 0)) .nil)))))))))))) h68_1 .skip)⟩
theorem l68_ok : liftFn T0 68 400 = some l68 := by kernel_rfl

def h64_0 : HC := (.seq (.reg (.done [(3, (.inp 4))] none)) .ret)
@[simp] theorem h64_0_wp : type_of% (@wpH h64_0 _ h64_0.eq_1) := wpH h64_0.eq_1
def h64_1 : HC := (.seq (.reg (.chk none .chkp (.cons (.inp 4) .nil) (.chk none (.fld 2) (.cons (.op .chkp (.cons (.inp 4) .nil)) .nil) (.eff (.st 1) (.cons (.op (.fld 2) (.cons (.op .chkp (.cons (.inp 4) .nil)) .nil)) (.cons (.inp 5) .nil)) (.done [] none))))) h64_0)
@[simp] theorem h64_1_wp : type_of% (@wpH h64_1 _ h64_1.eq_1) := wpH h64_1.eq_1
def h64_2 : HC := (.seq (.reg (.done [(3, (.inp 4))] none)) .ret)
@[simp] theorem h64_2_wp : type_of% (@wpH h64_2 _ h64_2.eq_1) := wpH h64_2.eq_1
def h64_3 : HC := (.seq (.reg (.eff (.call 68) (.cons (.inp 4) (.cons (.inp 6) (.cons (.inp 7) .nil))) (.done [] none))) h64_2)
@[simp] theorem h64_3_wp : type_of% (@wpH h64_3 _ h64_3.eq_1) := wpH h64_3.eq_1
def h64_4 : HC := (.seq (.br (.chk none (.bin .neq) (.cons (.inp 7) (.cons (.cst (.int .i64 0)) .nil)) (.done [] (some (.op (.bin .neq) (.cons (.inp 7) (.cons (.cst (.int .i64 0)) .nil)))))) h64_3 .skip) h64_1)
@[simp] theorem h64_4_wp : type_of% (@wpH h64_4 _ h64_4.eq_1) := wpH h64_4.eq_1
def h64_5 : HC := (.seq (.reg (.eff (.call 86) (.cons (.inp 2) .nil) (.chk none (.ext 0) (.cons (.bv 0) .nil) (.chk none (.ext 1) (.cons (.bv 0) .nil) (.chk none (.ext 2) (.cons (.bv 0) .nil) (.done [(5, (.op (.ext 0) (.cons (.bv 0) .nil))), (6, (.op (.ext 1) (.cons (.bv 0) .nil))), (7, (.op (.ext 2) (.cons (.bv 0) .nil)))] none)))))) h64_4)
@[simp] theorem h64_5_wp : type_of% (@wpH h64_5 _ h64_5.eq_1) := wpH h64_5.eq_1
def h64_6 : HC := (.seq (.reg (.done [(3, (.inp 4))] none)) .ret)
@[simp] theorem h64_6_wp : type_of% (@wpH h64_6 _ h64_6.eq_1) := wpH h64_6.eq_1
def h64_7 : HC := (.seq (.br (.chk none .chkp (.cons (.inp 0) .nil) (.chk none (.fld 1) (.cons (.op .chkp (.cons (.inp 0) .nil)) .nil) (.eff (.ld false 1) (.cons (.op (.fld 1) (.cons (.op .chkp (.cons (.inp 0) .nil)) .nil)) .nil) (.chk none (.bin .neq) (.cons (.bv 0) (.cons (.cst (.int .i64 0)) .nil)) (.done [] (some (.op (.bin .neq) (.cons (.bv 0) (.cons (.cst (.int .i64 0)) .nil))))))))) h64_6 .skip) h64_5)
@[simp] theorem h64_7_wp : type_of% (@wpH h64_7 _ h64_7.eq_1) := wpH h64_7.eq_1
def h64_8 : HC := (.seq (.reg (.chk none (.build #[(.pointer none), (.int .i64 0), (.slice none 0 0)] [(0, 1), (1, 1), (2, 1)] [0, 1]) (.cons (.inp 0) (.cons (.inp 1) .nil)) (.eff (.box 103) (.cons (.op (.build #[(.pointer none), (.int .i64 0), (.slice none 0 0)] [(0, 1), (1, 1), (2, 1)] [0, 1]) (.cons (.inp 0) (.cons (.inp 1) .nil))) .nil) (.done [(4, (.bv 0))] none)))) h64_7)
@[simp] theorem h64_8_wp : type_of% (@wpH h64_8 _ h64_8.eq_1) := wpH h64_8.eq_1
def l64 : Lifted := ⟨[0, 1, 2, 6, 7, 8, 9, 10], 39, [.slot 3], (.seq (.reg (.done [(3, (.cst (.pointer none)))] none)) h64_8)⟩
theorem l64_ok : liftFn T0 64 400 = some l64 := by kernel_rfl

def h34_0 : HC := (.seq (.reg (.chk none (.build #[(.int .i64 0), (.int .i64 0)] [(0, 1), (1, 1)] []) .nil (.eff (.box 96) (.cons (.op (.build #[(.int .i64 0), (.int .i64 0)] [(0, 1), (1, 1)] []) .nil) .nil) (.eff (.call 64) (.cons (.bv 0) (.cons (.cst (.int .i64 0)) (.cons (.inp 0) .nil))) (.done [(1, (.bv 1))] none))))) .ret)
@[simp] theorem h34_0_wp : type_of% (@wpH h34_0 _ h34_0.eq_1) := wpH h34_0.eq_1
def l34 : Lifted := ⟨[0, 2], 7, [.slot 1], (.seq (.reg (.done [(1, (.cst (.pointer none)))] none)) h34_0)⟩
theorem l34_ok : liftFn T0 34 400 = some l34 := by kernel_rfl

def h66_0 : HC := (.seq (.reg (.done [(2, (.cst (.int .i64 (-1))))] none)) .ret)
@[simp] theorem h66_0_wp : type_of% (@wpH h66_0 _ h66_0.eq_1) := wpH h66_0.eq_1
def h66_1 : HC := (.reg (.chk none (.bin .add) (.cons (.inp 3) (.cons (.cst (.int .i64 1)) .nil)) (.done [(3, (.op (.bin .add) (.cons (.inp 3) (.cons (.cst (.int .i64 1)) .nil))))] none)))
@[simp] theorem h66_1_wp : type_of% (@wpH h66_1 _ h66_1.eq_1) := wpH h66_1.eq_1
def h66_2 : HC := (.seq (.reg (.done [(2, (.inp 3))] none)) .ret)
@[simp] theorem h66_2_wp : type_of% (@wpH h66_2 _ h66_2.eq_1) := wpH h66_2.eq_1
def h66_3 : HC := (.seq (.reg (.chk none .chkp (.cons (.inp 0) .nil) (.chk none (.fld 2) (.cons (.op .chkp (.cons (.inp 0) .nil)) .nil) (.eff (.ld false 1) (.cons (.op (.fld 2) (.cons (.op .chkp (.cons (.inp 0) .nil)) .nil)) .nil) (.chk none (.idxL 5) (.cons (.bv 0) (.cons (.inp 3) .nil)) (.chk none (.fld 4) (.cons (.op (.idxL 5) (.cons (.bv 0) (.cons (.inp 3) .nil))) .nil) (.eff (.st 1) (.cons (.op (.fld 4) (.cons (.op (.idxL 5) (.cons (.bv 0) (.cons (.inp 3) .nil))) .nil)) (.cons (.cst (.bool true)) .nil)) (.done [] none)))))))) h66_2)
@[simp] theorem h66_3_wp : type_of% (@wpH h66_3 _ h66_3.eq_1) := wpH h66_3.eq_1
def h66_4 : HC := (.br (.chk none .chkp (.cons (.inp 0) .nil) (.chk none (.fld 2) (.cons (.op .chkp (.cons (.inp 0) .nil)) .nil) (.eff (.ld false 1) (.cons (.op (.fld 2) (.cons (.op .chkp (.cons (.inp 0) .nil)) .nil)) .nil) (.chk none (.idxL 5) (.cons (.bv 0) (.cons (.inp 3) .nil)) (.chk none (.fld 0) (.cons (.op (.idxL 5) (.cons (.bv 0) (.cons (.inp 3) .nil))) .nil) (.eff (.ld false 1) (.cons (.op (.fld 0) (.cons (.op (.idxL 5) (.cons (.bv 0) (.cons (.inp 3) .nil))) .nil)) .nil) (.chk none (.bin .eql) (.cons (.bv 1) (.cons (.inp 1) .nil)) (.done [] (some (.op (.bin .eql) (.cons (.bv 1) (.cons (.inp 1) .nil)))))))))))) h66_3 .skip)
@[simp] theorem h66_4_wp : type_of% (@wpH h66_4 _ h66_4.eq_1) := wpH h66_4.eq_1
def h66_5 : HC := (.seq (.block 1 h66_4) h66_1)
@[simp] theorem h66_5_wp : type_of% (@wpH h66_5 _ h66_5.eq_1) := wpH h66_5.eq_1
def h66_6 : HC := (.seq (.br (.chk none .chkp (.cons (.inp 0) .nil) (.chk none (.fld 2) (.cons (.op .chkp (.cons (.inp 0) .nil)) .nil) (.eff (.ld false 1) (.cons (.op (.fld 2) (.cons (.op .chkp (.cons (.inp 0) .nil)) .nil)) .nil) (.chk none .lenL (.cons (.bv 0) .nil) (.chk none (.bin .lss) (.cons (.inp 3) (.cons (.op .lenL (.cons (.bv 0) .nil)) .nil)) (.done [] (some (.op (.bin .lss) (.cons (.inp 3) (.cons (.op .lenL (.cons (.bv 0) .nil)) .nil)))))))))) .skip (.exit 0)) h66_5)
@[simp] theorem h66_6_wp : type_of% (@wpH h66_6 _ h66_6.eq_1) := wpH h66_6.eq_1
def h66_7 : HC := (.loop h66_6)
@[simp] theorem h66_7_wp : type_of% (@wpH h66_7 _ h66_7.eq_1) := wpH h66_7.eq_1
def h66_8 : HC := (.seq (.block 0 h66_7) h66_0)
@[simp] theorem h66_8_wp : type_of% (@wpH h66_8 _ h66_8.eq_1) := wpH h66_8.eq_1
def h66_9 : HC := (.seq (.reg (.done [(3, (.cst (.int .i64 0)))] none)) h66_8)
@[simp] theorem h66_9_wp : type_of% (@wpH h66_9 _ h66_9.eq_1) := wpH h66_9.eq_1
def h66_10 : HC := (.seq (.reg (.done [(2, (.cst (.int .i64 (-1))))] none)) .ret)
@[simp] theorem h66_10_wp : type_of% (@wpH h66_10 _ h66_10.eq_1) := wpH h66_10.eq_1
def h66_11 : HC := (.seq (.br (.chk none (.eqNil false (.pointer 103) (.pointer none)) (.cons (.inp 0) .nil) (.bnd (.op (.eqNil false (.pointer 103) (.pointer none)) (.cons (.inp 0) .nil)) (.chk (some ((.bv 0), false)) .chkp (.cons (.inp 0) .nil) (.chk (some ((.bv 0), false)) (.fld 0) (.cons (.op .chkp (.cons (.inp 0) .nil)) .nil) (.ite (.bv 0) false (.eff (.ld false 1) (.cons (.ite (.bv 0) false (.op (.fld 0) (.cons (.op .chkp (.cons (.inp 0) .nil)) .nil)) (.cst (.tuple #[]))) .nil) (.chk none .chkp (.cons (.bv 1) .nil) (.chk none (.fld 1) (.cons (.op .chkp (.cons (.bv 1) .nil)) .nil) (.eff (.ld false 1) (.cons (.op (.fld 1) (.cons (.op .chkp (.cons (.bv 1) .nil)) .nil)) .nil) (.chk none (.bin .neq) (.cons (.bv 2) (.cons (.cst (.int .i64 0)) .nil)) (.isb none (.bv 0) (.done [] (some (.op (.bin .neq) (.cons (.bv 2) (.cons (.cst (.int .i64 0)) .nil))))))))))) (.isb none (.bv 0) (.done [] (some (.cst (.bool true)))))))))) h66_10 .skip) h66_9)
@[simp] theorem h66_11_wp : type_of% (@wpH h66_11 _ h66_11.eq_1) := wpH h66_11.eq_1
def l66 : Lifted := ⟨[0, 1, 4, 5], 45, [.slot 2], (.seq (.reg (.done [(2, (.cst (.int .i64 0)))] none)) h66_11)⟩
theorem l66_ok : liftFn T0 66 400 = some l66 := by kernel_rfl
theorem few_spec (n a : Int) (w : World) : CallW Try.prog 87 [.int .i64 n, .int .i64 a] (fun r w' => r = .bool (decide (n ≤ if a < 0 then 0 else a)) ∧ w' = w) w := by
  refine callW_of_lift l87_ok (by simp [l87]) ?_
  simp [l87]
  refine cndI (fun c => ?_) (fun c => ?_)
  · simp at c
    simp [c]
  · simp at c
    simp [show ¬ a < 0 by omega]
abbrev rrO (A : Asn) (r q : Nat) (base : Int) (lv : Value) (Z : Asn) (bad : Bool) : Asn := A * rrpt r q base lv * Z * rflt q bad
theorem rrO_r {w0 w : World} {A Z : Asn} {r q : Nat} {base : Int} {lv : Value} {bad : Bool} (s : St w0 (rrO A r q base lv Z bad) w) : w.cell? ⟨r, 0, none⟩ = some (.pointer (some ⟨q, 0, none⟩)) ∧ w.cell? ⟨r, 1, none⟩ = some (.int .i64 base) ∧ w.cell? ⟨r, 2, none⟩ = some lv :=
  ⟨(cell_of s.drop.drop.look).trans rfl, (cell_of s.drop.drop.look).trans rfl, (cell_of s.drop.drop.look).trans rfl⟩
theorem rwrong_spec (r q : Nat) (base : Int) (lv : Value) (bad : Bool) (p e : Int) (w0 w : World) (A Z : Asn) (he : e ≠ 0) (s : St w0 (rrO A r q base lv Z bad) w) :
    CallW Try.prog 68 [.pointer (some ⟨r, 0, none⟩), .int .i64 p, .int .i64 e] (fun v w' => St w0 (rrO A r q base lv Z true) w') w := by
  obtain ⟨pl, e0, hb, s1⟩ := fopen s
  refine callW_of_lift l68_ok (by simp [l68]) ?_
  simp [l68]
  refine eff_ldc (v := .pointer (some ⟨q, 0, none⟩)) (rrO_r s).1 ?_
  simp
  refine eff_ldc (v := .int .i64 e0) ((cell_of s1.look).trans rfl) ?_
  simp
  refine cndI (fun c => ?_) (fun c => ?_)
  · simp at c
    simp
    refine regmI (oneC (St w0 (A * rrpt r q base lv * Z * pt q (.cells #[.int .i64 pl, .int .i64 e0] 96 (0, 0)))) (fun w => ∃ pl, St w0 (A * rrpt r q base lv * Z * pt q (.cells #[.int .i64 pl, .int .i64 e0] 96 (0, 0))) w)) s1.drew ?_
    simp
    refine effm_ldc (v := .pointer (some ⟨q, 0, none⟩)) (fun vs' w he hw => (cell_of (oneC_pre he hw).drop.drop.look).trans rfl) ?_
    simp
    refine effm_ldc (v := .int .i64 base) (fun vs' w he hw => (cell_of (oneC_pre he hw).drop.drop.look).trans rfl) ?_
    simp
    refine effm_mv rfl (fun w hw => ?_) (fun u _ => ?_)
    · refine eff_st1 hw rfl (by simp) fun w2 s2 => ?_
      simp at s2
      exact ⟨_, s2⟩
    simp
    rintro w3 ⟨pl', s3⟩
    refine eff_ldc (v := .pointer (some ⟨q, 0, none⟩)) ((cell_of s3.drop.drop.look).trans rfl) ?_
    simp
    refine eff_st1 s3 rfl (by simp) fun w4 s4 => ?_
    simp at s4 ⊢
    exact fclose (by simp [he]) s4
  · simp at c
    simp
    exact fclose (by simp [c]) s1
theorem rread_spec (q : Nat) (bad : Bool) (base : Int) (b : List UInt8) (v : Value) (w0 w : World) (A : Asn) (hl : b.length ≤ 35184372088832) (h : BR w0 A v b) (s : St w0 (A * rflt q bad) w) :
    CallW Try.prog 64 [.pointer (some ⟨q, 0, none⟩), .int .i64 base, v] (fun r w' => ∃ p, r = .pointer (some ⟨p, 0, none⟩) ∧ St w0 (A * rflt q (rdF bad b).1 * rrP p q (rdF bad b).2) w') w := by
  obtain ⟨a, cap, rfl⟩ := h.val
  refine callW_of_lift l64_ok (by simp [l64]) ?_
  simp [l64, Instr.fill, Value.cells]
  refine eff_box s fun p w1 s1 => ?_
  simp
  have s1 : St w0 (A * rflt q bad * rrpt p q base (.slice none 0 0)) w1 := s1
  obtain ⟨pl, e0, hb, s2⟩ := fopen s1.swap
  refine eff_ldc (v := .int .i64 e0) ((cell_of s2.look).trans rfl) ?_
  simp
  refine cndI (fun c => ?_) (fun c => ?_)
  · simp at c
    have hbad : bad = true := hb.1 c
    simp [rdF, hbad]
    subst hbad
    exact rrempty s1
  simp at c
  have hbad : bad = false := by cases bad with
    | false => rfl
    | true => exact absurd c (hb.2 rfl)
  subst hbad
  simp
  refine eff_call ((rGet_spec b _ w0 w1 _ A (fun w s => s.drop.drop) hl h s1).mono ?_)
  rintro r w3 (⟨F, l, lv, hF, rfl, ht, s3⟩ | ⟨hF, pl2, e2, he2, rfl, s3⟩)
  · have s4 : St w0 (A * rflt q false * bss (l.map (·.v)) (F.map (·.2)) * own 100 5 lv l.length (rfflat l) * rrpt p q base (.slice none 0 0)) w3 := s3.to (by simp only [rfA]; ac_rfl)
    obtain ⟨la, lc, rfl, _⟩ := s4.drop.own_val
    simp
    refine eff_st1 s4 rfl (by simp) fun w4 s5 => ?_
    simp at s5 ⊢
    simp only [rdF, hF]
    exact rrclose (base := base) (lv := .slice la l.length lc) ht (s5.to (by simp only [rfA]; ac_rfl))
  · simp [he2]
    refine eff_call ((rwrong_spec p q base (.slice none 0 0) false _ e2 w0 w3 A emp he2 (s3.to (by simp only [rrO, sep_emp]; ac_rfl))).mono fun r w4 s4 => ?_)
    simp
    simp only [rdF, hF]
    exact rrempty (s4.to (B := A * rflt q true * rrpt p q base (.slice none 0 0)) (by simp only [rrO, sep_emp]; ac_rfl))
theorem rNewReader_spec (b : List UInt8) (v : Value) (w0 w : World) (A : Asn) (hl : b.length ≤ 35184372088832) (h : BR w0 A v b) (s : St w0 A w) :
    CallW Try.prog 34 [v] (fun r w' => ∃ p q, r = .pointer (some ⟨p, 0, none⟩) ∧ St w0 (A * rflt q (rdF false b).1 * rrP p q (rdF false b).2) w') w := by
  obtain ⟨a, cap, rfl⟩ := h.val
  refine callW_of_lift l34_ok (by simp [l34]) ?_
  simp [l34, Instr.fill, Value.cells]
  refine eff_box s fun q w1 s1 => ?_
  simp
  have s3 : St w0 (A * rflt q false) w1 := fclose (pl := 0) (e := 0) (by simp) s1
  refine eff_call ((rread_spec q false 0 b _ w0 w1 _ hl h s3).mono ?_)
  rintro r w3 ⟨p, rfl, s4⟩
  simp
  exact ⟨_, s4⟩
end Go.HL.Tl

namespace Go.HL.Tl
open Go.HL Go.Proofs
set_option maxRecDepth 4000
set_option linter.unusedSimpArgs false
set_option linter.unusedVariables false
section
variable {w0 : World} {A : Asn} {r q : Nat} {base : Int} {lv : Value} {l : List Rf} {F : Flds} {bad : Bool}
theorem rr_own {w : World} (s : St w0 (rrO A r q base lv (rfA lv l F) bad) w) : St w0 (A * rrpt r q base lv * rflt q bad * bss (l.map (·.v)) (F.map (·.2)) * own 100 5 lv l.length (rfflat l)) w := s.to (by simp only [rrO, rfA]; ac_rfl)
theorem rr_own' {w : World} (s : St w0 (A * rrpt r q base lv * rflt q bad * bss (l.map (·.v)) (F.map (·.2)) * own 100 5 lv l.length (rfflat l)) w) : St w0 (rrO A r q base lv (rfA lv l F) bad) w := s.to (by simp only [rrO, rfA]; ac_rfl)
theorem rr_val {w : World} (h : 0 < l.length) (s : St w0 (rrO A r q base lv (rfA lv l F) bad) w) : ∃ g cap, lv = .slice (some ⟨g, 0, none⟩) l.length cap := by
  obtain ⟨g, cap, e, _⟩ := (rr_own s).own_at h
  exact ⟨g, cap, e⟩
theorem rr_cell {w : World} {g cap i : Nat} (hi : i < l.length) (s : St w0 (rrO A r q base (.slice (some ⟨g, 0, none⟩) l.length cap) (rfA (.slice (some ⟨g, 0, none⟩) l.length cap) l F) bad) w) : ∀ j u, (l[i].cs)[j]? = some u → w.cell? ⟨g, i * 5 + j, none⟩ = some u := by
  obtain ⟨g', cap', e, _, hc⟩ := (rr_own s).own_at (by omega)
  cases e
  exact fun j u hu => hc _ _ (rfflat_at hi j u hu)
theorem rr_row {w : World} {i : Nat} (hi : i < l.length) (hF : i < F.length) (s : St w0 (rrO A r q base lv (rfA lv l F) bad) w) : BR w0 (rrO A r q base lv (rfA lv l F) bad) l[i].v F[i].2 := by
  have h := bss_row (vs := l.map (·.v)) (L := F.map (·.2)) (i := i) (by simpa using hi) (by simpa using hF) (A := A * rrpt r q base lv * rflt q bad * own 100 5 lv l.length (rfflat l)) (s.to (by simp only [rrO, rfA]; ac_rfl))
  have h2 := h.mono (B := rrO A r q base lv (rfA lv l F) bad) fun w s => s.to (by simp only [rrO, rfA]; ac_rfl)
  simpa using h2
theorem rr_close {w : World} (ht : l.map (·.tag) = F.map (·.1)) (s : St w0 (rrO A r q base lv (rfA lv l F) bad) w) : St w0 (A * rflt q bad * rrP r q F) w := rrclose ht (s.to (by simp only [rrO]; ac_rfl))
theorem rr_open {w : World} (s : St w0 (A * rflt q bad * rrP r q F) w) : ∃ base lv l, l.map (·.tag) = F.map (·.1) ∧ St w0 (rrO A r q base lv (rfA lv l F) bad) w := by
  obtain ⟨base, lv, l, ht, s1⟩ := rropen s
  exact ⟨base, lv, l, ht, s1.to (by simp only [rrO]; ac_rfl)⟩
end
theorem flt_val {w0 w : World} {A : Asn} {t q : Nat} {bad : Bool} (s : St w0 (A * fltA t q bad) w) : ∃ e : Int, (e ≠ 0 ↔ bad = true) ∧ w.cell? ⟨q, 1, none⟩ = some (.int .i64 e) := by
  obtain ⟨pl, e, hb, s1⟩ := fopen s
  exact ⟨e, hb, (cell_of s1.look).trans rfl⟩
def RFieldPost (w0 : World) (A : Asn) (r q : Nat) (bad : Bool) (F : Flds) (tag : Int) (v : Value) (w' : World) : Prop :=
  (valF bad F tag = none ∧ v = .int .i64 (-1) ∧ St w0 (A * rflt q bad * rrP r q F) w') ∨
  (∃ base, ∃ g cap : Nat, ∃ l i, ∃ (hi : i < l.length), ∃ (hF : i < F.length), valF bad F tag = some F[i].2 ∧ v = .int .i64 i ∧ l.map (·.tag) = F.map (·.1) ∧ bad = false ∧ St w0 (rrO A r q base (.slice (some ⟨g, 0, none⟩) l.length cap) (rfA (.slice (some ⟨g, 0, none⟩) l.length cap) l F) bad) w')
theorem rf_set {l : List Rf} {i : Nat} (hi : i < l.length) : (rfflat l).set (i * 5 + 4) (.bool true) = rfflat (l.set i { l[i] with tk := true }) := by
  rw [show rfflat (l.set i { l[i] with tk := true }) = (l.set i { l[i] with tk := true }).flatMap Rf.cs from rfl, ← flat_set Rf.cs 5 (fun _ => rfl) _ l i hi]
  have h1 : l.flatMap Rf.cs = (l.flatMap Rf.cs).take (i * 5) ++ l[i].cs ++ (l.flatMap Rf.cs).drop (i * 5 + 5) := by
    have h2 := flat_set Rf.cs 5 (fun _ => rfl) l[i] l i hi
    rw [h2, List.set_getElem_self]
  have hl : ((l.flatMap Rf.cs).take (i * 5)).length = i * 5 := by
    have := rfflat_len l
    rw [List.length_take]
    have : (l.flatMap Rf.cs).length = l.length * 5 := this
    omega
  show (l.flatMap Rf.cs).set (i * 5 + 4) (.bool true) = _
  have e : (l.flatMap Rf.cs).set (i * 5 + 4) (.bool true) = ((l.flatMap Rf.cs).take (i * 5) ++ l[i].cs ++ (l.flatMap Rf.cs).drop (i * 5 + 5)).set (i * 5 + 4) (.bool true) := by rw [← h1]
  rw [e, List.append_assoc, List.set_append_right _ _ (by omega), hl, List.set_append_left _ _ (by simp [Rf.cs])]
  rw [← List.append_assoc]
  have : i * 5 + 4 - i * 5 = 4 := by omega
  rw [this]
  rfl
set_option maxHeartbeats 1000000 in
theorem rfield_spec (r q : Nat) (bad : Bool) (F : Flds) (tag : Int) (w0 w : World) (A : Asn) (hO : OKF F) (s : St w0 (A * rflt q bad * rrP r q F) w) :
    CallW Try.prog 66 [.pointer (some ⟨r, 0, none⟩), .int .i64 tag] (RFieldPost w0 A r q bad F tag) w := by
  have hn := hO.len
  obtain ⟨base, lv, l, ht, s1⟩ := rr_open s
  have hlen : l.length = F.length := by simpa using congrArg List.length ht
  refine callW_of_lift l66_ok (by simp [l66]) ?_
  simp [l66]
  refine eff_ldc (v := .pointer (some ⟨q, 0, none⟩)) (rrO_r s1).1 ?_
  simp
  obtain ⟨e, hb, hc⟩ := flt_val s1
  refine eff_ldc (v := .int .i64 e) hc ?_
  simp
  refine cndI (fun c => ?_) (fun c => ?_)
  · simp at c
    simp
    have hbad : bad = true := hb.1 c
    exact .inl ⟨by simp [valF, hbad], rfl, s⟩
  simp at c
  have hbad : bad = false := by cases bad with
    | false => rfl
    | true => exact absurd c (hb.2 rfl)
  subst hbad
  simp
  refine loopI (fun env w' => ∃ (i : Nat), env = [.pointer (some ⟨r, 0, none⟩), .int .i64 tag, .int .i64 0, .int .i64 i] ∧ i ≤ l.length ∧ fiF F tag = fiF (F.drop i) tag ∧ St w0 (rrO A r q base lv (rfA lv l F) false) w')
    (fun env _ => l.length - slotN env 3) ⟨0, rfl, by omega, rfl, s1⟩ ?_
  clear s s1 hc
  rintro LQ env w' ⟨i, rfl, hi, hF, s4⟩ hN hX hR
  obtain ⟨la, lc, rfl, _⟩ := (rr_own s4).own_val
  simp
  refine eff_ldc (v := .slice la l.length lc) (rrO_r s4).2.2 ?_
  simp
  refine cndI (fun c1 => ?_) (fun c1 => ?_)
  · simp at c1
    obtain ⟨g, cap, e⟩ := rr_val (by omega) s4
    cases e
    simp
    refine eff_ldc (v := .slice (some ⟨g, 0, none⟩) l.length lc) (rrO_r s4).2.2 ?_
    simp [c1]
    refine eff_ldc (v := .int .i64 l[i].tag) (by have := rr_cell c1 s4 0 _ rfl; simpa using this) ?_
    have htag : l[i].tag = (F[i]'(by omega)).1 := by
      have : (l.map (·.tag))[i]? = (F.map (·.1))[i]? := by rw [ht]
      simpa [c1, show i < F.length by omega] using this
    simp
    refine cndI (fun c2 => ?_) (fun c2 => ?_)
    · simp at c2
      simp
      refine eff_ldc (v := .slice (some ⟨g, 0, none⟩) l.length lc) (rrO_r s4).2.2 ?_
      simp [c1]
      have s5 := rr_own s4
      refine eff_stC (j := i * 5 + 4) (u := .bool true) s5 (by rw [rfflat_len]; omega) rfl fun w6 s6 => ?_
      rw [rf_set c1] at s6
      simp
      refine hR _ _ ?_
      simp
      have hl2 : (l.set i { l[i] with tk := true }).length = l.length := by simp
      have ev : (l.set i { l[i] with tk := true }).map (·.v) = l.map (·.v) := by
        apply List.ext_getElem?
        intro j
        by_cases e : i = j
        · subst e; simp [c1]
        · simp [List.getElem?_set_ne e]
      have et : (l.set i { l[i] with tk := true }).map (·.tag) = l.map (·.tag) := by
        apply List.ext_getElem?
        intro j
        by_cases e : i = j
        · subst e; simp [c1]
        · simp [List.getElem?_set_ne e]
      refine .inr ⟨base, g, lc, l.set i { l[i] with tk := true }, i, by rw [hl2]; exact c1, by omega, ?_, rfl, by rw [et]; exact ht, rfl, ?_⟩
      · simp only [valF]
        exact fiF_hit (by omega) hF (by rw [← htag]; exact c2)
      · refine rr_own' ?_
        rw [ev, hl2]
        exact s6
    · simp at c2
      simp
      try simp (disch := omega) only [wrap64]
      exact hN _ _ ⟨i + 1, by simp, by omega, fiF_step (by omega) hF (by rw [← htag]; exact c2), s4⟩ (by simp [slotN]; omega)
  · simp at c1
    simp
    refine hX _ _ _ ?_
    simp
    refine .inl ⟨?_, rfl, rr_close ht s4⟩
    have : F.drop i = [] := List.drop_of_length_le (by omega)
    rw [this] at hF
    simp [valF, hF, fiF]
end Go.HL.Tl

namespace Go.HL.Tl
open Go.HL Go.Proofs
set_option maxRecDepth 4000
set_option linter.unusedSimpArgs false
set_option linter.unusedVariables false

def h37_0 : HC := (.seq (.reg (.done [(3, (.inp 6))] none)) .ret)
@[simp] theorem h37_0_wp : type_of% (@wpH h37_0 _ h37_0.eq_1) := wpH h37_0.eq_1
def h37_1 : HC := (.seq (.reg (.done [(3, (.cst (.int .u64 0)))] none)) .ret)
@[simp] theorem h37_1_wp : type_of% (@wpH h37_1 _ h37_1.eq_1) := wpH h37_1.eq_1
def h37_2 : HC := (.seq (.reg (.chk none (.fld 3) (.cons (.inp 5) .nil) (.eff (.ld false 1) (.cons (.op (.fld 3) (.cons (.inp 5) .nil)) .nil) (.eff (.call 68) (.cons (.inp 0) (.cons (.bv 0) (.cons (.cst (.int .i64 3)) .nil))) (.done [] none))))) h37_1)
@[simp] theorem h37_2_wp : type_of% (@wpH h37_2 _ h37_2.eq_1) := wpH h37_2.eq_1
def h37_3 : HC := (.seq (.br (.chk none (.bin .gtr) (.cons (.inp 6) (.cons (.inp 2) .nil)) (.done [] (some (.op (.bin .gtr) (.cons (.inp 6) (.cons (.inp 2) .nil)))))) h37_2 .skip) h37_0)
@[simp] theorem h37_3_wp : type_of% (@wpH h37_3 _ h37_3.eq_1) := wpH h37_3.eq_1
def h37_4 : HC := (.seq (.reg (.done [(3, (.cst (.int .u64 0)))] none)) .ret)
@[simp] theorem h37_4_wp : type_of% (@wpH h37_4 _ h37_4.eq_1) := wpH h37_4.eq_1
def h37_5 : HC := (.seq (.reg (.chk none (.fld 3) (.cons (.inp 5) .nil) (.eff (.ld false 1) (.cons (.op (.fld 3) (.cons (.inp 5) .nil)) .nil) (.eff (.call 68) (.cons (.inp 0) (.cons (.bv 0) (.cons (.cst (.int .i64 20)) .nil))) (.done [] none))))) h37_4)
@[simp] theorem h37_5_wp : type_of% (@wpH h37_5 _ h37_5.eq_1) := wpH h37_5.eq_1
def h37_6 : HC := (.seq (.br (.chk none (.bin .neq) (.cons (.inp 8) (.cons (.cst (.int .i64 0)) .nil)) (.bnd (.op (.bin .neq) (.cons (.inp 8) (.cons (.cst (.int .i64 0)) .nil))) (.chk (some ((.bv 0), false)) (.fld 1) (.cons (.inp 5) .nil) (.ite (.bv 0) false (.eff (.ld false 1) (.cons (.ite (.bv 0) false (.op (.fld 1) (.cons (.inp 5) .nil)) (.cst (.tuple #[]))) .nil) (.chk none .lenL (.cons (.bv 1) .nil) (.chk none (.bin .neq) (.cons (.ite (.bv 0) false (.inp 7) (.cst (.tuple #[]))) (.cons (.op .lenL (.cons (.bv 1) .nil)) .nil)) (.isb none (.bv 0) (.bnd (.op (.bin .neq) (.cons (.ite (.bv 0) false (.inp 7) (.cst (.tuple #[]))) (.cons (.op .lenL (.cons (.bv 1) .nil)) .nil))) (.chk (some ((.bv 2), false)) (.bin .eql) (.cons (.inp 6) (.cons (.cst (.int .u64 0)) .nil)) (.isb none (.bv 2) (.done [] (some (.ite (.bv 2) true (.cst (.bool true)) (.op (.bin .eql) (.cons (.inp 6) (.cons (.cst (.int .u64 0)) .nil))))))))))))) (.isb none (.bv 0) (.isb none (.cst (.bool true)) (.done [] (some (.cst (.bool true)))))))))) h37_5 .skip) h37_3)
@[simp] theorem h37_6_wp : type_of% (@wpH h37_6 _ h37_6.eq_1) := wpH h37_6.eq_1
def h37_7 : HC := (.seq (.reg (.chk none (.fld 1) (.cons (.inp 5) .nil) (.eff (.ld false 1) (.cons (.op (.fld 1) (.cons (.inp 5) .nil)) .nil) (.eff (.call 67) (.cons (.bv 0) (.cons (.cst (.int .i64 0)) .nil)) (.chk none (.ext 0) (.cons (.bv 1) .nil) (.chk none (.ext 1) (.cons (.bv 1) .nil) (.chk none (.ext 2) (.cons (.bv 1) .nil) (.done [(6, (.op (.ext 0) (.cons (.bv 1) .nil))), (7, (.op (.ext 1) (.cons (.bv 1) .nil))), (8, (.op (.ext 2) (.cons (.bv 1) .nil)))] none)))))))) h37_6)
@[simp] theorem h37_7_wp : type_of% (@wpH h37_7 _ h37_7.eq_1) := wpH h37_7.eq_1
def h37_8 : HC := (.seq (.reg (.chk none .chkp (.cons (.inp 0) .nil) (.chk none (.fld 2) (.cons (.op .chkp (.cons (.inp 0) .nil)) .nil) (.eff (.ld false 1) (.cons (.op (.fld 2) (.cons (.op .chkp (.cons (.inp 0) .nil)) .nil)) .nil) (.chk none (.idxL 5) (.cons (.bv 0) (.cons (.inp 4) .nil)) (.eff (.ld true 5) (.cons (.op (.idxL 5) (.cons (.bv 0) (.cons (.inp 4) .nil))) .nil) (.eff (.new 100 (.agg #[(.int .i64 0), (.slice none 0 0), (.int .i64 0), (.int .i64 0), (.bool false)])) .nil (.eff (.st 5) (.cons (.bv 2) (.cons (.bv 1) .nil)) (.done [(5, (.bv 2))] none))))))))) h37_7)
@[simp] theorem h37_8_wp : type_of% (@wpH h37_8 _ h37_8.eq_1) := wpH h37_8.eq_1
def h37_9 : HC := (.seq (.reg (.done [(3, (.cst (.int .u64 0)))] none)) .ret)
@[simp] theorem h37_9_wp : type_of% (@wpH h37_9 _ h37_9.eq_1) := wpH h37_9.eq_1
def h37_10 : HC := (.seq (.br (.chk none (.bin .lss) (.cons (.inp 4) (.cons (.cst (.int .i64 0)) .nil)) (.done [] (some (.op (.bin .lss) (.cons (.inp 4) (.cons (.cst (.int .i64 0)) .nil)))))) h37_9 .skip) h37_8)
@[simp] theorem h37_10_wp : type_of% (@wpH h37_10 _ h37_10.eq_1) := wpH h37_10.eq_1
def h37_11 : HC := (.seq (.reg (.eff (.call 66) (.cons (.inp 0) (.cons (.inp 1) .nil)) (.done [(4, (.bv 0))] none))) h37_10)
@[simp] theorem h37_11_wp : type_of% (@wpH h37_11 _ h37_11.eq_1) := wpH h37_11.eq_1
def l37 : Lifted := ⟨[0, 1, 2, 6, 7, 8, 9, 10, 11], 56, [.slot 3], (.seq (.reg (.done [(3, (.cst (.int .u64 0)))] none)) h37_11)⟩
theorem l37_ok : liftFn T0 37 400 = some l37 := by kernel_rfl

def h65_0 : HC := (.seq (.reg (.chk none .chkp (.cons (.inp 0) .nil) (.chk none (.fld 2) (.cons (.op .chkp (.cons (.inp 0) .nil)) .nil) (.eff (.ld false 1) (.cons (.op (.fld 2) (.cons (.op .chkp (.cons (.inp 0) .nil)) .nil)) .nil) (.chk none (.idxL 5) (.cons (.bv 0) (.cons (.inp 4) .nil)) (.chk none (.fld 1) (.cons (.op (.idxL 5) (.cons (.bv 0) (.cons (.inp 4) .nil))) .nil) (.eff (.ld false 1) (.cons (.op (.fld 1) (.cons (.op (.idxL 5) (.cons (.bv 0) (.cons (.inp 4) .nil))) .nil)) .nil) (.eff (.call 57) (.cons (.bv 1) .nil) (.done [(3, (.bv 2))] none))))))))) .ret)
@[simp] theorem h65_0_wp : type_of% (@wpH h65_0 _ h65_0.eq_1) := wpH h65_0.eq_1
def h65_1 : HC := (.seq (.reg (.done [(3, (.cst (.slice none 0 0)))] none)) .ret)
@[simp] theorem h65_1_wp : type_of% (@wpH h65_1 _ h65_1.eq_1) := wpH h65_1.eq_1
def h65_2 : HC := (.seq (.reg (.chk none .chkp (.cons (.inp 0) .nil) (.chk none (.fld 2) (.cons (.op .chkp (.cons (.inp 0) .nil)) .nil) (.eff (.ld false 1) (.cons (.op (.fld 2) (.cons (.op .chkp (.cons (.inp 0) .nil)) .nil)) .nil) (.chk none (.idxL 5) (.cons (.bv 0) (.cons (.inp 4) .nil)) (.chk none (.fld 3) (.cons (.op (.idxL 5) (.cons (.bv 0) (.cons (.inp 4) .nil))) .nil) (.eff (.ld false 1) (.cons (.op (.fld 3) (.cons (.op (.idxL 5) (.cons (.bv 0) (.cons (.inp 4) .nil))) .nil)) .nil) (.eff (.call 68) (.cons (.inp 0) (.cons (.bv 1) (.cons (.cst (.int .i64 3)) .nil))) (.done [] none))))))))) h65_1)
@[simp] theorem h65_2_wp : type_of% (@wpH h65_2 _ h65_2.eq_1) := wpH h65_2.eq_1
def h65_3 : HC := (.seq (.br (.chk none .chkp (.cons (.inp 0) .nil) (.chk none (.fld 2) (.cons (.op .chkp (.cons (.inp 0) .nil)) .nil) (.eff (.ld false 1) (.cons (.op (.fld 2) (.cons (.op .chkp (.cons (.inp 0) .nil)) .nil)) .nil) (.chk none (.idxL 5) (.cons (.bv 0) (.cons (.inp 4) .nil)) (.chk none (.fld 1) (.cons (.op (.idxL 5) (.cons (.bv 0) (.cons (.inp 4) .nil))) .nil) (.eff (.ld false 1) (.cons (.op (.fld 1) (.cons (.op (.idxL 5) (.cons (.bv 0) (.cons (.inp 4) .nil))) .nil)) .nil) (.chk none .lenL (.cons (.bv 1) .nil) (.eff (.call 87) (.cons (.op .lenL (.cons (.bv 1) .nil)) (.cons (.inp 2) .nil)) (.chk none (.un .not) (.cons (.bv 2) .nil) (.done [] (some (.op (.un .not) (.cons (.bv 2) .nil))))))))))))) h65_2 .skip) h65_0)
@[simp] theorem h65_3_wp : type_of% (@wpH h65_3 _ h65_3.eq_1) := wpH h65_3.eq_1
def h65_4 : HC := (.seq (.reg (.done [(3, (.cst (.slice none 0 0)))] none)) .ret)
@[simp] theorem h65_4_wp : type_of% (@wpH h65_4 _ h65_4.eq_1) := wpH h65_4.eq_1
def h65_5 : HC := (.seq (.br (.chk none (.bin .lss) (.cons (.inp 4) (.cons (.cst (.int .i64 0)) .nil)) (.done [] (some (.op (.bin .lss) (.cons (.inp 4) (.cons (.cst (.int .i64 0)) .nil)))))) h65_4 .skip) h65_3)
@[simp] theorem h65_5_wp : type_of% (@wpH h65_5 _ h65_5.eq_1) := wpH h65_5.eq_1
def h65_6 : HC := (.seq (.reg (.eff (.call 66) (.cons (.inp 0) (.cons (.inp 1) .nil)) (.done [(4, (.bv 0))] none))) h65_5)
@[simp] theorem h65_6_wp : type_of% (@wpH h65_6 _ h65_6.eq_1) := wpH h65_6.eq_1
def l65 : Lifted := ⟨[0, 1, 2, 6, 7], 44, [.slot 3], (.seq (.reg (.done [(3, (.cst (.slice none 0 0)))] none)) h65_6)⟩
theorem l65_ok : liftFn T0 65 400 = some l65 := by kernel_rfl

def h36_0 : HC := (.seq (.reg (.eff (.call 65) (.cons (.inp 0) (.cons (.inp 1) (.cons (.inp 2) .nil))) (.eff (.b2s 31 9) (.cons (.bv 0) .nil) (.done [(3, (.bv 1))] none)))) .ret)
@[simp] theorem h36_0_wp : type_of% (@wpH h36_0 _ h36_0.eq_1) := wpH h36_0.eq_1
def l36 : Lifted := ⟨[0, 1, 2, 6], 12, [.slot 3], (.seq (.reg (.done [(3, (.cst (.string ⟨#[]⟩)))] none)) h36_0)⟩
theorem l36_ok : liftFn T0 36 400 = some l36 := by kernel_rfl

def h39_0 : HC := (.seq (.regq (some 1) (.chk none .chkp (.cons (.inp 0) .nil) (.chk none (.fld 0) (.cons (.op .chkp (.cons (.inp 0) .nil)) .nil) (.eff (.ld false 1) (.cons (.op (.fld 0) (.cons (.op .chkp (.cons (.inp 0) .nil)) .nil)) .nil) (.chk none .chkp (.cons (.inp 0) .nil) (.chk none (.fld 1) (.cons (.op .chkp (.cons (.inp 0) .nil)) .nil) (.eff (.ld false 1) (.cons (.op (.fld 1) (.cons (.op .chkp (.cons (.inp 0) .nil)) .nil)) .nil) (.chk none .chkp (.cons (.inp 0) .nil) (.chk none (.fld 2) (.cons (.op .chkp (.cons (.inp 0) .nil)) .nil) (.eff (.ld false 1) (.cons (.op (.fld 2) (.cons (.op .chkp (.cons (.inp 0) .nil)) .nil)) .nil) (.chk none (.idxL 5) (.cons (.bv 2) (.cons (.inp 3) .nil)) (.chk none (.fld 3) (.cons (.op (.idxL 5) (.cons (.bv 2) (.cons (.inp 3) .nil))) .nil) (.eff (.ld false 1) (.cons (.op (.fld 3) (.cons (.op (.idxL 5) (.cons (.bv 2) (.cons (.inp 3) .nil))) .nil)) .nil) (.chk none (.bin .add) (.cons (.bv 1) (.cons (.bv 3) .nil)) (.chk none .chkp (.cons (.inp 0) .nil) (.chk none (.fld 2) (.cons (.op .chkp (.cons (.inp 0) .nil)) .nil) (.eff (.ld false 1) (.cons (.op (.fld 2) (.cons (.op .chkp (.cons (.inp 0) .nil)) .nil)) .nil) (.chk none (.idxL 5) (.cons (.bv 4) (.cons (.inp 3) .nil)) (.chk none (.fld 1) (.cons (.op (.idxL 5) (.cons (.bv 4) (.cons (.inp 3) .nil))) .nil) (.eff (.ld false 1) (.cons (.op (.fld 1) (.cons (.op (.idxL 5) (.cons (.bv 4) (.cons (.inp 3) .nil))) .nil)) .nil) (.eff (.call 64) (.cons (.bv 0) (.cons (.op (.bin .add) (.cons (.bv 1) (.cons (.bv 3) .nil))) (.cons (.bv 5) .nil))) (.done [(2, (.bv 6))] none)))))))))))))))))))))) .ret)
@[simp] theorem h39_0_wp : type_of% (@wpH h39_0 _ h39_0.eq_1) := wpH h39_0.eq_1
def h39_1 : HC := (.seq (.regq (some 1) (.chk none .chkp (.cons (.inp 0) .nil) (.chk none (.fld 0) (.cons (.op .chkp (.cons (.inp 0) .nil)) .nil) (.eff (.ld false 1) (.cons (.op (.fld 0) (.cons (.op .chkp (.cons (.inp 0) .nil)) .nil)) .nil) (.chk none .chkp (.cons (.inp 0) .nil) (.chk none (.fld 1) (.cons (.op .chkp (.cons (.inp 0) .nil)) .nil) (.eff (.ld false 1) (.cons (.op (.fld 1) (.cons (.op .chkp (.cons (.inp 0) .nil)) .nil)) .nil) (.chk none (.build #[(.pointer none), (.int .i64 0), (.slice none 0 0)] [(0, 1), (1, 1), (2, 1)] [0, 1]) (.cons (.bv 0) (.cons (.bv 1) .nil)) (.eff (.box 103) (.cons (.op (.build #[(.pointer none), (.int .i64 0), (.slice none 0 0)] [(0, 1), (1, 1), (2, 1)] [0, 1]) (.cons (.bv 0) (.cons (.bv 1) .nil))) .nil) (.done [(2, (.bv 2))] none)))))))))) .ret)
@[simp] theorem h39_1_wp : type_of% (@wpH h39_1 _ h39_1.eq_1) := wpH h39_1.eq_1
def h39_2 : HC := (.seq (.br (.chk none (.bin .lss) (.cons (.inp 3) (.cons (.cst (.int .i64 0)) .nil)) (.done [] (some (.op (.bin .lss) (.cons (.inp 3) (.cons (.cst (.int .i64 0)) .nil)))))) h39_1 .skip) h39_0)
@[simp] theorem h39_2_wp : type_of% (@wpH h39_2 _ h39_2.eq_1) := wpH h39_2.eq_1
def h39_3 : HC := (.seq (.reg (.eff (.call 66) (.cons (.inp 0) (.cons (.inp 1) .nil)) (.done [(3, (.bv 0))] none))) h39_2)
@[simp] theorem h39_3_wp : type_of% (@wpH h39_3 _ h39_3.eq_1) := wpH h39_3.eq_1
def h39_4 : HC := (.seq (.reg (.done [(2, (.cst (.pointer none)))] none)) .ret)
@[simp] theorem h39_4_wp : type_of% (@wpH h39_4 _ h39_4.eq_1) := wpH h39_4.eq_1
def h39_5 : HC := (.seq (.br (.chk none (.eqNil false (.pointer 103) (.pointer none)) (.cons (.inp 0) .nil) (.done [] (some (.op (.eqNil false (.pointer 103) (.pointer none)) (.cons (.inp 0) .nil))))) h39_4 .skip) h39_3)
@[simp] theorem h39_5_wp : type_of% (@wpH h39_5 _ h39_5.eq_1) := wpH h39_5.eq_1
def l39 : Lifted := ⟨[0, 1, 4, 5], 49, [.slot 2], (.seq (.reg (.done [(2, (.cst (.pointer none)))] none)) h39_5)⟩
theorem l39_ok : liftFn T0 39 400 = some l39 := by kernel_rfl
theorem rNumber_rspec (r q : Nat) (bad : Bool) (F : Flds) (tag most : Int) (w0 w : World) (A : Asn) (hO : OKF F) (s : St w0 (A * rflt q bad * rrP r q F) w) :
    CallW Try.prog 37 [.pointer (some ⟨r, 0, none⟩), .int .i64 tag, .int .u64 most] (fun v w' => v = .int .u64 (numR bad F tag most).1 ∧ St w0 (A * rflt q (numR bad F tag most).2 * rrP r q F) w') w := by
  refine callW_of_lift l37_ok (by simp [l37]) ?_
  simp [l37]
  refine eff_call ((rfield_spec r q bad F tag w0 w A hO s).mono ?_)
  rintro _ w1 (⟨hv, rfl, s2⟩ | ⟨base, g, cap, l, i, hi, hF, hv, rfl, ht, rfl, s2⟩)
  · simp [numR, hv]
    exact s2
  have hxl := valF_len hO hv
  obtain ⟨x, hx⟩ : ∃ x, F[i].2 = x := ⟨_, rfl⟩
  have row := rr_row hi hF s2
  rw [hx] at hv hxl row
  obtain ⟨va, vc, hvv⟩ := row.val
  have hi0 : ¬ (i : Int) < 0 := by omega
  simp [hi0]
  refine eff_ldc (v := .slice (some ⟨g, 0, none⟩) l.length cap) (rrO_r s2).2.2 ?_
  simp [hi]
  refine eff_ldcs (vs := l[i].cs) (fun j u hu => rr_cell hi s2 j u hu) rfl ?_
  simp
  refine eff_new s2 fun b w2 s3 => ?_
  simp
  refine eff_stA (vs := l[i].cs) s3 rfl rfl (rf_one _ (by rw [hvv]; rfl)) (by simp) fun w3 s4 => ?_
  simp
  have s4 : St w0 (rrO A r q base (.slice (some ⟨g, 0, none⟩) l.length cap) (rfA (.slice (some ⟨g, 0, none⟩) l.length cap) l F) false * pt b (.cells l[i].cs.toArray 100 (0, 0))) w3 := by simpa [Rf.cs] using s4
  have fb : ∀ {w : World}, St w0 (rrO A r q base (.slice (some ⟨g, 0, none⟩) l.length cap) (rfA (.slice (some ⟨g, 0, none⟩) l.length cap) l F) false * pt b (.cells l[i].cs.toArray 100 (0, 0))) w → w.cell? ⟨b, 1, none⟩ = some l[i].v ∧ w.cell? ⟨b, 3, none⟩ = some (.int .i64 l[i].from') := fun h => ⟨(cell_of h.look).trans rfl, (cell_of h.look).trans rfl⟩
  have bad' : ∀ (e : Int) (K : Value → World → Prop) (w3 : World), e ≠ 0 → St w0 (rrO A r q base (.slice (some ⟨g, 0, none⟩) l.length cap) (rfA (.slice (some ⟨g, 0, none⟩) l.length cap) l F) false * pt b (.cells l[i].cs.toArray 100 (0, 0))) w3 → (∀ u w', St w0 (A * rflt q true * rrP r q F) w' → K u w') →
      EffW Try.prog (.call 68) [.pointer (some ⟨r, 0, none⟩), .int .i64 l[i].from', .int .i64 e] K w3 := fun e K w3 he s hK =>
    eff_call ((rwrong_spec r q base _ false _ e w0 w3 A _ he s.drop).mono fun u w' s' => hK u w' (rr_close ht s'))
  refine eff_ldc (v := l[i].v) (fb s4).1 ?_
  simp
  refine eff_call ((rReadShort_spec x l[i].v 0 w0 w3 _ (Nat.zero_le _) (by omega) (row.mono fun w s => s.drop) s4).mono ?_)
  rintro _ w4 ⟨rfl, s5⟩
  simp
  by_cases he : (rs x 0).2.2 = 0
  · simp [he]
    refine eff_ldc (v := l[i].v) (fb s5).1 ?_
    rw [hvv]
    simp
    refine ⟨Decidable.em _, ?_⟩
    refine cndI (fun c => ?_) (fun c => ?_)
    · simp at c
      have e : numR false F tag most = (0, true) := by
        simp only [numR, hv]; rw [if_pos (by omega)]
      rw [e]
      simp
      refine eff_ldc (v := .int .i64 l[i].from') (fb s5).2 ?_
      simp
      refine bad' 20 _ w4 (by decide) s5 fun u w' s' => ?_
      simp
      exact s'
    simp at c
    simp
    refine cndI (fun c2 => ?_) (fun c2 => ?_)
    · simp at c2
      have e : numR false F tag most = (0, true) := by
        simp only [numR, hv]; rw [if_neg (by omega), if_pos c2]
      rw [e]
      simp
      refine eff_ldc (v := .int .i64 l[i].from') (fb s5).2 ?_
      simp
      refine bad' 3 _ w4 (by decide) s5 fun u w' s' => ?_
      simp
      exact s'
    · simp at c2
      have e : numR false F tag most = (((rs x 0).1 : Int), false) := by
        simp only [numR, hv]; rw [if_neg (by omega), if_neg (by omega)]
      rw [e]
      simp
      exact rr_close ht s5.drop
  · have e : numR false F tag most = (0, true) := by
      simp only [numR, hv]; rw [if_pos (.inl he)]
    rw [e]
    simp [he]
    refine eff_ldc (v := .int .i64 l[i].from') (fb s5).2 ?_
    simp
    refine bad' 20 _ w4 (by decide) s5 fun u w' s' => ?_
    simp
    exact s'
theorem Raw_spec (r q : Nat) (bad : Bool) (F : Flds) (tag most : Int) (w0 w : World) (A : Asn) (hO : OKF F) (s : St w0 (A * rflt q bad * rrP r q F) w) :
    CallW Try.prog 65 [.pointer (some ⟨r, 0, none⟩), .int .i64 tag, .int .i64 most] (fun v w' => St w0 (A * rflt q (rawR bad F tag most).2 * rrP r q F * byA v (rawR bad F tag most).1) w') w := by
  refine callW_of_lift l65_ok (by simp [l65]) ?_
  simp [l65]
  refine eff_call ((rfield_spec r q bad F tag w0 w A hO s).mono ?_)
  rintro _ w1 (⟨hv, rfl, s2⟩ | ⟨base, g, cap, l, i, hi, hF, hv, rfl, ht, rfl, s2⟩)
  · have e : rawR bad F tag most = ([], bad) := by simp only [rawR, hv]
    simp [e]
    exact byA_nil s2
  have hxl := valF_len hO hv
  obtain ⟨x, hx⟩ : ∃ x, F[i].2 = x := ⟨_, rfl⟩
  have row := rr_row hi hF s2
  rw [hx] at hv hxl row
  obtain ⟨va, vc, hvv⟩ := row.val
  have hi0 : ¬ (i : Int) < 0 := by omega
  simp [hi0]
  refine eff_ldc (v := .slice (some ⟨g, 0, none⟩) l.length cap) (rrO_r s2).2.2 ?_
  simp [hi]
  refine eff_ldc (v := l[i].v) (rr_cell hi s2 1 _ rfl) ?_
  rw [hvv]
  simp
  refine eff_call ((few_spec x.length most w1).mono ?_)
  rintro _ w2 ⟨rfl, rfl⟩
  simp
  refine cndI (fun c => ?_) (fun c => ?_)
  · simp at c
    have e : rawR false F tag most = ([], true) := by simp only [rawR, hv]; rw [if_pos c]
    rw [e]
    simp
    refine eff_ldc (v := .slice (some ⟨g, 0, none⟩) l.length cap) (rrO_r s2).2.2 ?_
    simp [hi]
    refine eff_ldc (v := .int .i64 l[i].from') (rr_cell hi s2 3 _ rfl) ?_
    simp
    refine eff_call ((rwrong_spec r q base _ false _ 3 w0 w2 A _ (by decide) s2).mono fun u w' s' => ?_)
    simp
    exact byA_nil (rr_close ht s')
  · simp at c
    have e : rawR false F tag most = (x, false) := by simp only [rawR, hv]; rw [if_neg (by omega)]
    rw [e]
    simp
    refine eff_ldc (v := .slice (some ⟨g, 0, none⟩) l.length cap) (rrO_r s2).2.2 ?_
    simp [hi]
    refine eff_ldc (v := l[i].v) (rr_cell hi s2 1 _ rfl) ?_
    simp
    refine eff_call ((Copied_spec x l[i].v w0 w2 _ (by omega) row s2).mono fun u w' s' => ?_)
    simp
    exact (rr_close (A := A * byA u x) ht (s'.to (by simp only [rrO]; ac_rfl))).to (by ac_rfl)
theorem rText_rspec (r q : Nat) (bad : Bool) (F : Flds) (tag most : Int) (w0 w : World) (A : Asn) (hO : OKF F) (s : St w0 (A * rflt q bad * rrP r q F) w) :
    CallW Try.prog 36 [.pointer (some ⟨r, 0, none⟩), .int .i64 tag, .int .i64 most] (fun v w' => v = .string (mk (rawR bad F tag most).1) ∧ St w0 (A * rflt q (rawR bad F tag most).2 * rrP r q F) w') w := by
  refine callW_of_lift l36_ok (by simp [l36]) ?_
  simp [l36]
  refine eff_call ((Raw_spec r q bad F tag most w0 w A hO s).mono ?_)
  intro v w1 s1
  simp
  refine eff_b2s s1 ?_
  simp
  exact s1.drop
theorem rRecord_rspec (r q : Nat) (bad : Bool) (F : Flds) (tag : Int) (w0 w : World) (A : Asn) (hO : OKF F) (s : St w0 (A * rflt q bad * rrP r q F) w) :
    CallW Try.prog 39 [.pointer (some ⟨r, 0, none⟩), .int .i64 tag] (fun v w' => ∃ p, v = .pointer (some ⟨p, 0, none⟩) ∧ St w0 (A * rflt q (recR bad F tag).1 * rrP r q F * rrP p q (recR bad F tag).2) w') w := by
  refine callW_of_lift l39_ok (by simp [l39]) ?_
  simp [l39]
  refine eff_call ((rfield_spec r q bad F tag w0 w A hO s).mono ?_)
  rintro _ w1 (⟨hv, rfl, s2⟩ | ⟨base, g, cap, l, i, hi, hF, hv, rfl, ht, rfl, s2⟩)
  · obtain ⟨base, lv, l, ht, s3⟩ := rr_open s2
    have e : recR bad F tag = (bad, []) := by simp only [recR, hv]
    rw [e]
    simp
    refine regmI (fun vs w => match vs with
      | [] => St w0 (rrO A r q base lv (rfA lv l F) bad) w
      | u :: _ => ∃ p, u = .pointer (some ⟨p, 0, none⟩) ∧ St w0 (rrO A r q base lv (rfA lv l F) bad * rrpt p q base (.slice none 0 0)) w) s3.drew ?_
    simp
    refine effm_ldc (v := .pointer (some ⟨q, 0, none⟩)) (fun vs' w he hw => ?_) ?_
    · match vs', hw with
      | [], hw => exact (rrO_r hw).1
      | _ :: _, hw => simp [era] at he
    simp
    refine effm_ldc (v := .int .i64 base) (fun vs' w he hw => ?_) ?_
    · match vs', hw with
      | [], hw => exact (rrO_r hw).2.1
      | _ :: _, hw => simp [era] at he
    simp [Instr.fill, Value.cells]
    refine effm_mv rfl (fun w hw => eff_box hw fun p w' s' => ⟨p, rfl, s'⟩) (fun u hu => ?_)
    obtain ⟨_, p, rfl, _⟩ := hu
    simp
    intro w5 s5
    have s5 : St w0 (rrO A r q base lv (rfA lv l F) bad * rrpt p q base (.slice none 0 0)) w5 := by simpa using s5
    exact rrempty (base := base) (rrclose (A := A * rflt q bad * rrpt p q base (.slice none 0 0)) (base := base) (lv := lv) (l := l) ht (s5.to (by simp only [rrO]; ac_rfl))).swap
  · have hxl := valF_len hO hv
    obtain ⟨x, hx⟩ : ∃ x, F[i].2 = x := ⟨_, rfl⟩
    have row := rr_row hi hF s2
    rw [hx] at hv hxl row
    have e : recR false F tag = rdF false x := by simp only [recR, hv]
    rw [e]
    obtain ⟨Z, hZ⟩ : ∃ Z, rrO A r q base (.slice (some ⟨g, 0, none⟩) l.length cap) (rfA (.slice (some ⟨g, 0, none⟩) l.length cap) l F) false = Z := ⟨_, rfl⟩
    have c1 : ∀ {w : World}, St w0 Z w → w.cell? ⟨r, 0, none⟩ = some (.pointer (some ⟨q, 0, none⟩)) ∧ w.cell? ⟨r, 1, none⟩ = some (.int .i64 base) ∧ w.cell? ⟨r, 2, none⟩ = some (.slice (some ⟨g, 0, none⟩) l.length cap) ∧ w.cell? ⟨g, i * 5 + 3, none⟩ = some (.int .i64 l[i].from') ∧ w.cell? ⟨g, i * 5 + 1, none⟩ = some l[i].v := fun h => by
      rw [← hZ] at h
      exact ⟨(rrO_r h).1, (rrO_r h).2.1, (rrO_r h).2.2, rr_cell hi h 3 _ rfl, rr_cell hi h 1 _ rfl⟩
    have s3 := s2
    rw [hZ] at s3
    have hi0 : ¬ (i : Int) < 0 := by omega
    simp [hi0]
    refine regmI (fun vs w => match vs with
      | [] => St w0 Z w
      | u :: _ => ∃ p, u = .pointer (some ⟨p, 0, none⟩) ∧ St w0 (A * rflt q (rdF false x).1 * rrP r q F * rrP p q (rdF false x).2) w) s3.drew ?_
    have pre : ∀ (vs' : List Value) (w : World), era 1 vs' = era 1 [] → (match vs' with
      | [] => St w0 Z w
      | u :: _ => ∃ p, u = .pointer (some ⟨p, 0, none⟩) ∧ St w0 (A * rflt q (rdF false x).1 * rrP r q F * rrP p q (rdF false x).2) w) → St w0 Z w := fun vs' w he hw => by
      match vs', hw with
      | [], hw => exact hw
      | _ :: _, hw => simp [era] at he
    simp
    refine effm_ldc (v := .pointer (some ⟨q, 0, none⟩)) (fun vs' w he hw => (c1 (pre vs' w he hw)).1) ?_
    simp
    refine effm_ldc (v := .int .i64 base) (fun vs' w he hw => (c1 (pre vs' w he hw)).2.1) ?_
    simp
    refine effm_ldc (v := .slice (some ⟨g, 0, none⟩) l.length cap) (fun vs' w he hw => (c1 (pre vs' w he hw)).2.2.1) ?_
    simp [hi]
    refine effm_ldc (v := .int .i64 l[i].from') (fun vs' w he hw => (c1 (pre vs' w he hw)).2.2.2.1) ?_
    simp
    refine effm_ldc (v := .slice (some ⟨g, 0, none⟩) l.length cap) (fun vs' w he hw => (c1 (pre vs' w he hw)).2.2.1) ?_
    simp [hi]
    refine effm_ldc (v := l[i].v) (fun vs' w he hw => (c1 (pre vs' w he hw)).2.2.2.2) ?_
    simp
    refine effm_mv rfl (fun w hw => ?_) (fun u hu => ?_)
    · have hw : St w0 (A * rrpt r q base (.slice (some ⟨g, 0, none⟩) l.length cap) * rfA (.slice (some ⟨g, 0, none⟩) l.length cap) l F * rflt q false) w := by
        have h : St w0 Z w := hw
        rw [← hZ] at h; exact h
      have row2 : BR w0 (A * rrpt r q base (.slice (some ⟨g, 0, none⟩) l.length cap) * rfA (.slice (some ⟨g, 0, none⟩) l.length cap) l F) l[i].v x := by
        have h := bss_row (vs := l.map (·.v)) (L := F.map (·.2)) (i := i) (by simpa using hi) (by simpa using hF) (A := A * rrpt r q base (.slice (some ⟨g, 0, none⟩) l.length cap) * own 100 5 (.slice (some ⟨g, 0, none⟩) l.length cap) l.length (rfflat l)) (hw.drop.to (by simp only [rfA]; ac_rfl))
        have h2 := h.mono (B := A * rrpt r q base (.slice (some ⟨g, 0, none⟩) l.length cap) * rfA (.slice (some ⟨g, 0, none⟩) l.length cap) l F) fun w s => s.to (by simp only [rfA]; ac_rfl)
        simpa [hx] using h2
      refine eff_call ((rread_spec q false _ x l[i].v w0 w _ (by omega) row2 hw).mono ?_)
      rintro _ w' ⟨p, rfl, s'⟩
      refine ⟨p, rfl, ?_⟩
      exact (rrclose (A := A * rflt q (rdF false x).1 * rrP p q (rdF false x).2) ht (s'.to (by ac_rfl))).swap
    obtain ⟨_, p, rfl, _⟩ := hu
    simp
end Go.HL.Tl

namespace Go.HL.Tl
open Go.HL Go.Proofs
set_option maxRecDepth 4000
set_option linter.unusedSimpArgs false
set_option linter.unusedVariables false

def h88_0 : HC := (.seq (.reg (.done [(3, (.inp 7)), (4, (.inp 8))] none)) .ret)
@[simp] theorem h88_0_wp : type_of% (@wpH h88_0 _ h88_0.eq_1) := wpH h88_0.eq_1
def h88_1 : HC := (.reg (.chk none (.bin .add) (.cons (.inp 11) (.cons (.cst (.int .i64 1)) .nil)) (.done [(11, (.op (.bin .add) (.cons (.inp 11) (.cons (.cst (.int .i64 1)) .nil))))] none)))
@[simp] theorem h88_1_wp : type_of% (@wpH h88_1 _ h88_1.eq_1) := wpH h88_1.eq_1
def h88_2 : HC := (.regq (some 1) (.chk none (.fld 3) (.cons (.inp 6) .nil) (.eff (.ld false 1) (.cons (.op (.fld 3) (.cons (.inp 6) .nil)) .nil) (.chk none (.idxL 1) (.cons (.inp 8) (.cons (.inp 11) .nil)) (.eff (.ld false 1) (.cons (.op (.idxL 1) (.cons (.inp 8) (.cons (.inp 11) .nil))) .nil) (.chk none (.bin .add) (.cons (.bv 0) (.cons (.bv 1) .nil)) (.chk none (.idxL 1) (.cons (.inp 8) (.cons (.inp 11) .nil)) (.eff (.st 1) (.cons (.op (.idxL 1) (.cons (.inp 8) (.cons (.inp 11) .nil))) (.cons (.op (.bin .add) (.cons (.bv 0) (.cons (.bv 1) .nil))) .nil)) (.done [] none)))))))))
@[simp] theorem h88_2_wp : type_of% (@wpH h88_2 _ h88_2.eq_1) := wpH h88_2.eq_1
def h88_3 : HC := (.seq (.block 1 h88_2) h88_1)
@[simp] theorem h88_3_wp : type_of% (@wpH h88_3 _ h88_3.eq_1) := wpH h88_3.eq_1
def h88_4 : HC := (.seq (.br (.chk none .lenL (.cons (.inp 8) .nil) (.chk none (.bin .lss) (.cons (.inp 11) (.cons (.op .lenL (.cons (.inp 8) .nil)) .nil)) (.done [] (some (.op (.bin .lss) (.cons (.inp 11) (.cons (.op .lenL (.cons (.inp 8) .nil)) .nil))))))) .skip (.exit 0)) h88_3)
@[simp] theorem h88_4_wp : type_of% (@wpH h88_4 _ h88_4.eq_1) := wpH h88_4.eq_1
def h88_5 : HC := (.loop h88_4)
@[simp] theorem h88_5_wp : type_of% (@wpH h88_5 _ h88_5.eq_1) := wpH h88_5.eq_1
def h88_6 : HC := (.seq (.block 0 h88_5) h88_0)
@[simp] theorem h88_6_wp : type_of% (@wpH h88_6 _ h88_6.eq_1) := wpH h88_6.eq_1
def h88_7 : HC := (.seq (.reg (.done [(11, (.cst (.int .i64 0)))] none)) h88_6)
@[simp] theorem h88_7_wp : type_of% (@wpH h88_7 _ h88_7.eq_1) := wpH h88_7.eq_1
def h88_8 : HC := (.seq (.reg (.done [(3, (.cst (.slice none 0 0))), (4, (.cst (.slice none 0 0)))] none)) .ret)
@[simp] theorem h88_8_wp : type_of% (@wpH h88_8 _ h88_8.eq_1) := wpH h88_8.eq_1
def h88_9 : HC := (.seq (.reg (.chk none (.fld 3) (.cons (.inp 6) .nil) (.eff (.ld false 1) (.cons (.op (.fld 3) (.cons (.inp 6) .nil)) .nil) (.eff (.call 68) (.cons (.inp 0) (.cons (.bv 0) (.cons (.cst (.int .i64 3)) .nil))) (.done [] none))))) h88_8)
@[simp] theorem h88_9_wp : type_of% (@wpH h88_9 _ h88_9.eq_1) := wpH h88_9.eq_1
def h88_10 : HC := (.seq (.br (.chk none .lenL (.cons (.inp 7) .nil) (.eff (.call 87) (.cons (.op .lenL (.cons (.inp 7) .nil)) (.cons (.inp 2) .nil)) (.chk none (.un .not) (.cons (.bv 0) .nil) (.done [] (some (.op (.un .not) (.cons (.bv 0) .nil))))))) h88_9 .skip) h88_7)
@[simp] theorem h88_10_wp : type_of% (@wpH h88_10 _ h88_10.eq_1) := wpH h88_10.eq_1
def h88_11 : HC := (.seq (.reg (.done [(3, (.cst (.slice none 0 0))), (4, (.cst (.slice none 0 0)))] none)) .ret)
@[simp] theorem h88_11_wp : type_of% (@wpH h88_11 _ h88_11.eq_1) := wpH h88_11.eq_1
def h88_12 : HC := (.seq (.reg (.chk none (.fld 3) (.cons (.inp 6) .nil) (.eff (.ld false 1) (.cons (.op (.fld 3) (.cons (.inp 6) .nil)) .nil) (.chk none (.bin .add) (.cons (.bv 0) (.cons (.inp 9) .nil)) (.eff (.call 68) (.cons (.inp 0) (.cons (.op (.bin .add) (.cons (.bv 0) (.cons (.inp 9) .nil))) (.cons (.inp 10) .nil))) (.done [] none)))))) h88_11)
@[simp] theorem h88_12_wp : type_of% (@wpH h88_12 _ h88_12.eq_1) := wpH h88_12.eq_1
def h88_13 : HC := (.seq (.br (.chk none (.bin .neq) (.cons (.inp 10) (.cons (.cst (.int .i64 0)) .nil)) (.done [] (some (.op (.bin .neq) (.cons (.inp 10) (.cons (.cst (.int .i64 0)) .nil)))))) h88_12 .skip) h88_10)
@[simp] theorem h88_13_wp : type_of% (@wpH h88_13 _ h88_13.eq_1) := wpH h88_13.eq_1
def h88_14 : HC := (.seq (.reg (.chk none (.fld 1) (.cons (.inp 6) .nil) (.eff (.ld false 1) (.cons (.op (.fld 1) (.cons (.inp 6) .nil)) .nil) (.eff (.call 93) (.cons (.bv 0) .nil) (.chk none (.ext 0) (.cons (.bv 1) .nil) (.chk none (.ext 1) (.cons (.bv 1) .nil) (.chk none (.ext 2) (.cons (.bv 1) .nil) (.chk none (.ext 3) (.cons (.bv 1) .nil) (.done [(7, (.op (.ext 0) (.cons (.bv 1) .nil))), (8, (.op (.ext 1) (.cons (.bv 1) .nil))), (9, (.op (.ext 2) (.cons (.bv 1) .nil))), (10, (.op (.ext 3) (.cons (.bv 1) .nil)))] none))))))))) h88_13)
@[simp] theorem h88_14_wp : type_of% (@wpH h88_14 _ h88_14.eq_1) := wpH h88_14.eq_1
def h88_15 : HC := (.seq (.reg (.chk none .chkp (.cons (.inp 0) .nil) (.chk none (.fld 2) (.cons (.op .chkp (.cons (.inp 0) .nil)) .nil) (.eff (.ld false 1) (.cons (.op (.fld 2) (.cons (.op .chkp (.cons (.inp 0) .nil)) .nil)) .nil) (.chk none (.idxL 5) (.cons (.bv 0) (.cons (.inp 5) .nil)) (.eff (.ld true 5) (.cons (.op (.idxL 5) (.cons (.bv 0) (.cons (.inp 5) .nil))) .nil) (.eff (.new 100 (.agg #[(.int .i64 0), (.slice none 0 0), (.int .i64 0), (.int .i64 0), (.bool false)])) .nil (.eff (.st 5) (.cons (.bv 2) (.cons (.bv 1) .nil)) (.done [(6, (.bv 2))] none))))))))) h88_14)
@[simp] theorem h88_15_wp : type_of% (@wpH h88_15 _ h88_15.eq_1) := wpH h88_15.eq_1
def h88_16 : HC := (.seq (.reg (.done [(3, (.cst (.slice none 0 0))), (4, (.cst (.slice none 0 0)))] none)) .ret)
@[simp] theorem h88_16_wp : type_of% (@wpH h88_16 _ h88_16.eq_1) := wpH h88_16.eq_1
def h88_17 : HC := (.seq (.br (.chk none (.bin .lss) (.cons (.inp 5) (.cons (.cst (.int .i64 0)) .nil)) (.done [] (some (.op (.bin .lss) (.cons (.inp 5) (.cons (.cst (.int .i64 0)) .nil)))))) h88_16 .skip) h88_15)
@[simp] theorem h88_17_wp : type_of% (@wpH h88_17 _ h88_17.eq_1) := wpH h88_17.eq_1
def h88_18 : HC := (.seq (.reg (.eff (.call 66) (.cons (.inp 0) (.cons (.inp 1) .nil)) (.done [(5, (.bv 0))] none))) h88_17)
@[simp] theorem h88_18_wp : type_of% (@wpH h88_18 _ h88_18.eq_1) := wpH h88_18.eq_1
def l88 : Lifted := ⟨[0, 1, 2, 6, 7, 8, 9, 10, 11, 12, 13, 14], 71, [.slot 3, .slot 4], (.seq (.reg (.done [(3, (.cst (.slice none 0 0))), (4, (.cst (.slice none 0 0)))] none)) h88_18)⟩
theorem l88_ok : liftFn T0 88 400 = some l88 := by kernel_rfl

def h69_0 : HC := (.seq (.reg (.done [(3, (.inp 4))] none)) .ret)
@[simp] theorem h69_0_wp : type_of% (@wpH h69_0 _ h69_0.eq_1) := wpH h69_0.eq_1
def h69_1 : HC := (.seq (.reg (.eff (.call 88) (.cons (.inp 0) (.cons (.inp 1) (.cons (.inp 2) .nil))) (.chk none (.ext 0) (.cons (.bv 0) .nil) (.chk none (.ext 1) (.cons (.bv 0) .nil) (.done [(4, (.op (.ext 0) (.cons (.bv 0) .nil)))] none))))) h69_0)
@[simp] theorem h69_1_wp : type_of% (@wpH h69_1 _ h69_1.eq_1) := wpH h69_1.eq_1
def l69 : Lifted := ⟨[0, 1, 2, 6, 7], 17, [.slot 3], (.seq (.reg (.done [(3, (.cst (.slice none 0 0)))] none)) h69_1)⟩
theorem l69_ok : liftFn T0 69 400 = some l69 := by kernel_rfl

def h70_0 : HC := (.seq (.reg (.done [(3, (.inp 6))] none)) .ret)
@[simp] theorem h70_0_wp : type_of% (@wpH h70_0 _ h70_0.eq_1) := wpH h70_0.eq_1
def h70_1 : HC := (.seq (.reg (.done [(3, (.cst (.slice none 0 0)))] none)) .ret)
@[simp] theorem h70_1_wp : type_of% (@wpH h70_1 _ h70_1.eq_1) := wpH h70_1.eq_1
def h70_2 : HC := (.seq (.br (.chk none .lenL (.cons (.inp 6) .nil) (.chk none (.bin .gtr) (.cons (.op .lenL (.cons (.inp 6) .nil)) (.cons (.cst (.int .i64 0)) .nil)) (.bnd (.op (.bin .gtr) (.cons (.op .lenL (.cons (.inp 6) .nil)) (.cons (.cst (.int .i64 0)) .nil))) (.chk (some ((.bv 0), true)) .chkp (.cons (.inp 0) .nil) (.chk (some ((.bv 0), true)) (.fld 0) (.cons (.op .chkp (.cons (.inp 0) .nil)) .nil) (.ite (.bv 0) true (.eff (.ld false 1) (.cons (.ite (.bv 0) true (.op (.fld 0) (.cons (.op .chkp (.cons (.inp 0) .nil)) .nil)) (.cst (.tuple #[]))) .nil) (.chk none .chkp (.cons (.bv 1) .nil) (.chk none (.fld 1) (.cons (.op .chkp (.cons (.bv 1) .nil)) .nil) (.eff (.ld false 1) (.cons (.op (.fld 1) (.cons (.op .chkp (.cons (.bv 1) .nil)) .nil)) .nil) (.chk none (.bin .neq) (.cons (.bv 2) (.cons (.cst (.int .i64 0)) .nil)) (.isb none (.bv 0) (.done [] (some (.op (.bin .neq) (.cons (.bv 2) (.cons (.cst (.int .i64 0)) .nil))))))))))) (.isb none (.bv 0) (.done [] (some (.cst (.bool false))))))))))) h70_1 .skip) h70_0)
@[simp] theorem h70_2_wp : type_of% (@wpH h70_2 _ h70_2.eq_1) := wpH h70_2.eq_1
def h70_3 : HC := (.reg (.chk none (.bin .add) (.cons (.inp 7) (.cons (.cst (.int .i64 1)) .nil)) (.done [(7, (.op (.bin .add) (.cons (.inp 7) (.cons (.cst (.int .i64 1)) .nil))))] none)))
@[simp] theorem h70_3_wp : type_of% (@wpH h70_3 _ h70_3.eq_1) := wpH h70_3.eq_1
def h70_4 : HC := (.reg (.eff (.bsl 70 1 1 #[(.pointer none)] [0]) (.cons (.inp 8) .nil) (.eff (.app 108 108 70 1 8 (.pointer none)) (.cons (.inp 6) (.cons (.bv 0) .nil)) (.done [(6, (.bv 1))] none))))
@[simp] theorem h70_4_wp : type_of% (@wpH h70_4 _ h70_4.eq_1) := wpH h70_4.eq_1
def h70_5 : HC := (.seq (.regq (some 1) (.chk none .chkp (.cons (.inp 0) .nil) (.chk none (.fld 0) (.cons (.op .chkp (.cons (.inp 0) .nil)) .nil) (.eff (.ld false 1) (.cons (.op (.fld 0) (.cons (.op .chkp (.cons (.inp 0) .nil)) .nil)) .nil) (.chk none .chkp (.cons (.inp 0) .nil) (.chk none (.fld 1) (.cons (.op .chkp (.cons (.inp 0) .nil)) .nil) (.eff (.ld false 1) (.cons (.op (.fld 1) (.cons (.op .chkp (.cons (.inp 0) .nil)) .nil)) .nil) (.chk none (.idxL 1) (.cons (.inp 5) (.cons (.inp 7) .nil)) (.eff (.ld false 1) (.cons (.op (.idxL 1) (.cons (.inp 5) (.cons (.inp 7) .nil))) .nil) (.chk none (.bin .add) (.cons (.bv 1) (.cons (.bv 2) .nil)) (.chk none (.idxL 1) (.cons (.inp 4) (.cons (.inp 7) .nil)) (.eff (.ld false 1) (.cons (.op (.idxL 1) (.cons (.inp 4) (.cons (.inp 7) .nil))) .nil) (.eff (.call 64) (.cons (.bv 0) (.cons (.op (.bin .add) (.cons (.bv 1) (.cons (.bv 2) .nil))) (.cons (.bv 3) .nil))) (.done [(8, (.bv 4))] none)))))))))))))) h70_4)
@[simp] theorem h70_5_wp : type_of% (@wpH h70_5 _ h70_5.eq_1) := wpH h70_5.eq_1
def h70_6 : HC := (.seq (.block 1 h70_5) h70_3)
@[simp] theorem h70_6_wp : type_of% (@wpH h70_6 _ h70_6.eq_1) := wpH h70_6.eq_1
def h70_7 : HC := (.seq (.br (.chk none .lenL (.cons (.inp 4) .nil) (.chk none (.bin .lss) (.cons (.inp 7) (.cons (.op .lenL (.cons (.inp 4) .nil)) .nil)) (.done [] (some (.op (.bin .lss) (.cons (.inp 7) (.cons (.op .lenL (.cons (.inp 4) .nil)) .nil))))))) .skip (.exit 0)) h70_6)
@[simp] theorem h70_7_wp : type_of% (@wpH h70_7 _ h70_7.eq_1) := wpH h70_7.eq_1
def h70_8 : HC := (.loop h70_7)
@[simp] theorem h70_8_wp : type_of% (@wpH h70_8 _ h70_8.eq_1) := wpH h70_8.eq_1
def h70_9 : HC := (.seq (.block 0 h70_8) h70_2)
@[simp] theorem h70_9_wp : type_of% (@wpH h70_9 _ h70_9.eq_1) := wpH h70_9.eq_1
def h70_10 : HC := (.seq (.reg (.done [(7, (.cst (.int .i64 0)))] none)) h70_9)
@[simp] theorem h70_10_wp : type_of% (@wpH h70_10 _ h70_10.eq_1) := wpH h70_10.eq_1
def h70_11 : HC := (.seq (.reg (.done [(6, (.cst (.slice none 0 0)))] none)) h70_10)
@[simp] theorem h70_11_wp : type_of% (@wpH h70_11 _ h70_11.eq_1) := wpH h70_11.eq_1
def h70_12 : HC := (.seq (.reg (.eff (.call 88) (.cons (.inp 0) (.cons (.inp 1) (.cons (.inp 2) .nil))) (.chk none (.ext 0) (.cons (.bv 0) .nil) (.chk none (.ext 1) (.cons (.bv 0) .nil) (.done [(4, (.op (.ext 0) (.cons (.bv 0) .nil))), (5, (.op (.ext 1) (.cons (.bv 0) .nil)))] none))))) h70_11)
@[simp] theorem h70_12_wp : type_of% (@wpH h70_12 _ h70_12.eq_1) := wpH h70_12.eq_1
def l70 : Lifted := ⟨[0, 1, 2, 6, 7, 8, 9, 10, 11], 61, [.slot 3], (.seq (.reg (.done [(3, (.cst (.slice none 0 0)))] none)) h70_12)⟩
theorem l70_ok : liftFn T0 70 400 = some l70 := by kernel_rfl
abbrev riA (lv bv : Value) (vs : List Value) (L : List (List UInt8)) (bi : List Int) : Asn := own 31 1 lv L.length vs * bss vs L * own 3 1 bv L.length (ints bi)
theorem riA_nil {w0 w : World} {A : Asn} (s : St w0 A w) : St w0 (A * riA (.slice none 0 0) (.slice none 0 0) [] [] []) w := by
  have := (s.own_nil 31 1).own_nil 3 1
  have e : bss ([] : List Value) [] = emp := rfl
  simp only [riA, e, sep_emp]
  exact this.to (by simp only [List.length_nil, ints, List.map_nil]; ac_rfl)
theorem riA_bv {w0 w : World} {A : Asn} {lv bv : Value} {vs : List Value} {L : List (List UInt8)} {bi : List Int} (s : St w0 (A * riA lv bv vs L bi) w) : ∃ a cap, bv = .slice a L.length cap := by
  obtain ⟨a, cap, e, _⟩ := (s.to (B := A * own 31 1 lv L.length vs * bss vs L * own 3 1 bv L.length (ints bi)) (by simp only [riA]; ac_rfl)).own_val
  exact ⟨a, cap, e⟩
theorem riA_lv {w0 w : World} {A : Asn} {lv bv : Value} {vs : List Value} {L : List (List UInt8)} {bi : List Int} (s : St w0 (A * riA lv bv vs L bi) w) : ∃ a cap, lv = .slice a L.length cap := by
  obtain ⟨a, cap, e, _⟩ := (s.to (B := A * own 3 1 bv L.length (ints bi) * bss vs L * own 31 1 lv L.length vs) (by simp only [riA]; ac_rfl)).own_val
  exact ⟨a, cap, e⟩
set_option maxHeartbeats 2000000 in
theorem ritems_spec (r q : Nat) (bad : Bool) (F : Flds) (tag most : Int) (w0 w : World) (A : Asn) (hO : OKF F) (s : St w0 (A * rflt q bad * rrP r q F) w) :
    CallW Try.prog 88 [.pointer (some ⟨r, 0, none⟩), .int .i64 tag, .int .i64 most] (fun v w' => ∃ lv bv vs bi, v = .tuple #[lv, bv] ∧ vs.length = (lstR bad F tag most).1.length ∧ bi.length = (lstR bad F tag most).1.length ∧ St w0 (A * rflt q (lstR bad F tag most).2 * rrP r q F * riA lv bv vs (lstR bad F tag most).1 bi) w') w := by
  refine callW_of_lift l88_ok (by simp [l88]) ?_
  simp [l88]
  refine eff_call ((rfield_spec r q bad F tag w0 w A hO s).mono ?_)
  rintro _ w1 (⟨hv, rfl, s2⟩ | ⟨base, g, cap, l, i, hi, hF, hv, rfl, ht, rfl, s2⟩)
  · have e : lstR bad F tag most = ([], bad) := by simp only [lstR, hv]
    simp [e]
    exact ⟨_, _, ⟨rfl, rfl⟩, riA_nil s2⟩
  have hxl := valF_len hO hv
  obtain ⟨x, hx⟩ : ∃ x, F[i].2 = x := ⟨_, rfl⟩
  have row := rr_row hi hF s2
  rw [hx] at hv hxl row
  obtain ⟨va, vc, hvv⟩ := row.val
  have hi0 : ¬ (i : Int) < 0 := by omega
  simp [hi0]
  refine eff_ldc (v := .slice (some ⟨g, 0, none⟩) l.length cap) (rrO_r s2).2.2 ?_
  simp [hi]
  refine eff_ldcs (vs := l[i].cs) (fun j u hu => rr_cell hi s2 j u hu) rfl ?_
  simp
  refine eff_new s2 fun b w2 s3 => ?_
  simp
  refine eff_stA (vs := l[i].cs) s3 rfl rfl (rf_one _ (by rw [hvv]; rfl)) (by simp) fun w3 s4 => ?_
  simp
  obtain ⟨Z, hZ⟩ : ∃ Z, rrO A r q base (.slice (some ⟨g, 0, none⟩) l.length cap) (rfA (.slice (some ⟨g, 0, none⟩) l.length cap) l F) false * pt b (.cells l[i].cs.toArray 100 (0, 0)) = Z := ⟨_, rfl⟩
  have s4 : St w0 Z w3 := by rw [← hZ]; simpa [Rf.cs] using s4
  have fb : ∀ {Y : Asn} {w : World}, St w0 (Z * Y) w → w.cell? ⟨b, 1, none⟩ = some l[i].v ∧ w.cell? ⟨b, 3, none⟩ = some (.int .i64 l[i].from') := fun h => by
    have h := h.drop; rw [← hZ] at h; exact ⟨(cell_of h.look).trans rfl, (cell_of h.look).trans rfl⟩
  have fb0 : ∀ {w : World}, St w0 Z w → w.cell? ⟨b, 1, none⟩ = some l[i].v ∧ w.cell? ⟨b, 3, none⟩ = some (.int .i64 l[i].from') := fun h => fb (Y := emp) (by rw [sep_emp]; exact h)
  have rowZ : BR w0 Z l[i].v x := row.mono fun w s => by rw [← hZ] at s; exact s.drop
  have wr : ∀ (p e : Int) (K : Value → World → Prop) (w3 : World), e ≠ 0 → St w0 Z w3 → (∀ u w', St w0 (A * rflt q true * rrP r q F) w' → K u w') →
      EffW Try.prog (.call 68) [.pointer (some ⟨r, 0, none⟩), .int .i64 p, .int .i64 e] K w3 := fun p e K w3 he s hK => by
    rw [← hZ] at s
    exact eff_call ((rwrong_spec r q base _ false _ e w0 w3 A _ he s.drop).mono fun u w' s' => hK u w' (rr_close ht s'))
  have done : ∀ {Y : Asn} {w : World}, St w0 (Z * Y) w → St w0 (A * rflt q false * rrP r q F * Y) w := fun {Y w} h => by
    rw [← hZ] at h
    exact (rrclose (A := A * rflt q false * Y) ht ((h.cut (pt b (.cells l[i].cs.toArray 100 (0, 0))) (B := A * rflt q false * Y * rrpt r q base (.slice (some ⟨g, 0, none⟩) l.length cap) * rfA (.slice (some ⟨g, 0, none⟩) l.length cap) l F) (by simp only [rrO]; ac_rfl)))).swap
  refine eff_ldc (v := l[i].v) (fb0 s4).1 ?_
  simp
  refine eff_call ((rItems_spec x l[i].v w0 w3 _ Z (fun w s => s) hxl rowZ s4).mono ?_)
  rintro _ w4 (⟨L, vs, lv, bv, bi, hL, rfl, hvs, hbi, s5⟩ | ⟨hL, pl, e0, he0, rfl, s5⟩)
  · have hLl := itF_len hL
    have s5 : St w0 (Z * riA lv bv vs L bi) w4 := s5.to (by simp only [riA]; ac_rfl)
    obtain ⟨la, lc, rfl⟩ := riA_lv s5
    obtain ⟨ba, bc, rfl⟩ := riA_bv s5
    simp
    refine eff_call ((few_spec L.length most w4).mono ?_)
    rintro _ w5 ⟨rfl, rfl⟩
    simp
    refine cndI (fun c => ?_) (fun c => ?_)
    · simp at c
      have e : lstR false F tag most = ([], true) := by simp only [lstR, hv, hL]; rw [if_pos (by omega)]
      rw [e]
      simp
      refine eff_ldc (v := .int .i64 l[i].from') (fb s5).2 ?_
      simp
      refine wr _ 3 _ w5 (by decide) s5.drop fun u w' s' => ?_
      simp
      exact ⟨_, _, ⟨rfl, rfl⟩, riA_nil s'⟩
    simp at c
    have e : lstR false F tag most = (L, false) := by simp only [lstR, hv, hL]; rw [if_neg (by omega)]
    rw [e]
    simp
    refine loopI (fun env w' => ∃ (k : Nat) (bi : List Int), env = [.pointer (some ⟨r, 0, none⟩), .int .i64 tag, .int .i64 most, .slice none 0 0, .slice none 0 0, .int .i64 i, .pointer (some ⟨b, 0, none⟩), .slice la L.length lc, .slice ba L.length bc, .int .i64 0, .int .i64 0, .int .i64 k] ∧ k ≤ L.length ∧ bi.length = L.length ∧ St w0 (Z * riA (.slice la L.length lc) (.slice ba L.length bc) vs L bi) w')
      (fun env _ => L.length - slotN env 11) ⟨0, bi, rfl, by omega, hbi, s5⟩ ?_
    rintro LQ env w' ⟨k, bi, rfl, hk, hbi, s6⟩ hN hX hR
    simp
    refine cndI (fun c1 => ?_) (fun c1 => ?_)
    · simp at c1
      have s7 : St w0 (Z * own 31 1 (.slice la L.length lc) L.length vs * bss vs L * own 3 1 (.slice ba L.length bc) L.length (ints bi)) w' := s6.to (by simp only [riA]; ac_rfl)
      obtain ⟨bg, _, hvb, _, _⟩ := s7.own_at (by omega)
      cases hvb
      have fc : ∀ {w : World}, St w0 (Z * own 31 1 (.slice la L.length lc) L.length vs * bss vs L * own 3 1 (.slice (some ⟨bg, 0, none⟩) L.length bc) L.length (ints bi)) w → w.cell? ⟨bg, k, none⟩ = some (.int .i64 (bi[k]'(by omega))) := fun h => by
        obtain ⟨_, _, hvb, _, hc⟩ := h.own_at (by omega)
        cases hvb
        exact hc k _ (by simp [ints, show k < bi.length by omega])
      simp
      refine regmI (oneC (St w0 (Z * own 31 1 (.slice la L.length lc) L.length vs * bss vs L * own 3 1 (.slice (some ⟨bg, 0, none⟩) L.length bc) L.length (ints bi))) (fun w => ∃ z, St w0 (Z * own 31 1 (.slice la L.length lc) L.length vs * bss vs L * own 3 1 (.slice (some ⟨bg, 0, none⟩) L.length bc) L.length (ints (bi.set k z))) w)) s7.drew ?_
      simp
      refine effm_ldc (v := .int .i64 l[i].from') (fun vs' w he hw => (fb (St.to (oneC_pre he hw) (B := Z * (own 31 1 (.slice la L.length lc) L.length vs * bss vs L * own 3 1 (.slice (some ⟨bg, 0, none⟩) L.length bc) L.length (ints bi))) (by ac_rfl))).2) ?_
      simp [c1]
      refine effm_ldc (v := .int .i64 (bi[k]'(by omega))) (fun vs' w he hw => by have := fc (oneC_pre he hw); simpa using this) ?_
      simp [c1]
      refine effm_mv rfl (fun w hw => ?_) (fun u _ => ?_)
      · refine eff_stC (u := .int .i64 (IntKind.i64.wrap (l[i].from' + bi[k]'(by omega)))) hw (by simp [ints]; omega) rfl fun w' h => ?_
        exact ⟨IntKind.i64.wrap (l[i].from' + bi[k]'(by omega)), by simpa [ints, List.map_set] using h⟩
      simp
      rintro w8 ⟨z, s8⟩
      try simp (disch := omega) only [wrap64]
      exact hN _ _ ⟨k + 1, bi.set k z, by simp, by omega, by simp [hbi], s8.to (by simp only [riA, ints, List.map_set]; ac_rfl)⟩ (by simp [slotN]; omega)
    · simp at c1
      simp
      refine hX _ _ _ ?_
      simp
      exact ⟨_, _, ⟨rfl, rfl⟩, vs, hvs, bi, hbi, done s6⟩
  · have e : lstR false F tag most = ([], true) := by simp only [lstR, hv, hL]
    rw [e]
    simp [he0]
    refine eff_ldc (v := .int .i64 l[i].from') (fb0 s5).2 ?_
    simp
    refine wr _ e0 _ w4 he0 s5 fun u w' s' => ?_
    simp
    exact ⟨_, _, ⟨rfl, rfl⟩, riA_nil s'⟩
theorem rList_rspec (r q : Nat) (bad : Bool) (F : Flds) (tag most : Int) (w0 w : World) (A : Asn) (hO : OKF F) (s : St w0 (A * rflt q bad * rrP r q F) w) :
    CallW Try.prog 69 [.pointer (some ⟨r, 0, none⟩), .int .i64 tag, .int .i64 most] (fun v w' => ∃ vs, vs.length = (lstR bad F tag most).1.length ∧ St w0 (A * rflt q (lstR bad F tag most).2 * rrP r q F * own 31 1 v vs.length vs * bss vs (lstR bad F tag most).1) w') w := by
  refine callW_of_lift l69_ok (by simp [l69]) ?_
  simp [l69]
  refine eff_call ((ritems_spec r q bad F tag most w0 w A hO s).mono ?_)
  rintro _ w1 ⟨lv, bv, vs, bi, rfl, hvs, hbi, s1⟩
  simp
  exact ⟨vs, hvs, by rw [hvs]; exact s1.cut (own 3 1 bv (lstR bad F tag most).1.length (ints bi)) (by simp only [riA]; ac_rfl)⟩
def rrsA (q : Nat) : List (Nat × Flds) → Asn
  | [] => emp
  | x :: t => rrP x.1 q x.2 * rrsA q t
theorem rrsA_snoc (q : Nat) (y : Nat × Flds) (l : List (Nat × Flds)) : rrsA q (l ++ [y]) = rrsA q l * rrP y.1 q y.2 := by
  induction l with
  | nil => exact (sep_emp _).trans (emp_sep _).symm
  | cons x t ih =>
    have h1 : rrsA q (x :: t ++ [y]) = rrP x.1 q x.2 * rrsA q (t ++ [y]) := rfl
    have h2 : rrsA q (x :: t) = rrP x.1 q x.2 * rrsA q t := rfl
    rw [h1, h2, ih, sep_assoc]
theorem rrsA_at (q : Nat) (l : List (Nat × Flds)) : ∀ (i : Nat) (h : i < l.length), ∃ R, rrsA q l = R * rrP l[i].1 q l[i].2 := by
  induction l with
  | nil => intro i h; simp at h
  | cons x t ih =>
    intro i h
    cases i with
    | zero => exact ⟨rrsA q t, sep_comm _ _⟩
    | succ i =>
      obtain ⟨R, hR⟩ := ih i (by simpa using h)
      have h3 : (x :: t)[i + 1] = t[i]'(by simpa using h) := rfl
      have h2 : rrsA q (x :: t) = rrP x.1 q x.2 * rrsA q t := rfl
      exact ⟨rrP x.1 q x.2 * R, by rw [h2, hR, h3, sep_assoc]⟩
set_option maxHeartbeats 2000000 in
theorem rRecords_rspec (r q : Nat) (bad : Bool) (F : Flds) (tag most : Int) (w0 w : World) (A : Asn) (hO : OKF F) (s : St w0 (A * rflt q bad * rrP r q F) w) :
    CallW Try.prog 70 [.pointer (some ⟨r, 0, none⟩), .int .i64 tag, .int .i64 most] (fun v w' => ∃ ps, ps.map (·.2) = (rcsR bad F tag most).2 ∧ St w0 (A * rflt q (rcsR bad F tag most).1 * rrP r q F * own 70 1 v ps.length (rptrs ps) * rrsA q ps) w') w := by
  have hLo := lstR_ok (bad := bad) hO tag most
  refine callW_of_lift l70_ok (by simp [l70]) ?_
  simp [l70]
  refine eff_call ((ritems_spec r q bad F tag most w0 w A hO s).mono ?_)
  rintro _ w1 ⟨lv, bv, vs, bi, rfl, hvs, hbi, s1⟩
  unfold rcsR
  obtain ⟨L, hL⟩ : ∃ L, (lstR bad F tag most).1 = L := ⟨_, rfl⟩
  obtain ⟨b1, hb1⟩ : ∃ b1, (lstR bad F tag most).2 = b1 := ⟨_, rfl⟩
  rw [hL] at hvs hbi hLo s1 ⊢
  rw [hb1] at s1 ⊢
  obtain ⟨la, lc, rfl⟩ := riA_lv s1
  obtain ⟨ba, bc, rfl⟩ := riA_bv s1
  obtain ⟨I, hI⟩ : ∃ I, riA (.slice la L.length lc) (.slice ba L.length bc) vs L bi = I := ⟨_, rfl⟩
  rw [hI] at s1
  simp
  refine loopI (fun env w' => ∃ (i : Nat) (ov o8 : Value) (ps : List (Nat × Flds)), env = [.pointer (some ⟨r, 0, none⟩), .int .i64 tag, .int .i64 most, .slice none 0 0, .slice la L.length lc, .slice ba L.length bc, ov, .int .i64 i, o8] ∧ i ≤ L.length ∧ ps.map (·.2) = (rdsK b1 (L.take i)).2 ∧
      St w0 (A * rflt q (rdsK b1 (L.take i)).1 * rrP r q F * I * own 70 1 ov ps.length (rptrs ps) * rrsA q ps) w')
    (fun env _ => L.length - slotN env 7) ⟨0, _, _, [], rfl, by omega, by simp [rdsK], ?_⟩ ?_
  · have h := s1.own_nil 70 1
    have e : rrsA q [] = emp := rfl
    have e2 : (rdsK b1 (L.take 0)).1 = b1 := by simp [rdsK]
    rw [e, sep_emp, e2]; exact h
  clear s1 s
  rintro LQ env w' ⟨i, ov, o8, ps, rfl, hi, hps, s2⟩ hN hX hR
  have hpl : ps.length = i := by
    have := congrArg List.length hps
    rw [rdsK_len b1 L i (by omega)] at this
    simpa using this
  obtain ⟨bd, hbd⟩ : ∃ bd, (rdsK b1 (L.take i)).1 = bd := ⟨_, rfl⟩
  rw [hbd] at s2
  simp
  refine cndI (fun c => ?_) (fun c => ?_)
  · simp at c
    have hiv : i < vs.length := by omega
    have hib : i < bi.length := by omega
    obtain ⟨base, lr, l, ht, s3⟩ := rropen (s2.to (B := A * rflt q bd * I * own 70 1 ov ps.length (rptrs ps) * rrsA q ps * rrP r q F) (by ac_rfl))
    obtain ⟨D, hD⟩ : ∃ D, A * I * own 70 1 ov ps.length (rptrs ps) * rrsA q ps = D := ⟨_, rfl⟩
    have s4 : St w0 (D * rrpt r q base lr * rfA lr l F * rflt q bd) w' := s3.to (by rw [← hD]; ac_rfl)
    have fr : ∀ {w : World}, St w0 (D * rrpt r q base lr * rfA lr l F * rflt q bd) w → w.cell? ⟨r, 0, none⟩ = some (.pointer (some ⟨q, 0, none⟩)) ∧ w.cell? ⟨r, 1, none⟩ = some (.int .i64 base) := fun h => ⟨(cell_of h.drop.drop.look).trans rfl, (cell_of h.drop.drop.look).trans rfl⟩
    have fl : ∀ {w : World}, St w0 (D * rrpt r q base lr * rfA lr l F) w → St w0 (A * own 70 1 ov ps.length (rptrs ps) * rrsA q ps * rrpt r q base lr * rfA lr l F * own 3 1 (.slice ba L.length bc) L.length (ints bi) * bss vs L * own 31 1 (.slice la L.length lc) L.length vs) w := fun h => h.to (by rw [← hD, ← hI]; simp only [riA]; ac_rfl)
    obtain ⟨g, _, hv1, _, _⟩ := (fl s4.drop).own_at (by omega)
    cases hv1
    have fl2 : ∀ {w : World}, St w0 (D * rrpt r q base lr * rfA lr l F) w → St w0 (A * own 70 1 ov ps.length (rptrs ps) * rrsA q ps * rrpt r q base lr * rfA lr l F * own 31 1 (.slice (some ⟨g, 0, none⟩) L.length lc) L.length vs * bss vs L * own 3 1 (.slice ba L.length bc) L.length (ints bi)) w := fun h => (fl h).to (by ac_rfl)
    obtain ⟨g2, _, hv2, _, _⟩ := (fl2 s4.drop).own_at (by omega)
    cases hv2
    have fv : ∀ {w : World}, St w0 (D * rrpt r q base lr * rfA lr l F) w → w.cell? ⟨g, i, none⟩ = some vs[i] := fun h => by
      obtain ⟨_, _, hv1, _, hc⟩ := (fl h).own_at (by omega)
      cases hv1
      exact hc i _ (by simp [hiv])
    have fi : ∀ {w : World}, St w0 (D * rrpt r q base lr * rfA lr l F) w → w.cell? ⟨g2, i, none⟩ = some (.int .i64 bi[i]) := fun h => by
      obtain ⟨_, _, hv2, _, hc⟩ := (fl2 h).own_at (by omega)
      cases hv2
      exact hc i _ (by simp [ints, hib])
    have row : BR w0 (D * rrpt r q base lr * rfA lr l F) vs[i] L[i] :=
      (bss_row hiv c (A := A * own 70 1 ov ps.length (rptrs ps) * rrsA q ps * rrpt r q base lr * rfA lr l F * own 3 1 (.slice (some ⟨g2, 0, none⟩) L.length bc) L.length (ints bi) * own 31 1 (.slice (some ⟨g, 0, none⟩) L.length lc) L.length vs) ((fl s4.drop).to (by ac_rfl))).mono fun w s => (fl s).to (by ac_rfl)
    simp
    refine regmI (oneC (St w0 (D * rrpt r q base lr * rfA lr l F * rflt q bd)) (fun w => True) |> fun _ => fun vs' w => match vs' with
      | [] => St w0 (D * rrpt r q base lr * rfA lr l F * rflt q bd) w
      | u :: _ => ∃ p, u = .pointer (some ⟨p, 0, none⟩) ∧ St w0 (D * rrpt r q base lr * rfA lr l F * rflt q (rdF bd L[i]).1 * rrP p q (rdF bd L[i]).2) w) s4.drew ?_
    have pre : ∀ (vs' : List Value) (w : World), era 1 vs' = era 1 [] → (match vs' with
      | [] => St w0 (D * rrpt r q base lr * rfA lr l F * rflt q bd) w
      | u :: _ => ∃ p, u = .pointer (some ⟨p, 0, none⟩) ∧ St w0 (D * rrpt r q base lr * rfA lr l F * rflt q (rdF bd L[i]).1 * rrP p q (rdF bd L[i]).2) w) → St w0 (D * rrpt r q base lr * rfA lr l F * rflt q bd) w := fun vs' w he hw => by
      match vs', hw with
      | [], hw => exact hw
      | _ :: _, hw => simp [era] at he
    simp
    refine effm_ldc (v := .pointer (some ⟨q, 0, none⟩)) (fun vs' w he hw => (fr (pre vs' w he hw)).1) ?_
    simp
    refine effm_ldc (v := .int .i64 base) (fun vs' w he hw => (fr (pre vs' w he hw)).2) ?_
    simp [c]
    refine effm_ldc (v := .int .i64 bi[i]) (fun vs' w he hw => by have := fi (pre vs' w he hw).drop; simpa using this) ?_
    simp [c]
    refine effm_ldc (v := vs[i]) (fun vs' w he hw => by have := fv (pre vs' w he hw).drop; simpa using this) ?_
    simp
    refine effm_mv rfl (fun w hw => eff_call ((rread_spec q bd _ L[i] vs[i] w0 w _ (by have := hLo.2 _ (List.getElem_mem c); omega) row hw).mono ?_)) (fun u hu => ?_)
    · rintro _ w' ⟨p, rfl, s'⟩
      exact ⟨p, rfl, s'⟩
    obtain ⟨_, p, rfl, _⟩ := hu
    simp
    intro w5 s5
    have s5 : St w0 (D * rrpt r q base lr * rfA lr l F * rflt q (rdF bd L[i]).1 * rrP p q (rdF bd L[i]).2) w5 := by simpa using s5
    refine eff_bsl1 s5 rfl fun d w6 s6 => ?_
    simp
    have s6 : St w0 (A * I * rrsA q (ps ++ [(p, (rdF bd L[i]).2)]) * rrpt r q base lr * rfA lr l F * rflt q (rdF bd L[i]).1 * pt d (.cells #[.pointer (some ⟨p, 0, none⟩)] 70 (0, 0)) * own 70 1 ov ps.length (rptrs ps)) w6 := s6.to (by rw [rrsA_snoc, ← hD]; ac_rfl)
    refine eff_app (m := 1) (news := [.pointer (some ⟨p, 0, none⟩)]) s6 rfl (by simpa using s6.swap.cells_look) (by simp [Value.oneCell']) (by decide) rfl (by unfold maxLen; omega) (by omega) fun v9 w9 s9 => ?_
    simp
    try simp (disch := omega) only [wrap64]
    refine hN _ _ ⟨i + 1, v9, _, ps ++ [(p, (rdF bd L[i]).2)], by simp; rfl, by omega, ?_, ?_⟩ (by simp [slotN]; omega)
    · rw [List.take_succ_eq_append_getElem c, rdsK_snoc, hbd]
      simp [hps]
    · rw [List.take_succ_eq_append_getElem c, rdsK_snoc, hbd]
      have a1 := rrclose (A := A * I * rrsA q (ps ++ [(p, (rdF bd L[i]).2)]) * rflt q (rdF bd L[i]).1 * own 70 1 v9 (ps.length + 1) (rptrs ps ++ [.pointer (some ⟨p, 0, none⟩)])) (base := base) (lv := lr) (l := l) ht (s9.cut (pt d (.cells #[.pointer (some ⟨p, 0, none⟩)] 70 (0, 0))) (by ac_rfl))
      refine a1.to ?_
      simp only [List.length_append, List.length_singleton, rptrs, List.map_append, List.map_cons, List.map_nil]
      ac_rfl
  · simp at c
    simp
    refine hX _ _ _ ?_
    obtain rfl : i = L.length := by omega
    rw [List.take_length] at hps hbd
    have hnil : (rdsK b1 L).2 = [] ↔ ps = [] := by rw [← hps]; simp
    have s3 : St w0 (A * rflt q bd * rrP r q F * I * rrsA q ps * own 70 1 ov ps.length (rptrs ps)) w' := s2.to (by ac_rfl)
    obtain ⟨oa, oc, rfl, _, _⟩ := s3.own_val
    have s3' : St w0 (A * rflt q bd * rrP r q F * own 70 1 (.slice oa ps.length oc) ps.length (rptrs ps) * rrsA q ps) w' := s3.cut I (by ac_rfl)
    simp
    by_cases h0 : ps.length = 0
    · have hp0 : ps = [] := List.eq_nil_of_length_eq_zero h0
      have e : (if ¬ (rdsK b1 L).2 = [] ∧ (rdsK b1 L).1 = true then (true, []) else rdsK b1 L) = rdsK b1 L := if_neg fun h => h.1 (hnil.2 hp0)
      rw [e]
      simp [h0]
      refine ⟨ps, hps, ?_⟩
      rw [hbd, h0]
      rw [h0] at s3'
      exact s3'
    · have hp0 : ¬ ps = [] := fun h => h0 (by simp [h])
      have h1 : 0 < ps.length := by omega
      simp [h1]
      obtain ⟨base, lr, l, ht, s5⟩ := rropen (s3.to (B := A * rflt q bd * I * rrsA q ps * own 70 1 (.slice oa ps.length oc) ps.length (rptrs ps) * rrP r q F) (by ac_rfl))
      refine eff_ldc (v := .pointer (some ⟨q, 0, none⟩)) ((cell_of s5.drop.look).trans rfl) ?_
      simp
      obtain ⟨e0, hb0, hcell⟩ := flt_val (s3.to (B := A * rrP r q F * I * rrsA q ps * own 70 1 (.slice oa ps.length oc) ps.length (rptrs ps) * rflt q bd) (by ac_rfl))
      refine eff_ldc (v := .int .i64 e0) hcell ?_
      simp
      refine cndI (fun c3 => ?_) (fun c3 => ?_)
      · simp at c3
        have hbt : bd = true := hb0.1 c3
        have e : (if ¬ (rdsK b1 L).2 = [] ∧ (rdsK b1 L).1 = true then (true, []) else rdsK b1 L) = (true, []) := if_pos ⟨fun h => hp0 (hnil.1 h), by rw [hbd, hbt]⟩
        rw [e]
        simp
        have h := (s3.cut (B := A * rflt q true * rrP r q F) (I * rrsA q ps * own 70 1 (.slice oa ps.length oc) ps.length (rptrs ps)) (by rw [hbt]; ac_rfl)).own_nil 70 1
        have e2 : rrsA q [] = emp := rfl
        rw [e2, sep_emp]; exact h
      · simp at c3
        have hbt : bd = false := by cases bd with
          | false => rfl
          | true => exact absurd c3 (hb0.2 rfl)
        have e : (if ¬ (rdsK b1 L).2 = [] ∧ (rdsK b1 L).1 = true then (true, []) else rdsK b1 L) = rdsK b1 L := if_neg fun h => by rw [hbd, hbt] at h; exact absurd h.2 (by decide)
        rw [e]
        simp
        exact ⟨ps, hps, by rw [hbd]; exact s3'⟩
end Go.HL.Tl

namespace Go.HL.Sr
open Go.HL Go.HL.Tl Go.Proofs
set_option maxRecDepth 4000
set_option linter.unusedSimpArgs false
set_option linter.unusedVariables false
structure PE where
  acc : Int
  item : Int
  coins : Int
  price : Int
  ws : List Int
structure PE.ok (e : PE) : Prop where
  coins : 0 ≤ e.coins ∧ e.coins < 18446744073709551616
  price : 0 ≤ e.price ∧ e.price < 18446744073709551616
  len : e.ws.length ≤ 1048576
def PE.cs (e : PE) (v : Value) : List Value := [.int .i64 e.acc, .int .i64 e.item, .int .u64 e.coins, .int .u64 e.price, v]
theorem pe_one (e : PE) (v : Value) (hv : v.oneCell' = true) : ∀ u ∈ e.cs v, u.oneCell' = true := by
  intro u hu
  simp only [PE.cs, List.mem_cons, List.not_mem_nil, or_false] at hu
  rcases hu with rfl | rfl | rfl | rfl | rfl
  · rfl
  · rfl
  · rfl
  · rfl
  · exact hv
abbrev WR (w0 : World) (A : Asn) (v : Value) (ws : List Int) : Prop := Row w0 A v ws.length 1 (ints ws)
def toU (x : Int) : Int := x % 18446744073709551616
theorem toU_bd (x : Int) : 0 ≤ toU x ∧ toU x < 18446744073709551616 := by unfold toU; omega
theorem wrapU (x : Int) : IntKind.u64.wrap x = toU x := by simp [IntKind.wrap, IntKind.bits, IntKind.signed, toU]
@[simp] theorem ints_len (l : List Int) : (ints l).length = l.length := by simp [ints]
def putN (W : Wr) (tag : Int) : List Int → Wr
  | [] => W
  | x :: t => putN (numW W tag (toU x)) (tag + 1) t
theorem putN_ok : ∀ (l : List Int) {W : Wr} (tag : Int), W.ok → (putN W tag l).ok
  | [], _, _, h => h
  | x :: t, _, _, h => putN_ok t _ (num_ok h _ _)
theorem putN_snoc : ∀ (l : List Int) (W : Wr) (tag : Int) (x : Int), putN W tag (l ++ [x]) = numW (putN W tag l) (tag + l.length) (toU x)
  | [], W, tag, x => by simp [putN]
  | y :: t, W, tag, x => by
    simp only [List.cons_append, putN, putN_snoc t, List.length_cons]
    congr 1; omega
@[simp] abbrev pW (p : Nat) (W : Wr) : Asn := wrA 64 p W
abbrev rW (p : Nat) (W : Wr) : Asn := wrA 52 p W

def h27_0 : HC := (.reg (.chk none (.bin .add) (.cons (.inp 7) (.cons (.cst (.int .i64 1)) .nil)) (.done [(7, (.op (.bin .add) (.cons (.inp 7) (.cons (.cst (.int .i64 1)) .nil))))] none)))
@[simp] theorem h27_0_wp : type_of% (@wpH h27_0 _ h27_0.eq_1) := wpH h27_0.eq_1
def h27_1 : HC := (.reg (.chk none (.bin .add) (.cons (.inp 1) (.cons (.inp 3) .nil)) (.chk none (.convI .u64) (.cons (.inp 4) .nil) (.eff (.call 29) (.cons (.inp 0) (.cons (.op (.bin .add) (.cons (.inp 1) (.cons (.inp 3) .nil))) (.cons (.op (.convI .u64) (.cons (.inp 4) .nil)) .nil))) (.done [] none)))))
@[simp] theorem h27_1_wp : type_of% (@wpH h27_1 _ h27_1.eq_1) := wpH h27_1.eq_1
def h27_2 : HC := (.seq (.reg (.chk none (.idxL 1) (.cons (.inp 5) (.cons (.inp 7) .nil)) (.eff (.ld false 1) (.cons (.op (.idxL 1) (.cons (.inp 5) (.cons (.inp 7) .nil))) .nil) (.done [(3, (.inp 7)), (4, (.bv 0))] none)))) h27_1)
@[simp] theorem h27_2_wp : type_of% (@wpH h27_2 _ h27_2.eq_1) := wpH h27_2.eq_1
def h27_3 : HC := (.seq (.block 1 h27_2) h27_0)
@[simp] theorem h27_3_wp : type_of% (@wpH h27_3 _ h27_3.eq_1) := wpH h27_3.eq_1
def h27_4 : HC := (.seq (.br (.chk none (.bin .lss) (.cons (.inp 7) (.cons (.inp 6) .nil)) (.done [] (some (.op (.bin .lss) (.cons (.inp 7) (.cons (.inp 6) .nil)))))) .skip (.exit 0)) h27_3)
@[simp] theorem h27_4_wp : type_of% (@wpH h27_4 _ h27_4.eq_1) := wpH h27_4.eq_1
def h27_5 : HC := (.loop h27_4)
@[simp] theorem h27_5_wp : type_of% (@wpH h27_5 _ h27_5.eq_1) := wpH h27_5.eq_1
def h27_6 : HC := (.block 0 h27_5)
@[simp] theorem h27_6_wp : type_of% (@wpH h27_6 _ h27_6.eq_1) := wpH h27_6.eq_1
def l27 : Lifted := ⟨[0, 1, 2, 6, 7, 8, 9, 10], 23, [], (.seq (.reg (.chk none .lenL (.cons (.inp 2) .nil) (.done [(5, (.inp 2)), (6, (.op .lenL (.cons (.inp 2) .nil))), (7, (.cst (.int .i64 0)))] none))) h27_6)⟩
theorem l27_ok : liftFn T0 27 400 = some l27 := by kernel_rfl

def l18 : Lifted := ⟨[0, 1, 2], 11, [], (.reg (.chk none (.convI .u64) (.cons (.inp 2) .nil) (.eff (.call 20) (.cons (.inp 0) (.cons (.inp 1) (.cons (.op (.convI .u64) (.cons (.inp 2) .nil)) .nil))) (.done [] none))))⟩
theorem l18_ok : liftFn T0 18 400 = some l18 := by kernel_rfl

def h31_0 : HC := (.seq (.reg (.done [(2, (.inp 3))] none)) .ret)
@[simp] theorem h31_0_wp : type_of% (@wpH h31_0 _ h31_0.eq_1) := wpH h31_0.eq_1
def h31_1 : HC := (.seq (.reg (.eff (.call 60) (.cons (.inp 3) (.cons (.cst (.int .i64 5)) (.cons (.inp 4) .nil))) (.done [] none))) h31_0)
@[simp] theorem h31_1_wp : type_of% (@wpH h31_1 _ h31_1.eq_1) := wpH h31_1.eq_1
def h31_2 : HC := (.reg (.chk none (.bin .add) (.cons (.inp 8) (.cons (.cst (.int .i64 1)) .nil)) (.done [(8, (.op (.bin .add) (.cons (.inp 8) (.cons (.cst (.int .i64 1)) .nil))))] none)))
@[simp] theorem h31_2_wp : type_of% (@wpH h31_2 _ h31_2.eq_1) := wpH h31_2.eq_1
def h31_3 : HC := (.reg (.chk none (.convI .u64) (.cons (.inp 5) .nil) (.eff (.call 62) (.cons (.op (.convI .u64) (.cons (.inp 5) .nil)) .nil) (.eff (.bsl 31 1 1 #[(.slice none 0 0)] [0]) (.cons (.bv 0) .nil) (.eff (.app 90 90 31 1 24 (.slice none 0 0)) (.cons (.inp 4) (.cons (.bv 1) .nil)) (.done [(4, (.bv 2))] none))))))
@[simp] theorem h31_3_wp : type_of% (@wpH h31_3 _ h31_3.eq_1) := wpH h31_3.eq_1
def h31_4 : HC := (.seq (.reg (.chk none (.idxL 1) (.cons (.inp 6) (.cons (.inp 8) .nil)) (.eff (.ld false 1) (.cons (.op (.idxL 1) (.cons (.inp 6) (.cons (.inp 8) .nil))) .nil) (.done [(5, (.bv 0))] none)))) h31_3)
@[simp] theorem h31_4_wp : type_of% (@wpH h31_4 _ h31_4.eq_1) := wpH h31_4.eq_1
def h31_5 : HC := (.seq (.block 1 h31_4) h31_2)
@[simp] theorem h31_5_wp : type_of% (@wpH h31_5 _ h31_5.eq_1) := wpH h31_5.eq_1
def h31_6 : HC := (.seq (.br (.chk none (.bin .lss) (.cons (.inp 8) (.cons (.inp 7) .nil)) (.done [] (some (.op (.bin .lss) (.cons (.inp 8) (.cons (.inp 7) .nil)))))) .skip (.exit 0)) h31_5)
@[simp] theorem h31_6_wp : type_of% (@wpH h31_6 _ h31_6.eq_1) := wpH h31_6.eq_1
def h31_7 : HC := (.loop h31_6)
@[simp] theorem h31_7_wp : type_of% (@wpH h31_7 _ h31_7.eq_1) := wpH h31_7.eq_1
def h31_8 : HC := (.seq (.block 0 h31_7) h31_1)
@[simp] theorem h31_8_wp : type_of% (@wpH h31_8 _ h31_8.eq_1) := wpH h31_8.eq_1
def h31_9 : HC := (.seq (.reg (.chk none (.fld 4) (.cons (.inp 1) .nil) (.eff (.ld false 1) (.cons (.op (.fld 4) (.cons (.inp 1) .nil)) .nil) (.chk none .lenL (.cons (.bv 0) .nil) (.done [(6, (.bv 0)), (7, (.op .lenL (.cons (.bv 0) .nil))), (8, (.cst (.int .i64 0)))] none))))) h31_8)
@[simp] theorem h31_9_wp : type_of% (@wpH h31_9 _ h31_9.eq_1) := wpH h31_9.eq_1
def h31_10 : HC := (.seq (.reg (.done [(4, (.cst (.slice none 0 0)))] none)) h31_9)
@[simp] theorem h31_10_wp : type_of% (@wpH h31_10 _ h31_10.eq_1) := wpH h31_10.eq_1
def h31_11 : HC := (.seq (.reg (.chk none (.fld 3) (.cons (.inp 1) .nil) (.eff (.ld false 1) (.cons (.op (.fld 3) (.cons (.inp 1) .nil)) .nil) (.eff (.call 29) (.cons (.inp 3) (.cons (.cst (.int .i64 4)) (.cons (.bv 0) .nil))) (.done [] none))))) h31_10)
@[simp] theorem h31_11_wp : type_of% (@wpH h31_11 _ h31_11.eq_1) := wpH h31_11.eq_1
def h31_12 : HC := (.seq (.reg (.chk none (.fld 2) (.cons (.inp 1) .nil) (.eff (.ld false 1) (.cons (.op (.fld 2) (.cons (.inp 1) .nil)) .nil) (.eff (.call 29) (.cons (.inp 3) (.cons (.cst (.int .i64 3)) (.cons (.bv 0) .nil))) (.done [] none))))) h31_11)
@[simp] theorem h31_12_wp : type_of% (@wpH h31_12 _ h31_12.eq_1) := wpH h31_12.eq_1
def h31_13 : HC := (.seq (.reg (.chk none (.fld 0) (.cons (.inp 1) .nil) (.eff (.ld false 1) (.cons (.op (.fld 0) (.cons (.inp 1) .nil)) .nil) (.chk none (.fld 1) (.cons (.inp 1) .nil) (.eff (.ld false 1) (.cons (.op (.fld 1) (.cons (.inp 1) .nil)) .nil) (.eff (.bsl 3 2 1 #[(.int .i64 0)] [0, 1]) (.cons (.bv 0) (.cons (.bv 1) .nil)) (.eff (.call 27) (.cons (.inp 3) (.cons (.cst (.int .i64 1)) (.cons (.bv 2) .nil))) (.done [] none)))))))) h31_12)
@[simp] theorem h31_13_wp : type_of% (@wpH h31_13 _ h31_13.eq_1) := wpH h31_13.eq_1
def h31_14 : HC := (.seq (.reg (.chk none (.build #[(.slice none 0 0), (.int .i64 0), (.int .i64 0)] [(0, 1), (1, 1), (2, 1)] []) .nil (.eff (.box 64) (.cons (.op (.build #[(.slice none 0 0), (.int .i64 0), (.int .i64 0)] [(0, 1), (1, 1), (2, 1)] []) .nil) .nil) (.done [(3, (.bv 0))] none)))) h31_13)
@[simp] theorem h31_14_wp : type_of% (@wpH h31_14 _ h31_14.eq_1) := wpH h31_14.eq_1
def l31 : Lifted := ⟨[0, 1, 2, 3, 4, 6, 25, 26, 27], 42, [.slot 2], (.seq (.reg (.eff (.box 25) (.cons (.inp 0) .nil) (.done [(1, (.bv 0)), (2, (.cst (.pointer none)))] none))) h31_14)⟩
theorem l31_ok : liftFn T0 31 400 = some l31 := by kernel_rfl

def h22_0 : HC := (.seq (.reg (.done [(2, (.inp 3))] none)) .ret)
@[simp] theorem h22_0_wp : type_of% (@wpH h22_0 _ h22_0.eq_1) := wpH h22_0.eq_1
def h22_1 : HC := (.seq (.reg (.eff (.call 58) (.cons (.inp 3) (.cons (.cst (.int .i64 5)) (.cons (.inp 4) .nil))) (.done [] none))) h22_0)
@[simp] theorem h22_1_wp : type_of% (@wpH h22_1 _ h22_1.eq_1) := wpH h22_1.eq_1
def h22_2 : HC := (.reg (.chk none (.bin .add) (.cons (.inp 5) (.cons (.cst (.int .i64 1)) .nil)) (.done [(5, (.op (.bin .add) (.cons (.inp 5) (.cons (.cst (.int .i64 1)) .nil))))] none)))
@[simp] theorem h22_2_wp : type_of% (@wpH h22_2 _ h22_2.eq_1) := wpH h22_2.eq_1
def h22_3 : HC := (.reg (.eff (.bsl 31 1 1 #[(.slice none 0 0)] [0]) (.cons (.inp 6) .nil) (.eff (.app 90 90 31 1 24 (.slice none 0 0)) (.cons (.inp 4) (.cons (.bv 0) .nil)) (.done [(4, (.bv 1))] none))))
@[simp] theorem h22_3_wp : type_of% (@wpH h22_3 _ h22_3.eq_1) := wpH h22_3.eq_1
def h22_4 : HC := (.seq (.reg (.chk none (.fld 4) (.cons (.inp 1) .nil) (.eff (.ld false 1) (.cons (.op (.fld 4) (.cons (.inp 1) .nil)) .nil) (.chk none (.idxL 1) (.cons (.bv 0) (.cons (.inp 5) .nil)) (.eff (.ld false 1) (.cons (.op (.idxL 1) (.cons (.bv 0) (.cons (.inp 5) .nil))) .nil) (.chk none (.convI .u64) (.cons (.bv 1) .nil) (.eff (.call 56) (.cons (.op (.convI .u64) (.cons (.bv 1) .nil)) .nil) (.done [(6, (.bv 2))] none)))))))) h22_3)
@[simp] theorem h22_4_wp : type_of% (@wpH h22_4 _ h22_4.eq_1) := wpH h22_4.eq_1
def h22_5 : HC := (.seq (.block 1 h22_4) h22_2)
@[simp] theorem h22_5_wp : type_of% (@wpH h22_5 _ h22_5.eq_1) := wpH h22_5.eq_1
def h22_6 : HC := (.seq (.br (.chk none (.fld 4) (.cons (.inp 1) .nil) (.eff (.ld false 1) (.cons (.op (.fld 4) (.cons (.inp 1) .nil)) .nil) (.chk none .lenL (.cons (.bv 0) .nil) (.chk none (.bin .lss) (.cons (.inp 5) (.cons (.op .lenL (.cons (.bv 0) .nil)) .nil)) (.done [] (some (.op (.bin .lss) (.cons (.inp 5) (.cons (.op .lenL (.cons (.bv 0) .nil)) .nil))))))))) .skip (.exit 0)) h22_5)
@[simp] theorem h22_6_wp : type_of% (@wpH h22_6 _ h22_6.eq_1) := wpH h22_6.eq_1
def h22_7 : HC := (.loop h22_6)
@[simp] theorem h22_7_wp : type_of% (@wpH h22_7 _ h22_7.eq_1) := wpH h22_7.eq_1
def h22_8 : HC := (.seq (.block 0 h22_7) h22_1)
@[simp] theorem h22_8_wp : type_of% (@wpH h22_8 _ h22_8.eq_1) := wpH h22_8.eq_1
def h22_9 : HC := (.seq (.reg (.done [(5, (.cst (.int .i64 0)))] none)) h22_8)
@[simp] theorem h22_9_wp : type_of% (@wpH h22_9 _ h22_9.eq_1) := wpH h22_9.eq_1
def h22_10 : HC := (.seq (.reg (.done [(4, (.cst (.slice none 0 0)))] none)) h22_9)
@[simp] theorem h22_10_wp : type_of% (@wpH h22_10 _ h22_10.eq_1) := wpH h22_10.eq_1
def h22_11 : HC := (.seq (.reg (.chk none (.fld 3) (.cons (.inp 1) .nil) (.eff (.ld false 1) (.cons (.op (.fld 3) (.cons (.inp 1) .nil)) .nil) (.eff (.call 20) (.cons (.inp 3) (.cons (.cst (.int .i64 4)) (.cons (.bv 0) .nil))) (.done [] none))))) h22_10)
@[simp] theorem h22_11_wp : type_of% (@wpH h22_11 _ h22_11.eq_1) := wpH h22_11.eq_1
def h22_12 : HC := (.seq (.reg (.chk none (.fld 2) (.cons (.inp 1) .nil) (.eff (.ld false 1) (.cons (.op (.fld 2) (.cons (.inp 1) .nil)) .nil) (.eff (.call 20) (.cons (.inp 3) (.cons (.cst (.int .i64 3)) (.cons (.bv 0) .nil))) (.done [] none))))) h22_11)
@[simp] theorem h22_12_wp : type_of% (@wpH h22_12 _ h22_12.eq_1) := wpH h22_12.eq_1
def h22_13 : HC := (.seq (.reg (.chk none (.fld 1) (.cons (.inp 1) .nil) (.eff (.ld false 1) (.cons (.op (.fld 1) (.cons (.inp 1) .nil)) .nil) (.eff (.call 18) (.cons (.inp 3) (.cons (.cst (.int .i64 2)) (.cons (.bv 0) .nil))) (.done [] none))))) h22_12)
@[simp] theorem h22_13_wp : type_of% (@wpH h22_13 _ h22_13.eq_1) := wpH h22_13.eq_1
def h22_14 : HC := (.seq (.reg (.chk none (.fld 0) (.cons (.inp 1) .nil) (.eff (.ld false 1) (.cons (.op (.fld 0) (.cons (.inp 1) .nil)) .nil) (.eff (.call 18) (.cons (.inp 3) (.cons (.cst (.int .i64 1)) (.cons (.bv 0) .nil))) (.done [] none))))) h22_13)
@[simp] theorem h22_14_wp : type_of% (@wpH h22_14 _ h22_14.eq_1) := wpH h22_14.eq_1
def h22_15 : HC := (.seq (.reg (.chk none (.build #[(.slice none 0 0), (.int .i64 0), (.int .i64 0)] [(0, 1), (1, 1), (2, 1)] []) .nil (.eff (.box 52) (.cons (.op (.build #[(.slice none 0 0), (.int .i64 0), (.int .i64 0)] [(0, 1), (1, 1), (2, 1)] []) .nil) .nil) (.done [(3, (.bv 0))] none)))) h22_14)
@[simp] theorem h22_15_wp : type_of% (@wpH h22_15 _ h22_15.eq_1) := wpH h22_15.eq_1
def l22 : Lifted := ⟨[0, 1, 2, 3, 4, 5, 6], 47, [.slot 2], (.seq (.reg (.eff (.box 25) (.cons (.inp 0) .nil) (.done [(1, (.bv 0)), (2, (.cst (.pointer none)))] none))) h22_15)⟩
theorem l22_ok : liftFn T0 22 400 = some l22 := by kernel_rfl
theorem put_rspec (p : Nat) (W : Wr) (tag x : Int) (w0 w : World) (A : Asn) (hW : W.ok) (s : St w0 (A * rW p W) w) :
    CallW Try.prog 18 [.pointer (some ⟨p, 0, none⟩), .int .i64 tag, .int .i64 x] (fun r w' => St w0 (A * rW p (numW W tag (toU x))) w') w := by
  refine callW_of_lift l18_ok (by simp [l18]) ?_
  simp [l18]
  rw [wrapU]
  refine eff_call ((rNumber_spec p W tag (toU x) w0 w A hW (toU_bd x) s).mono fun r w' s' => ?_)
  simp
  exact s'
theorem ints_spec (p : Nat) (W : Wr) (tag : Int) (l : List Int) (v : Value) (w0 w : World) (A : Asn) (ht : 0 ≤ tag ∧ tag ≤ 255) (hl : l.length ≤ 255) (hW : W.ok) (h : WR w0 A v l) (s : St w0 (A * wrA 64 p W) w) :
    CallW Try.prog 27 [.pointer (some ⟨p, 0, none⟩), .int .i64 tag, v] (fun r w' => St w0 (A * wrA 64 p (putN W tag l)) w') w := by
  obtain ⟨a, cap, rfl⟩ := h.val
  refine callW_of_lift l27_ok (by simp [l27]) ?_
  simp [l27]
  refine loopI (fun env w' => ∃ (i : Nat) (o3 o4 : Value), env = [.pointer (some ⟨p, 0, none⟩), .int .i64 tag, .slice a l.length cap, o3, o4, .slice a l.length cap, .int .i64 l.length, .int .i64 i] ∧ i ≤ l.length ∧ St w0 (A * wrA 64 p (putN W tag (l.take i))) w')
    (fun env _ => l.length - slotN env 7) ⟨0, _, _, rfl, by omega, s⟩ ?_
  clear s
  rintro LQ env w' ⟨i, o3, o4, rfl, hi, s1⟩ hN hX hR
  simp
  refine cndI (fun c => ?_) (fun c => ?_)
  · simp at c
    obtain ⟨g, o, cap', hv, hcell⟩ := h.at (by omega)
    cases hv
    simp [c]
    refine eff_ldc (v := .int .i64 l[i]) (by have := hcell w' s1.drop i _ (by simp [ints, c]; rfl); simpa using this) ?_
    have w1 : IntKind.i64.wrap (tag + i) = tag + i := wrap64 (by omega) (by omega)
    simp [w1]
    rw [wrapU]
    refine eff_call ((Number_spec p _ (tag + i) (toU l[i]) w0 w' A (putN_ok _ _ hW) (toU_bd _) s1).mono fun r w2 s2 => ?_)
    simp
    try simp (disch := omega) only [wrap64]
    refine hN _ _ ⟨i + 1, _, _, by simp; exact ⟨rfl, rfl⟩, by omega, ?_⟩ (by simp [slotN]; omega)
    rw [List.take_succ_eq_append_getElem c, putN_snoc]
    have e : (l.take i).length = i := by rw [List.length_take]; omega
    rw [e]
    exact s2
  · simp at c
    simp
    refine hX _ _ _ ?_
    obtain rfl : i = l.length := by omega
    rw [List.take_length] at s1
    simp
    exact s1
end Go.HL.Sr

namespace Go.HL.Sr
open Go.HL Go.HL.Tl Go.Proofs
set_option maxRecDepth 4000
set_option linter.unusedSimpArgs false
set_option linter.unusedVariables false
def wF (x : Int) : List UInt8 := shortL (toU x).toNat
def entW0 (e : PE) : Wr := numW (numW (putN Wr.new 1 [e.acc, e.item]) 3 e.coins) 4 e.price
def entW (e : PE) : Wr := putF (entW0 e) 5 (listL (e.ws.map wF))
theorem entW0_ok (e : PE) : (entW0 e).ok := num_ok (num_ok (putN_ok _ _ Wr.new_ok) _ _) _ _
theorem entW_ok (e : PE) : (entW e).ok := put_ok (entW0_ok e) _ _
theorem listL_bd {m : Nat} : ∀ {L : List (List UInt8)}, (∀ l ∈ L, l.length ≤ m) → (listL L).length ≤ L.length * (m + 10)
  | [], _ => by simp [listL]
  | l :: t, h => by
    have h1 := listL_bd (L := t) fun x hx => h x (List.mem_cons_of_mem _ hx)
    have h2 := h l List.mem_cons_self
    have h3 := (shortL_len l.length).2
    have e : listL (l :: t) = shortL l.length ++ l ++ listL t := by simp [listL]
    rw [e]
    simp only [List.length_append, List.length_cons, Nat.add_mul]
    omega
theorem new_writer {w0 w : World} {A : Asn} {t p : Nat} (s : St w0 (A * pt p (.cells #[.slice none 0 0, .int .i64 0, .int .i64 0] t (0, 0))) w) : St w0 (A * wrA t p Wr.new) w :=
  wclose (v := .slice none 0 0) (W := Wr.new) (byA_nil s)
theorem entry_spec (e : PE) (v : Value) (w0 w : World) (A : Asn) (he : e.ok) (h : WR w0 A v e.ws) (s : St w0 A w) :
    CallW Try.prog 31 [.agg (e.cs v).toArray] (fun r w' => ∃ p, r = .pointer (some ⟨p, 0, none⟩) ∧ St w0 (A * wrA 64 p (entW e)) w') w := by
  have hlen := he.len
  obtain ⟨wa, wc, rfl⟩ := h.val
  refine callW_of_lift l31_ok (by simp [l31]) ?_
  simp [l31, Instr.fill, Value.cells]
  refine eff_box s fun b w1 s1 => ?_
  simp [Instr.fill, Value.cells]
  have s1 : St w0 (A * pt b (.cells (e.cs (.slice wa e.ws.length wc)).toArray 25 (0, 0))) w1 := s1
  refine eff_box s1 fun p w2 s2 => ?_
  simp
  have s2 := new_writer s2
  obtain ⟨D, hD⟩ : ∃ D, A * pt b (.cells (e.cs (.slice wa e.ws.length wc)).toArray 25 (0, 0)) = D := ⟨_, rfl⟩
  have hDA : ∀ w, St w0 D w → St w0 A w := fun w h => by rw [← hD] at h; exact h.drop
  have f : ∀ {Z : Asn} {w : World}, St w0 (D * Z) w → ∀ j u, (e.cs (.slice wa e.ws.length wc))[j]? = some u → w.cell? ⟨b, j, none⟩ = some u := fun h j u hu => by
    have h := h.drop; rw [← hD] at h
    have := h.row_cells j u hu; simpa using this
  have out : ∀ {Z : Asn} {w : World}, St w0 (D * Z) w → St w0 (A * Z) w := fun h => by rw [← hD] at h; exact h.swap.drop
  rw [hD] at s2
  refine eff_ldc (v := .int .i64 e.acc) (f s2 0 _ rfl) ?_
  simp
  refine eff_ldc (v := .int .i64 e.item) (f s2 1 _ rfl) ?_
  simp
  refine eff_bslO (vs := [.int .i64 e.acc, .int .i64 e.item]) s2 (by simp [Value.oneCell']) rfl rfl (by decide) fun sv w3 s3 => ?_
  simp
  have s3 : St w0 (D * own 3 1 sv 2 (ints [e.acc, e.item]) * wrA 64 p Wr.new) w3 := s3.swap
  refine eff_call ((ints_spec p Wr.new 1 [e.acc, e.item] sv w0 w3 _ (by decide) (by simp) Wr.new_ok (row_own s3.drop) s3).mono fun _ w4 s4 => ?_)
  simp
  have s4 := s4.swap.drop
  refine eff_ldc (v := .int .u64 e.coins) (f s4 2 _ rfl) ?_
  simp
  refine eff_call ((Number_spec p _ 3 e.coins w0 w4 D (putN_ok _ _ Wr.new_ok) he.coins s4).mono fun _ w5 s5 => ?_)
  simp
  refine eff_ldc (v := .int .u64 e.price) (f s5 3 _ rfl) ?_
  simp
  refine eff_call ((Number_spec p _ 4 e.price w0 w5 D (num_ok (putN_ok _ _ Wr.new_ok) _ _) he.price s5).mono fun _ w6 s6 => ?_)
  simp
  have s6 : St w0 (D * wrA 64 p (entW0 e)) w6 := s6
  refine eff_ldc (v := .slice wa e.ws.length wc) (f s6 4 _ rfl) ?_
  simp
  refine loopI (fun env w' => ∃ (i : Nat) (lv o5 : Value) (vs : List Value), env = [.agg (e.cs (.slice wa e.ws.length wc)).toArray, .pointer (some ⟨b, 0, none⟩), .pointer none, .pointer (some ⟨p, 0, none⟩), lv, o5, .slice wa e.ws.length wc, .int .i64 e.ws.length, .int .i64 i] ∧ i ≤ e.ws.length ∧ vs.length = i ∧
      St w0 (D * wrA 64 p (entW0 e) * own 31 1 lv i vs * bss vs ((e.ws.map wF).take i)) w')
    (fun env _ => e.ws.length - slotN env 8) ⟨0, _, _, [], rfl, by omega, rfl, ?_⟩ ?_
  · have h := s6.own_nil 31 1
    have e0 : bss ([] : List Value) ((e.ws.map wF).take 0) = emp := rfl
    rw [e0, sep_emp]; exact h
  rintro LQ env w' ⟨i, lv, o5, vs, rfl, hi, hvs, t1⟩ hN hX hR
  simp
  refine cndI (fun c => ?_) (fun c => ?_)
  · simp at c
    obtain ⟨g, o, cap', hv, hcell⟩ := h.at (by omega)
    cases hv
    simp [c]
    refine eff_ldc (v := .int .i64 e.ws[i]) (by have := hcell w' (hDA _ t1.drop.drop.drop) i _ (by simp [ints, c]; rfl); simpa using this) ?_
    simp
    rw [wrapU]
    refine eff_call ((Short_spec (toU e.ws[i]) w0 w' _ (toU_bd _) t1).mono fun r w2 s2 => ?_)
    have hw : shortL (toU e.ws[i]).toNat = wF e.ws[i] := rfl
    rw [hw] at s2
    obtain ⟨ra, rc, rfl, _, _⟩ := s2.own_val
    simp
    have hil : i < (e.ws.map wF).length := by simpa using c
    have hge : (e.ws.map wF)[i] = wF e.ws[i] := by simp
    refine eff_bsl1 s2 rfl fun d w3 s3 => ?_
    simp
    have s3 : St w0 (D * wrA 64 p (entW0 e) * bss (vs ++ [.slice ra (wF e.ws[i]).length rc]) ((e.ws.map wF).take (i + 1)) * pt d (.cells #[.slice ra (wF e.ws[i]).length rc] 31 (0, 0)) * own 31 1 lv i vs) w3 := s3.to (by
      rw [List.take_succ_eq_append_getElem hil, bss_snoc _ _ _ _ (by rw [List.length_take]; simp; omega), hge]; simp only [byA]; ac_rfl)
    refine eff_app (m := 1) (news := [.slice ra (wF e.ws[i]).length rc]) s3 rfl (by simpa using s3.swap.cells_look) (by simp [Value.oneCell']) (by decide) rfl (by unfold maxLen; omega) (by omega) fun v5 w5 s5 => ?_
    simp
    try simp (disch := omega) only [wrap64]
    exact hN _ _ ⟨i + 1, v5, _, vs ++ [.slice ra (wF e.ws[i]).length rc], by simp; rfl, by omega, by simp [hvs], s5.swap.drop.swap⟩ (by simp [slotN]; omega)
  · simp at c
    simp
    refine hX _ _ _ ?_
    obtain rfl : i = e.ws.length := by omega
    have ht : (e.ws.map wF).take e.ws.length = e.ws.map wF := by rw [List.take_of_length_le]; simp
    rw [ht] at t1
    have hll : (listL (e.ws.map wF)).length ≤ 35184372088832 := by
      have := listL_bd (m := 10) (L := e.ws.map wF) (fun x hx => by
        obtain ⟨y, _, rfl⟩ := List.mem_map.1 hx
        exact (shortL_len _).2)
      simp at this
      omega
    have s2 : St w0 (D * own 31 1 lv (e.ws.map wF).length vs * bss vs (e.ws.map wF) * wrA 64 p (entW0 e)) w' := t1.to (by rw [List.length_map]; ac_rfl)
    simp
    refine eff_call ((WList_spec p (entW0 e) 5 vs (e.ws.map wF) lv w0 w' (D * own 31 1 lv (e.ws.map wF).length vs) (entW0_ok e) (by simp [hvs]) (by simp; omega) hll (row_own s2.drop.drop) s2).mono fun _ w5 s5 => ?_)
    simp
    exact out (s5.cut (own 31 1 lv (e.ws.map wF).length vs * bss vs (e.ws.map wF)) (B := D * wrA 64 p (entW e)) (by simp only [entW]; ac_rfl))
theorem rentry_spec (e : PE) (v : Value) (w0 w : World) (A : Asn) (he : e.ok) (h : WR w0 A v e.ws) (s : St w0 A w) :
    CallW Try.prog 22 [.agg (e.cs v).toArray] (fun r w' => ∃ p, r = .pointer (some ⟨p, 0, none⟩) ∧ St w0 (A * wrA 52 p (entW e)) w') w := by
  have hlen := he.len
  obtain ⟨wa, wc, rfl⟩ := h.val
  refine callW_of_lift l22_ok (by simp [l22]) ?_
  simp [l22, Instr.fill, Value.cells]
  refine eff_box s fun b w1 s1 => ?_
  simp [Instr.fill, Value.cells]
  have s1 : St w0 (A * pt b (.cells (e.cs (.slice wa e.ws.length wc)).toArray 25 (0, 0))) w1 := s1
  refine eff_box s1 fun p w2 s2 => ?_
  simp
  have s2 := new_writer s2
  obtain ⟨D, hD⟩ : ∃ D, A * pt b (.cells (e.cs (.slice wa e.ws.length wc)).toArray 25 (0, 0)) = D := ⟨_, rfl⟩
  have hDA : ∀ w, St w0 D w → St w0 A w := fun w h => by rw [← hD] at h; exact h.drop
  have f : ∀ {Z : Asn} {w : World}, St w0 (D * Z) w → ∀ j u, (e.cs (.slice wa e.ws.length wc))[j]? = some u → w.cell? ⟨b, j, none⟩ = some u := fun h j u hu => by
    have h := h.drop; rw [← hD] at h
    have := h.row_cells j u hu; simpa using this
  have out : ∀ {Z : Asn} {w : World}, St w0 (D * Z) w → St w0 (A * Z) w := fun h => by rw [← hD] at h; exact h.swap.drop
  rw [hD] at s2
  refine eff_ldc (v := .int .i64 e.acc) (f s2 0 _ rfl) ?_
  simp
  refine eff_call ((put_rspec p Wr.new 1 e.acc w0 w2 D Wr.new_ok s2).mono fun _ w3 s3 => ?_)
  simp
  refine eff_ldc (v := .int .i64 e.item) (f s3 1 _ rfl) ?_
  simp
  refine eff_call ((put_rspec p _ 2 e.item w0 w3 D (num_ok Wr.new_ok _ _) s3).mono fun _ w4 s4 => ?_)
  simp
  have s4 : St w0 (D * wrA 52 p (putN Wr.new 1 [e.acc, e.item])) w4 := s4
  refine eff_ldc (v := .int .u64 e.coins) (f s4 2 _ rfl) ?_
  simp
  refine eff_call ((rNumber_spec p _ 3 e.coins w0 w4 D (putN_ok _ _ Wr.new_ok) he.coins s4).mono fun _ w5 s5 => ?_)
  simp
  refine eff_ldc (v := .int .u64 e.price) (f s5 3 _ rfl) ?_
  simp
  refine eff_call ((rNumber_spec p _ 4 e.price w0 w5 D (num_ok (putN_ok _ _ Wr.new_ok) _ _) he.price s5).mono fun _ w6 s6 => ?_)
  simp
  have s6 : St w0 (D * wrA 52 p (entW0 e)) w6 := s6
  refine loopI (fun env w' => ∃ (i : Nat) (lv o6 : Value) (vs : List Value), env = [.agg (e.cs (.slice wa e.ws.length wc)).toArray, .pointer (some ⟨b, 0, none⟩), .pointer none, .pointer (some ⟨p, 0, none⟩), lv, .int .i64 i, o6] ∧ i ≤ e.ws.length ∧ vs.length = i ∧
      St w0 (D * wrA 52 p (entW0 e) * own 31 1 lv i vs * bss vs ((e.ws.map wF).take i)) w')
    (fun env _ => e.ws.length - slotN env 5) ⟨0, _, _, [], rfl, by omega, rfl, ?_⟩ ?_
  · have h := s6.own_nil 31 1
    have e0 : bss ([] : List Value) ((e.ws.map wF).take 0) = emp := rfl
    rw [e0, sep_emp]; exact h
  rintro LQ env w' ⟨i, lv, o6, vs, rfl, hi, hvs, t1⟩ hN hX hR
  have fD : ∀ {w : World}, St w0 (D * wrA 52 p (entW0 e) * own 31 1 lv i vs * bss vs ((e.ws.map wF).take i)) w → w.cell? ⟨b, 4, none⟩ = some (.slice wa e.ws.length wc) := fun h => f (Z := wrA 52 p (entW0 e) * own 31 1 lv i vs * bss vs ((e.ws.map wF).take i)) (h.to (by ac_rfl)) 4 _ rfl
  simp
  refine eff_ldc (v := .slice wa e.ws.length wc) (fD t1) ?_
  simp
  refine cndI (fun c => ?_) (fun c => ?_)
  · simp at c
    obtain ⟨g, o, cap', hv, hcell⟩ := h.at (by omega)
    cases hv
    simp
    refine eff_ldc (v := .slice (some ⟨g, o, none⟩) e.ws.length wc) (fD t1) ?_
    simp [c]
    refine eff_ldc (v := .int .i64 e.ws[i]) (by have := hcell w' (hDA _ t1.drop.drop.drop) i _ (by simp [ints, c]; rfl); simpa using this) ?_
    simp
    rw [wrapU]
    refine eff_call ((rShort_spec (toU e.ws[i]) w0 w' _ (toU_bd _) t1).mono fun r w2 s2 => ?_)
    have hw : shortL (toU e.ws[i]).toNat = wF e.ws[i] := rfl
    rw [hw] at s2
    obtain ⟨ra, rc, rfl, _, _⟩ := s2.own_val
    simp
    have hil : i < (e.ws.map wF).length := by simpa using c
    have hge : (e.ws.map wF)[i] = wF e.ws[i] := by simp
    refine eff_bsl1 s2 rfl fun d w3 s3 => ?_
    simp
    have s3 : St w0 (D * wrA 52 p (entW0 e) * bss (vs ++ [.slice ra (wF e.ws[i]).length rc]) ((e.ws.map wF).take (i + 1)) * pt d (.cells #[.slice ra (wF e.ws[i]).length rc] 31 (0, 0)) * own 31 1 lv i vs) w3 := s3.to (by
      rw [List.take_succ_eq_append_getElem hil, bss_snoc _ _ _ _ (by rw [List.length_take]; simp; omega), hge]; simp only [byA]; ac_rfl)
    refine eff_app (m := 1) (news := [.slice ra (wF e.ws[i]).length rc]) s3 rfl (by simpa using s3.swap.cells_look) (by simp [Value.oneCell']) (by decide) rfl (by unfold maxLen; omega) (by omega) fun v5 w5 s5 => ?_
    simp
    try simp (disch := omega) only [wrap64]
    exact hN _ _ ⟨i + 1, v5, _, vs ++ [.slice ra (wF e.ws[i]).length rc], by simp; rfl, by omega, by simp [hvs], s5.swap.drop.swap⟩ (by simp [slotN]; omega)
  · simp at c
    simp
    refine hX _ _ _ ?_
    obtain rfl : i = e.ws.length := by omega
    have ht : (e.ws.map wF).take e.ws.length = e.ws.map wF := by rw [List.take_of_length_le]; simp
    rw [ht] at t1
    have hll : (listL (e.ws.map wF)).length ≤ 35184372088832 := by
      have := listL_bd (m := 10) (L := e.ws.map wF) (fun x hx => by
        obtain ⟨y, _, rfl⟩ := List.mem_map.1 hx
        exact (shortL_len _).2)
      simp at this
      omega
    have s2 : St w0 (D * own 31 1 lv (e.ws.map wF).length vs * bss vs (e.ws.map wF) * wrA 52 p (entW0 e)) w' := t1.to (by rw [List.length_map]; ac_rfl)
    simp
    refine eff_call ((rWList_spec p (entW0 e) 5 vs (e.ws.map wF) lv w0 w' (D * own 31 1 lv (e.ws.map wF).length vs) (entW0_ok e) (by simp [hvs]) (by simp; omega) hll (row_own s2.drop.drop) s2).mono fun _ w5 s5 => ?_)
    simp
    exact out (s5.cut (own 31 1 lv (e.ws.map wF).length vs * bss vs (e.ws.map wF)) (B := D * wrA 52 p (entW e)) (by simp only [entW]; ac_rfl))
end Go.HL.Sr

namespace Go.HL.Sr
open Go.HL Go.HL.Tl Go.Proofs
set_option maxRecDepth 4000
set_option linter.unusedSimpArgs false
set_option linter.unusedVariables false
structure PC where
  num : Int
  kind : Int
  by' : Int
  dead : Int
  to' : Int
  want : Int
  price : Int
  res : Int
  step : Int
  of' : Int
  es : List PE
structure PC.ok (c : PC) : Prop where
  price : 0 ≤ c.price ∧ c.price < 18446744073709551616
  res : 0 ≤ c.res ∧ c.res < 18446744073709551616
  step : 0 ≤ c.step ∧ c.step < 18446744073709551616
  len : c.es.length ≤ 1048576
  each : ∀ e ∈ c.es, e.ok
def PC.cs (c : PC) (v : Value) : List Value := [.int .i64 c.num, .int .i64 c.kind, .int .i64 c.by', .int .i64 c.dead, .int .i64 c.to', .int .i64 c.want, .int .u64 c.price, .int .u64 c.res, .int .u64 c.step, .int .i64 c.of', v]
def eflat (x : List (PE × Value)) : List Value := x.flatMap fun y => y.1.cs y.2
theorem eflat_at {x : List (PE × Value)} {i : Nat} (h : i < x.length) : ∀ j u, (x[i].1.cs x[i].2)[j]? = some u → (eflat x)[i * 5 + j]? = some u := by
  intro j u hu
  have hj : j < 5 := (List.getElem?_eq_some_iff.1 hu).1
  unfold eflat
  rw [flat_get (fun y : PE × Value => y.1.cs y.2) 5 (fun _ => rfl) x i j h hj]
  exact hu
structure CV (w0 : World) (A : Asn) (cv : Value) (wvs : List Value) (es : List PE) : Prop where
  len : wvs.length = es.length
  row : Row w0 A cv es.length 5 (eflat (es.zip wvs))
  each : ∀ i (h1 : i < wvs.length) (h2 : i < es.length), WR w0 A wvs[i] es[i].ws
theorem CV.mono {w0 : World} {A B : Asn} {cv : Value} {wvs : List Value} {es : List PE} (h : CV w0 A cv wvs es) (hs : ∀ w, St w0 B w → St w0 A w) : CV w0 B cv wvs es := ⟨h.len, h.row.mono hs, fun i h1 h2 => (h.each i h1 h2).mono hs⟩
def conW0 (c : PC) : Wr := putN (numW (numW (numW (putN Wr.new 1 [c.num, c.kind, c.by', c.dead, c.to', c.want]) 7 c.price) 8 c.res) 9 c.step) 10 [c.of']
def conW (c : PC) : Wr := putF (conW0 c) 11 (listL (c.es.map fun e => (entW e).b))
theorem conW0_ok (c : PC) : (conW0 c).ok := putN_ok _ _ (num_ok (num_ok (num_ok (putN_ok _ _ Wr.new_ok) _ _) _ _) _ _)
theorem conW_ok (c : PC) : (conW c).ok := put_ok (conW0_ok c) _ _
def conOK (c : PC) : Prop := ∀ e ∈ c.es, (entW e).e = 0
instance (c : PC) : Decidable (conOK c) := inferInstanceAs (Decidable (∀ e ∈ c.es, (entW e).e = 0))

def h26_0 : HC := (.seq (.reg (.done [(2, (.inp 4)), (3, (.cst (.bool true)))] none)) .ret)
@[simp] theorem h26_0_wp : type_of% (@wpH h26_0 _ h26_0.eq_1) := wpH h26_0.eq_1
def h26_1 : HC := (.seq (.reg (.eff (.call 60) (.cons (.inp 4) (.cons (.cst (.int .i64 11)) (.cons (.inp 5) .nil))) (.done [] none))) h26_0)
@[simp] theorem h26_1_wp : type_of% (@wpH h26_1 _ h26_1.eq_1) := wpH h26_1.eq_1
def h26_2 : HC := (.reg (.chk none (.bin .add) (.cons (.inp 11) (.cons (.cst (.int .i64 1)) .nil)) (.done [(11, (.op (.bin .add) (.cons (.inp 11) (.cons (.cst (.int .i64 1)) .nil))))] none)))
@[simp] theorem h26_2_wp : type_of% (@wpH h26_2 _ h26_2.eq_1) := wpH h26_2.eq_1
def h26_3 : HC := (.reg (.eff (.bsl 31 1 1 #[(.slice none 0 0)] [0]) (.cons (.inp 7) .nil) (.eff (.app 90 90 31 1 24 (.slice none 0 0)) (.cons (.inp 5) (.cons (.bv 0) .nil)) (.done [(5, (.bv 1))] none))))
@[simp] theorem h26_3_wp : type_of% (@wpH h26_3 _ h26_3.eq_1) := wpH h26_3.eq_1
def h26_4 : HC := (.seq (.reg (.done [(2, (.cst (.pointer none))), (3, (.cst (.bool false)))] none)) .ret)
@[simp] theorem h26_4_wp : type_of% (@wpH h26_4 _ h26_4.eq_1) := wpH h26_4.eq_1
def h26_5 : HC := (.seq (.br (.chk none (.bin .neq) (.cons (.inp 8) (.cons (.cst (.int .i64 0)) .nil)) (.done [] (some (.op (.bin .neq) (.cons (.inp 8) (.cons (.cst (.int .i64 0)) .nil)))))) h26_4 .skip) h26_3)
@[simp] theorem h26_5_wp : type_of% (@wpH h26_5 _ h26_5.eq_1) := wpH h26_5.eq_1
def h26_6 : HC := (.seq (.reg (.eff (.ld true 5) (.cons (.inp 6) .nil) (.eff (.call 31) (.cons (.bv 0) .nil) (.eff (.call 32) (.cons (.bv 1) .nil) (.chk none (.ext 0) (.cons (.bv 2) .nil) (.chk none (.ext 1) (.cons (.bv 2) .nil) (.done [(7, (.op (.ext 0) (.cons (.bv 2) .nil))), (8, (.op (.ext 1) (.cons (.bv 2) .nil)))] none))))))) h26_5)
@[simp] theorem h26_6_wp : type_of% (@wpH h26_6 _ h26_6.eq_1) := wpH h26_6.eq_1
def h26_7 : HC := (.seq (.reg (.chk none (.idxL 5) (.cons (.inp 9) (.cons (.inp 11) .nil)) (.eff (.ld true 5) (.cons (.op (.idxL 5) (.cons (.inp 9) (.cons (.inp 11) .nil))) .nil) (.eff (.new 25 (.agg #[(.int .i64 0), (.int .i64 0), (.int .u64 0), (.int .u64 0), (.slice none 0 0)])) .nil (.eff (.st 5) (.cons (.bv 1) (.cons (.bv 0) .nil)) (.done [(6, (.bv 1))] none)))))) h26_6)
@[simp] theorem h26_7_wp : type_of% (@wpH h26_7 _ h26_7.eq_1) := wpH h26_7.eq_1
def h26_8 : HC := (.seq (.block 1 h26_7) h26_2)
@[simp] theorem h26_8_wp : type_of% (@wpH h26_8 _ h26_8.eq_1) := wpH h26_8.eq_1
def h26_9 : HC := (.seq (.br (.chk none (.bin .lss) (.cons (.inp 11) (.cons (.inp 10) .nil)) (.done [] (some (.op (.bin .lss) (.cons (.inp 11) (.cons (.inp 10) .nil)))))) .skip (.exit 0)) h26_8)
@[simp] theorem h26_9_wp : type_of% (@wpH h26_9 _ h26_9.eq_1) := wpH h26_9.eq_1
def h26_10 : HC := (.loop h26_9)
@[simp] theorem h26_10_wp : type_of% (@wpH h26_10 _ h26_10.eq_1) := wpH h26_10.eq_1
def h26_11 : HC := (.seq (.block 0 h26_10) h26_1)
@[simp] theorem h26_11_wp : type_of% (@wpH h26_11 _ h26_11.eq_1) := wpH h26_11.eq_1
def h26_12 : HC := (.seq (.reg (.chk none (.fld 10) (.cons (.inp 1) .nil) (.eff (.ld false 1) (.cons (.op (.fld 10) (.cons (.inp 1) .nil)) .nil) (.chk none .lenL (.cons (.bv 0) .nil) (.done [(9, (.bv 0)), (10, (.op .lenL (.cons (.bv 0) .nil))), (11, (.cst (.int .i64 0)))] none))))) h26_11)
@[simp] theorem h26_12_wp : type_of% (@wpH h26_12 _ h26_12.eq_1) := wpH h26_12.eq_1
def h26_13 : HC := (.seq (.reg (.done [(5, (.cst (.slice none 0 0)))] none)) h26_12)
@[simp] theorem h26_13_wp : type_of% (@wpH h26_13 _ h26_13.eq_1) := wpH h26_13.eq_1
def h26_14 : HC := (.seq (.reg (.chk none (.fld 9) (.cons (.inp 1) .nil) (.eff (.ld false 1) (.cons (.op (.fld 9) (.cons (.inp 1) .nil)) .nil) (.eff (.bsl 3 1 1 #[(.int .i64 0)] [0]) (.cons (.bv 0) .nil) (.eff (.call 27) (.cons (.inp 4) (.cons (.cst (.int .i64 10)) (.cons (.bv 1) .nil))) (.done [] none)))))) h26_13)
@[simp] theorem h26_14_wp : type_of% (@wpH h26_14 _ h26_14.eq_1) := wpH h26_14.eq_1
def h26_15 : HC := (.seq (.reg (.chk none (.fld 8) (.cons (.inp 1) .nil) (.eff (.ld false 1) (.cons (.op (.fld 8) (.cons (.inp 1) .nil)) .nil) (.eff (.call 29) (.cons (.inp 4) (.cons (.cst (.int .i64 9)) (.cons (.bv 0) .nil))) (.done [] none))))) h26_14)
@[simp] theorem h26_15_wp : type_of% (@wpH h26_15 _ h26_15.eq_1) := wpH h26_15.eq_1
def h26_16 : HC := (.seq (.reg (.chk none (.fld 7) (.cons (.inp 1) .nil) (.eff (.ld false 1) (.cons (.op (.fld 7) (.cons (.inp 1) .nil)) .nil) (.eff (.call 29) (.cons (.inp 4) (.cons (.cst (.int .i64 8)) (.cons (.bv 0) .nil))) (.done [] none))))) h26_15)
@[simp] theorem h26_16_wp : type_of% (@wpH h26_16 _ h26_16.eq_1) := wpH h26_16.eq_1
def h26_17 : HC := (.seq (.reg (.chk none (.fld 6) (.cons (.inp 1) .nil) (.eff (.ld false 1) (.cons (.op (.fld 6) (.cons (.inp 1) .nil)) .nil) (.eff (.call 29) (.cons (.inp 4) (.cons (.cst (.int .i64 7)) (.cons (.bv 0) .nil))) (.done [] none))))) h26_16)
@[simp] theorem h26_17_wp : type_of% (@wpH h26_17 _ h26_17.eq_1) := wpH h26_17.eq_1
def h26_18 : HC := (.seq (.reg (.chk none (.fld 0) (.cons (.inp 1) .nil) (.eff (.ld false 1) (.cons (.op (.fld 0) (.cons (.inp 1) .nil)) .nil) (.chk none (.fld 1) (.cons (.inp 1) .nil) (.eff (.ld false 1) (.cons (.op (.fld 1) (.cons (.inp 1) .nil)) .nil) (.chk none (.fld 2) (.cons (.inp 1) .nil) (.eff (.ld false 1) (.cons (.op (.fld 2) (.cons (.inp 1) .nil)) .nil) (.chk none (.fld 3) (.cons (.inp 1) .nil) (.eff (.ld false 1) (.cons (.op (.fld 3) (.cons (.inp 1) .nil)) .nil) (.chk none (.fld 4) (.cons (.inp 1) .nil) (.eff (.ld false 1) (.cons (.op (.fld 4) (.cons (.inp 1) .nil)) .nil) (.chk none (.fld 5) (.cons (.inp 1) .nil) (.eff (.ld false 1) (.cons (.op (.fld 5) (.cons (.inp 1) .nil)) .nil) (.eff (.bsl 3 6 1 #[(.int .i64 0)] [0, 1, 2, 3, 4, 5]) (.cons (.bv 0) (.cons (.bv 1) (.cons (.bv 2) (.cons (.bv 3) (.cons (.bv 4) (.cons (.bv 5) .nil)))))) (.eff (.call 27) (.cons (.inp 4) (.cons (.cst (.int .i64 1)) (.cons (.bv 6) .nil))) (.done [] none)))))))))))))))) h26_17)
@[simp] theorem h26_18_wp : type_of% (@wpH h26_18 _ h26_18.eq_1) := wpH h26_18.eq_1
def h26_19 : HC := (.seq (.reg (.chk none (.build #[(.slice none 0 0), (.int .i64 0), (.int .i64 0)] [(0, 1), (1, 1), (2, 1)] []) .nil (.eff (.box 64) (.cons (.op (.build #[(.slice none 0 0), (.int .i64 0), (.int .i64 0)] [(0, 1), (1, 1), (2, 1)] []) .nil) .nil) (.done [(4, (.bv 0))] none)))) h26_18)
@[simp] theorem h26_19_wp : type_of% (@wpH h26_19 _ h26_19.eq_1) := wpH h26_19.eq_1
def l26 : Lifted := ⟨[0, 1, 2, 3, 4, 5, 7, 8, 9, 45, 46, 47], 68, [.slot 2, .slot 3], (.seq (.reg (.eff (.box 28) (.cons (.inp 0) .nil) (.done [(1, (.bv 0)), (2, (.cst (.pointer none))), (3, (.cst (.bool false)))] none))) h26_19)⟩
theorem l26_ok : liftFn T0 26 400 = some l26 := by kernel_rfl

def h23_0 : HC := (.seq (.reg (.done [(2, (.inp 3))] none)) .ret)
@[simp] theorem h23_0_wp : type_of% (@wpH h23_0 _ h23_0.eq_1) := wpH h23_0.eq_1
def h23_1 : HC := (.seq (.reg (.eff (.call 58) (.cons (.inp 3) (.cons (.cst (.int .i64 11)) (.cons (.inp 4) .nil))) (.done [] none))) h23_0)
@[simp] theorem h23_1_wp : type_of% (@wpH h23_1 _ h23_1.eq_1) := wpH h23_1.eq_1
def h23_2 : HC := (.reg (.chk none (.bin .add) (.cons (.inp 5) (.cons (.cst (.int .i64 1)) .nil)) (.done [(5, (.op (.bin .add) (.cons (.inp 5) (.cons (.cst (.int .i64 1)) .nil))))] none)))
@[simp] theorem h23_2_wp : type_of% (@wpH h23_2 _ h23_2.eq_1) := wpH h23_2.eq_1
def h23_3 : HC := (.reg (.eff (.bsl 31 1 1 #[(.slice none 0 0)] [0]) (.cons (.inp 6) .nil) (.eff (.app 90 90 31 1 24 (.slice none 0 0)) (.cons (.inp 4) (.cons (.bv 0) .nil)) (.done [(4, (.bv 1))] none))))
@[simp] theorem h23_3_wp : type_of% (@wpH h23_3 _ h23_3.eq_1) := wpH h23_3.eq_1
def h23_4 : HC := (.reg (.chk none .chkp (.cons (.inp 3) .nil) (.chk none (.fld 2) (.cons (.op .chkp (.cons (.inp 3) .nil)) .nil) (.eff (.st 1) (.cons (.op (.fld 2) (.cons (.op .chkp (.cons (.inp 3) .nil)) .nil)) (.cons (.inp 7) .nil)) (.done [] none)))))
@[simp] theorem h23_4_wp : type_of% (@wpH h23_4 _ h23_4.eq_1) := wpH h23_4.eq_1
def h23_5 : HC := (.seq (.br (.chk none (.bin .neq) (.cons (.inp 7) (.cons (.cst (.int .i64 0)) .nil)) (.done [] (some (.op (.bin .neq) (.cons (.inp 7) (.cons (.cst (.int .i64 0)) .nil)))))) h23_4 .skip) h23_3)
@[simp] theorem h23_5_wp : type_of% (@wpH h23_5 _ h23_5.eq_1) := wpH h23_5.eq_1
def h23_6 : HC := (.seq (.reg (.chk none (.fld 10) (.cons (.inp 1) .nil) (.eff (.ld false 1) (.cons (.op (.fld 10) (.cons (.inp 1) .nil)) .nil) (.chk none (.idxL 5) (.cons (.bv 0) (.cons (.inp 5) .nil)) (.eff (.ld true 5) (.cons (.op (.idxL 5) (.cons (.bv 0) (.cons (.inp 5) .nil))) .nil) (.eff (.call 22) (.cons (.bv 1) .nil) (.eff (.call 24) (.cons (.bv 2) .nil) (.chk none (.ext 0) (.cons (.bv 3) .nil) (.chk none (.ext 1) (.cons (.bv 3) .nil) (.done [(6, (.op (.ext 0) (.cons (.bv 3) .nil))), (7, (.op (.ext 1) (.cons (.bv 3) .nil)))] none)))))))))) h23_5)
@[simp] theorem h23_6_wp : type_of% (@wpH h23_6 _ h23_6.eq_1) := wpH h23_6.eq_1
def h23_7 : HC := (.seq (.block 1 h23_6) h23_2)
@[simp] theorem h23_7_wp : type_of% (@wpH h23_7 _ h23_7.eq_1) := wpH h23_7.eq_1
def h23_8 : HC := (.seq (.br (.chk none (.fld 10) (.cons (.inp 1) .nil) (.eff (.ld false 1) (.cons (.op (.fld 10) (.cons (.inp 1) .nil)) .nil) (.chk none .lenL (.cons (.bv 0) .nil) (.chk none (.bin .lss) (.cons (.inp 5) (.cons (.op .lenL (.cons (.bv 0) .nil)) .nil)) (.done [] (some (.op (.bin .lss) (.cons (.inp 5) (.cons (.op .lenL (.cons (.bv 0) .nil)) .nil))))))))) .skip (.exit 0)) h23_7)
@[simp] theorem h23_8_wp : type_of% (@wpH h23_8 _ h23_8.eq_1) := wpH h23_8.eq_1
def h23_9 : HC := (.loop h23_8)
@[simp] theorem h23_9_wp : type_of% (@wpH h23_9 _ h23_9.eq_1) := wpH h23_9.eq_1
def h23_10 : HC := (.seq (.block 0 h23_9) h23_1)
@[simp] theorem h23_10_wp : type_of% (@wpH h23_10 _ h23_10.eq_1) := wpH h23_10.eq_1
def h23_11 : HC := (.seq (.reg (.done [(5, (.cst (.int .i64 0)))] none)) h23_10)
@[simp] theorem h23_11_wp : type_of% (@wpH h23_11 _ h23_11.eq_1) := wpH h23_11.eq_1
def h23_12 : HC := (.seq (.reg (.done [(4, (.cst (.slice none 0 0)))] none)) h23_11)
@[simp] theorem h23_12_wp : type_of% (@wpH h23_12 _ h23_12.eq_1) := wpH h23_12.eq_1
def h23_13 : HC := (.seq (.reg (.chk none (.fld 9) (.cons (.inp 1) .nil) (.eff (.ld false 1) (.cons (.op (.fld 9) (.cons (.inp 1) .nil)) .nil) (.eff (.call 18) (.cons (.inp 3) (.cons (.cst (.int .i64 10)) (.cons (.bv 0) .nil))) (.done [] none))))) h23_12)
@[simp] theorem h23_13_wp : type_of% (@wpH h23_13 _ h23_13.eq_1) := wpH h23_13.eq_1
def h23_14 : HC := (.seq (.reg (.chk none (.fld 8) (.cons (.inp 1) .nil) (.eff (.ld false 1) (.cons (.op (.fld 8) (.cons (.inp 1) .nil)) .nil) (.eff (.call 20) (.cons (.inp 3) (.cons (.cst (.int .i64 9)) (.cons (.bv 0) .nil))) (.done [] none))))) h23_13)
@[simp] theorem h23_14_wp : type_of% (@wpH h23_14 _ h23_14.eq_1) := wpH h23_14.eq_1
def h23_15 : HC := (.seq (.reg (.chk none (.fld 7) (.cons (.inp 1) .nil) (.eff (.ld false 1) (.cons (.op (.fld 7) (.cons (.inp 1) .nil)) .nil) (.eff (.call 20) (.cons (.inp 3) (.cons (.cst (.int .i64 8)) (.cons (.bv 0) .nil))) (.done [] none))))) h23_14)
@[simp] theorem h23_15_wp : type_of% (@wpH h23_15 _ h23_15.eq_1) := wpH h23_15.eq_1
def h23_16 : HC := (.seq (.reg (.chk none (.fld 6) (.cons (.inp 1) .nil) (.eff (.ld false 1) (.cons (.op (.fld 6) (.cons (.inp 1) .nil)) .nil) (.eff (.call 20) (.cons (.inp 3) (.cons (.cst (.int .i64 7)) (.cons (.bv 0) .nil))) (.done [] none))))) h23_15)
@[simp] theorem h23_16_wp : type_of% (@wpH h23_16 _ h23_16.eq_1) := wpH h23_16.eq_1
def h23_17 : HC := (.seq (.reg (.chk none (.fld 5) (.cons (.inp 1) .nil) (.eff (.ld false 1) (.cons (.op (.fld 5) (.cons (.inp 1) .nil)) .nil) (.eff (.call 18) (.cons (.inp 3) (.cons (.cst (.int .i64 6)) (.cons (.bv 0) .nil))) (.done [] none))))) h23_16)
@[simp] theorem h23_17_wp : type_of% (@wpH h23_17 _ h23_17.eq_1) := wpH h23_17.eq_1
def h23_18 : HC := (.seq (.reg (.chk none (.fld 4) (.cons (.inp 1) .nil) (.eff (.ld false 1) (.cons (.op (.fld 4) (.cons (.inp 1) .nil)) .nil) (.eff (.call 18) (.cons (.inp 3) (.cons (.cst (.int .i64 5)) (.cons (.bv 0) .nil))) (.done [] none))))) h23_17)
@[simp] theorem h23_18_wp : type_of% (@wpH h23_18 _ h23_18.eq_1) := wpH h23_18.eq_1
def h23_19 : HC := (.seq (.reg (.chk none (.fld 3) (.cons (.inp 1) .nil) (.eff (.ld false 1) (.cons (.op (.fld 3) (.cons (.inp 1) .nil)) .nil) (.eff (.call 18) (.cons (.inp 3) (.cons (.cst (.int .i64 4)) (.cons (.bv 0) .nil))) (.done [] none))))) h23_18)
@[simp] theorem h23_19_wp : type_of% (@wpH h23_19 _ h23_19.eq_1) := wpH h23_19.eq_1
def h23_20 : HC := (.seq (.reg (.chk none (.fld 2) (.cons (.inp 1) .nil) (.eff (.ld false 1) (.cons (.op (.fld 2) (.cons (.inp 1) .nil)) .nil) (.eff (.call 18) (.cons (.inp 3) (.cons (.cst (.int .i64 3)) (.cons (.bv 0) .nil))) (.done [] none))))) h23_19)
@[simp] theorem h23_20_wp : type_of% (@wpH h23_20 _ h23_20.eq_1) := wpH h23_20.eq_1
def h23_21 : HC := (.seq (.reg (.chk none (.fld 1) (.cons (.inp 1) .nil) (.eff (.ld false 1) (.cons (.op (.fld 1) (.cons (.inp 1) .nil)) .nil) (.eff (.call 18) (.cons (.inp 3) (.cons (.cst (.int .i64 2)) (.cons (.bv 0) .nil))) (.done [] none))))) h23_20)
@[simp] theorem h23_21_wp : type_of% (@wpH h23_21 _ h23_21.eq_1) := wpH h23_21.eq_1
def h23_22 : HC := (.seq (.reg (.chk none (.fld 0) (.cons (.inp 1) .nil) (.eff (.ld false 1) (.cons (.op (.fld 0) (.cons (.inp 1) .nil)) .nil) (.eff (.call 18) (.cons (.inp 3) (.cons (.cst (.int .i64 1)) (.cons (.bv 0) .nil))) (.done [] none))))) h23_21)
@[simp] theorem h23_22_wp : type_of% (@wpH h23_22 _ h23_22.eq_1) := wpH h23_22.eq_1
def h23_23 : HC := (.seq (.reg (.chk none (.build #[(.slice none 0 0), (.int .i64 0), (.int .i64 0)] [(0, 1), (1, 1), (2, 1)] []) .nil (.eff (.box 52) (.cons (.op (.build #[(.slice none 0 0), (.int .i64 0), (.int .i64 0)] [(0, 1), (1, 1), (2, 1)] []) .nil) .nil) (.done [(3, (.bv 0))] none)))) h23_22)
@[simp] theorem h23_23_wp : type_of% (@wpH h23_23 _ h23_23.eq_1) := wpH h23_23.eq_1
def l23 : Lifted := ⟨[0, 1, 2, 3, 4, 5, 6, 7], 81, [.slot 2], (.seq (.reg (.eff (.box 28) (.cons (.inp 0) .nil) (.done [(1, (.bv 0)), (2, (.cst (.pointer none)))] none))) h23_23)⟩
theorem l23_ok : liftFn T0 23 400 = some l23 := by kernel_rfl
set_option maxHeartbeats 1000000 in
theorem contract_spec (c : PC) (cv : Value) (wvs : List Value) (w0 w : World) (A : Asn) (hc : c.ok) (h : CV w0 A cv wvs c.es) (s : St w0 A w) :
    CallW Try.prog 26 [.agg (c.cs cv).toArray] (fun r w' => (conOK c ∧ ∃ p, r = .tuple #[.pointer (some ⟨p, 0, none⟩), .bool true] ∧ St w0 (A * wrA 64 p (conW c)) w') ∨ (¬ conOK c ∧ r = .tuple #[.pointer none, .bool false] ∧ St w0 A w')) w := by
  have hlen := hc.len
  have hwl := h.len
  obtain ⟨ca, cc, rfl⟩ := h.row.val
  refine callW_of_lift l26_ok (by simp [l26]) ?_
  simp [l26, Instr.fill, Value.cells]
  refine eff_box s fun b w1 s1 => ?_
  simp [Instr.fill, Value.cells]
  have s1 : St w0 (A * pt b (.cells (c.cs (.slice ca c.es.length cc)).toArray 28 (0, 0))) w1 := s1
  refine eff_box s1 fun p w2 s2 => ?_
  simp
  have s2 := new_writer s2
  obtain ⟨D, hD⟩ : ∃ D, A * pt b (.cells (c.cs (.slice ca c.es.length cc)).toArray 28 (0, 0)) = D := ⟨_, rfl⟩
  have hDA : ∀ w, St w0 D w → St w0 A w := fun w h => by rw [← hD] at h; exact h.drop
  have f : ∀ {Z : Asn} {w : World}, St w0 (D * Z) w → ∀ j u, (c.cs (.slice ca c.es.length cc))[j]? = some u → w.cell? ⟨b, j, none⟩ = some u := fun h j u hu => by
    have h := h.drop; rw [← hD] at h
    have := h.row_cells j u hu; simpa using this
  have out : ∀ {Z : Asn} {w : World}, St w0 (D * Z) w → St w0 (A * Z) w := fun h => by rw [← hD] at h; exact h.swap.drop
  rw [hD] at s2
  refine eff_ldc (v := .int .i64 c.num) (f s2 0 _ rfl) ?_
  simp
  refine eff_ldc (v := .int .i64 c.kind) (f s2 1 _ rfl) ?_
  simp
  refine eff_ldc (v := .int .i64 c.by') (f s2 2 _ rfl) ?_
  simp
  refine eff_ldc (v := .int .i64 c.dead) (f s2 3 _ rfl) ?_
  simp
  refine eff_ldc (v := .int .i64 c.to') (f s2 4 _ rfl) ?_
  simp
  refine eff_ldc (v := .int .i64 c.want) (f s2 5 _ rfl) ?_
  simp
  refine eff_bslO (vs := ints [c.num, c.kind, c.by', c.dead, c.to', c.want]) s2 (by simp [ints, Value.oneCell']) rfl rfl (by decide) fun sv w3 s3 => ?_
  simp
  have s3 : St w0 (D * own 3 1 sv 6 (ints [c.num, c.kind, c.by', c.dead, c.to', c.want]) * wrA 64 p Wr.new) w3 := s3.swap
  refine eff_call ((ints_spec p Wr.new 1 [c.num, c.kind, c.by', c.dead, c.to', c.want] sv w0 w3 _ (by decide) (by simp) Wr.new_ok (row_own s3.drop) s3).mono fun _ w4 s4 => ?_)
  simp
  have s4 := s4.swap.drop
  refine eff_ldc (v := .int .u64 c.price) (f s4 6 _ rfl) ?_
  simp
  have k4 := putN_ok [c.num, c.kind, c.by', c.dead, c.to', c.want] 1 Wr.new_ok
  refine eff_call ((Number_spec p _ 7 c.price w0 w4 D k4 hc.price s4).mono fun _ w5 s5 => ?_)
  simp
  refine eff_ldc (v := .int .u64 c.res) (f s5 7 _ rfl) ?_
  simp
  have k5 := num_ok k4 7 c.price
  refine eff_call ((Number_spec p _ 8 c.res w0 w5 D k5 hc.res s5).mono fun _ w6 s6 => ?_)
  simp
  refine eff_ldc (v := .int .u64 c.step) (f s6 8 _ rfl) ?_
  simp
  have k6 := num_ok k5 8 c.res
  refine eff_call ((Number_spec p _ 9 c.step w0 w6 D k6 hc.step s6).mono fun _ w7 s7 => ?_)
  simp
  refine eff_ldc (v := .int .i64 c.of') (f s7 9 _ rfl) ?_
  simp
  have k7 := num_ok k6 9 c.step
  refine eff_bslO (vs := ints [c.of']) s7 (by simp [ints, Value.oneCell']) rfl rfl (by decide) fun sv2 w8 s8 => ?_
  simp
  have s8 := s8.swap
  refine eff_call ((ints_spec p _ 10 [c.of'] sv2 w0 w8 _ (by decide) (by simp) k7 (row_own s8.drop) s8).mono fun _ w9 s9 => ?_)
  simp
  have t0 : St w0 (D * wrA 64 p (conW0 c)) w9 := s9.swap.drop
  refine eff_ldc (v := .slice ca c.es.length cc) (f t0 10 _ rfl) ?_
  simp
  refine loopI (fun env w' => ∃ (i : Nat) (lv o6 o7 o8 : Value) (vs : List Value), env = [.agg (c.cs (.slice ca c.es.length cc)).toArray, .pointer (some ⟨b, 0, none⟩), .pointer none, .bool false, .pointer (some ⟨p, 0, none⟩), lv, o6, o7, o8, .slice ca c.es.length cc, .int .i64 c.es.length, .int .i64 i] ∧ i ≤ c.es.length ∧ vs.length = i ∧ (∀ e ∈ c.es.take i, (entW e).e = 0) ∧
      St w0 (D * wrA 64 p (conW0 c) * own 31 1 lv i vs * bss vs ((c.es.map fun e => (entW e).b).take i)) w')
    (fun env _ => c.es.length - slotN env 11) ⟨0, _, _, _, _, [], rfl, by omega, rfl, by simp, ?_⟩ ?_
  · have h := t0.own_nil 31 1
    have e0 : bss ([] : List Value) ((c.es.map fun e => (entW e).b).take 0) = emp := rfl
    rw [e0, sep_emp]; exact h
  rintro LQ env w' ⟨i, lv, o6, o7, o8, vs, rfl, hi, hvs, hgood, t1⟩ hN hX hR
  simp
  refine cndI (fun c1 => ?_) (fun c1 => ?_)
  · simp at c1
    obtain ⟨g, o, cap', hv, hcell⟩ := h.row.at (by omega)
    cases hv
    have hiw : i < wvs.length := by omega
    have hiz : i < (c.es.zip wvs).length := by simp [hwl]; omega
    obtain ⟨e, he⟩ : ∃ e, c.es[i] = e := ⟨_, rfl⟩
    obtain ⟨wv, hwv⟩ : ∃ wv, wvs[i] = wv := ⟨_, rfl⟩
    have hz : (c.es.zip wvs)[i] = (e, wv) := by simp [he, hwv]
    have hwr := h.each i hiw c1
    rw [he, hwv] at hwr
    have heo := hc.each e (by rw [← he]; exact List.getElem_mem c1)
    obtain ⟨xa, xc, hxv⟩ := hwr.val
    have hone : wv.oneCell' = true := by rw [hxv]; rfl
    simp [c1]
    refine eff_ldcs (vs := e.cs wv) (fun j u hu => by
      rw [Nat.add_assoc]
      exact hcell w' (hDA _ t1.drop.drop.drop) _ _ (eflat_at hiz j u (by rw [hz]; exact hu))) rfl ?_
    simp
    refine eff_new t1 fun d w2 t2 => ?_
    simp
    refine eff_stA (vs := e.cs wv) t2 rfl rfl (pe_one e wv hone) (by simp) fun w3 t3 => ?_
    simp
    have t3 : St w0 (D * wrA 64 p (conW0 c) * own 31 1 lv i vs * bss vs ((c.es.map fun e => (entW e).b).take i) * pt d (.cells (e.cs wv).toArray 25 (0, 0))) w3 := by simpa [PE.cs] using t3
    refine eff_ldcs (vs := e.cs wv) t3.row_cells rfl ?_
    simp
    refine eff_call ((entry_spec e wv w0 w3 _ heo (hwr.mono fun w s => hDA _ s.drop.drop.drop.drop) t3).mono ?_)
    rintro _ w4 ⟨p2, rfl, t4⟩
    simp
    refine eff_call ((Form_spec p2 (entW e) w0 w4 _ (entW_ok e) t4).mono ?_)
    rintro _ w5 (⟨hbad, rfl, t5⟩ | ⟨hok, v, rfl, t5⟩)
    · simp [hbad]
      refine hR _ _ ?_
      simp
      refine ⟨fun hall => hbad (hall e (by rw [← he]; exact List.getElem_mem c1)), out (Z := emp) (by rw [sep_emp]; exact t5.drop.drop.drop.drop.drop) |>.drop⟩
    · obtain ⟨va, vc, rfl, _, _⟩ := t5.own_val
      simp
      refine eff_bsl1 t5 rfl fun d2 w6 t6 => ?_
      simp
      have hil : i < (c.es.map fun e => (entW e).b).length := by simpa using c1
      have hge : (c.es.map fun e => (entW e).b)[i] = (entW e).b := by simp [he]
      have t6 : St w0 (D * wrA 64 p (conW0 c) * bss (vs ++ [.slice va (entW e).b.length vc]) ((c.es.map fun e => (entW e).b).take (i + 1)) * pt d (.cells (e.cs wv).toArray 25 (0, 0)) * wrA 64 p2 (entW e) * pt d2 (.cells #[.slice va (entW e).b.length vc] 31 (0, 0)) * own 31 1 lv i vs) w6 := t6.to (by
        rw [List.take_succ_eq_append_getElem hil, bss_snoc _ _ _ _ (by rw [List.length_take]; simp; omega), hge]; simp only [byA]; ac_rfl)
      refine eff_app (m := 1) (news := [.slice va (entW e).b.length vc]) t6 rfl (by simpa using t6.swap.cells_look) (by simp [Value.oneCell']) (by decide) rfl (by unfold maxLen; omega) (by omega) fun v7 w7 t7 => ?_
      simp
      try simp (disch := omega) only [wrap64]
      refine hN _ _ ⟨i + 1, v7, _, _, _, vs ++ [.slice va (entW e).b.length vc], by simp; exact ⟨rfl, rfl, rfl⟩, by omega, by simp [hvs], ?_, ?_⟩ (by simp [slotN]; omega)
      · intro y hy
        rw [List.take_succ_eq_append_getElem c1] at hy
        rcases List.mem_append.1 hy with hy | hy
        · exact hgood y hy
        · have : y = e := by simpa [he] using hy
          rw [this]; exact hok
      · exact (t7.cut (pt d (.cells (e.cs wv).toArray 25 (0, 0)) * wrA 64 p2 (entW e) * pt d2 (.cells #[.slice va (entW e).b.length vc] 31 (0, 0))) (B := D * wrA 64 p (conW0 c) * own 31 1 v7 (i + 1) (vs ++ [.slice va (entW e).b.length vc]) * bss (vs ++ [.slice va (entW e).b.length vc]) ((c.es.map fun e => (entW e).b).take (i + 1))) (by ac_rfl))
  · simp at c1
    simp
    refine hX _ _ _ ?_
    obtain rfl : i = c.es.length := by omega
    have ht : (c.es.map fun e => (entW e).b).take c.es.length = c.es.map fun e => (entW e).b := by rw [List.take_of_length_le]; simp
    rw [ht] at t1
    rw [List.take_length] at hgood
    have hll : (listL (c.es.map fun e => (entW e).b)).length ≤ 35184372088832 := by
      have := listL_bd (m := 1048576) (L := c.es.map fun e => (entW e).b) (fun x hx => by
        obtain ⟨y, _, rfl⟩ := List.mem_map.1 hx
        exact (entW_ok y).len)
      simp at this
      omega
    have t2 : St w0 (D * own 31 1 lv (c.es.map fun e => (entW e).b).length vs * bss vs (c.es.map fun e => (entW e).b) * wrA 64 p (conW0 c)) w' := t1.to (by rw [List.length_map]; ac_rfl)
    simp
    refine eff_call ((WList_spec p (conW0 c) 11 vs (c.es.map fun e => (entW e).b) lv w0 w' (D * own 31 1 lv (c.es.map fun e => (entW e).b).length vs) (conW0_ok c) (by simp [hvs]) (by simp; omega) hll (row_own t2.drop.drop) t2).mono fun _ w5 s5 => ?_)
    simp
    exact ⟨hgood, out (s5.cut (own 31 1 lv (c.es.map fun e => (entW e).b).length vs * bss vs (c.es.map fun e => (entW e).b)) (B := D * wrA 64 p (conW c)) (by simp only [conW]; ac_rfl))⟩
end Go.HL.Sr

namespace Go.HL.Sr
open Go.HL Go.HL.Tl Go.Proofs
set_option maxRecDepth 4000
set_option linter.unusedSimpArgs false
set_option linter.unusedVariables false
def fF (e : PE) : List UInt8 := if (entW e).e = 0 then (entW e).b else []
theorem fF_len (e : PE) : (fF e).length ≤ 1048576 := by
  unfold fF; split
  · exact (entW_ok e).len
  · simp
def WS (c : PC) (i : Nat) (W : Wr) : Prop := W.ok ∧ (((∀ e ∈ c.es.take i, (entW e).e = 0) ∧ W = conW0 c) ∨ ((¬ ∀ e ∈ c.es.take i, (entW e).e = 0) ∧ W.e ≠ 0))
set_option maxHeartbeats 1000000 in
theorem rcontract_spec (c : PC) (cv : Value) (wvs : List Value) (w0 w : World) (A : Asn) (hc : c.ok) (h : CV w0 A cv wvs c.es) (s : St w0 A w) :
    CallW Try.prog 23 [.agg (c.cs cv).toArray] (fun r w' => ∃ p W, r = .pointer (some ⟨p, 0, none⟩) ∧ W.ok ∧ ((conOK c ∧ W = conW c) ∨ (¬ conOK c ∧ W.e ≠ 0)) ∧ St w0 (A * wrA 52 p W) w') w := by
  have hlen := hc.len
  have hwl := h.len
  obtain ⟨ca, cc, rfl⟩ := h.row.val
  refine callW_of_lift l23_ok (by simp [l23]) ?_
  simp [l23, Instr.fill, Value.cells]
  refine eff_box s fun b w1 s1 => ?_
  simp [Instr.fill, Value.cells]
  have s1 : St w0 (A * pt b (.cells (c.cs (.slice ca c.es.length cc)).toArray 28 (0, 0))) w1 := s1
  refine eff_box s1 fun p w2 s2 => ?_
  simp
  have s2 := new_writer s2
  obtain ⟨D, hD⟩ : ∃ D, A * pt b (.cells (c.cs (.slice ca c.es.length cc)).toArray 28 (0, 0)) = D := ⟨_, rfl⟩
  have hDA : ∀ w, St w0 D w → St w0 A w := fun w h => by rw [← hD] at h; exact h.drop
  have f : ∀ {Z : Asn} {w : World}, St w0 (D * Z) w → ∀ j u, (c.cs (.slice ca c.es.length cc))[j]? = some u → w.cell? ⟨b, j, none⟩ = some u := fun h j u hu => by
    have h := h.drop; rw [← hD] at h
    have := h.row_cells j u hu; simpa using this
  have out : ∀ {Z : Asn} {w : World}, St w0 (D * Z) w → St w0 (A * Z) w := fun h => by rw [← hD] at h; exact h.swap.drop
  rw [hD] at s2
  refine eff_ldc (v := .int .i64 c.num) (f s2 0 _ rfl) ?_
  simp
  have k0 := Wr.new_ok
  refine eff_call ((put_rspec p _ 1 c.num w0 w2 D k0 s2).mono fun _ w3 s3 => ?_)
  simp
  have k1 := num_ok k0 1 (toU c.num)
  refine eff_ldc (v := .int .i64 c.kind) (f s3 1 _ rfl) ?_
  simp
  refine eff_call ((put_rspec p _ 2 c.kind w0 w3 D k1 s3).mono fun _ w3 s3 => ?_)
  simp
  have k2 := num_ok k1 2 (toU c.kind)
  refine eff_ldc (v := .int .i64 c.by') (f s3 2 _ rfl) ?_
  simp
  refine eff_call ((put_rspec p _ 3 c.by' w0 w3 D k2 s3).mono fun _ w3 s3 => ?_)
  simp
  have k3 := num_ok k2 3 (toU c.by')
  refine eff_ldc (v := .int .i64 c.dead) (f s3 3 _ rfl) ?_
  simp
  refine eff_call ((put_rspec p _ 4 c.dead w0 w3 D k3 s3).mono fun _ w3 s3 => ?_)
  simp
  have k4 := num_ok k3 4 (toU c.dead)
  refine eff_ldc (v := .int .i64 c.to') (f s3 4 _ rfl) ?_
  simp
  refine eff_call ((put_rspec p _ 5 c.to' w0 w3 D k4 s3).mono fun _ w3 s3 => ?_)
  simp
  have k5 := num_ok k4 5 (toU c.to')
  refine eff_ldc (v := .int .i64 c.want) (f s3 5 _ rfl) ?_
  simp
  refine eff_call ((put_rspec p _ 6 c.want w0 w3 D k5 s3).mono fun _ w3 s3 => ?_)
  simp
  have k6 := num_ok k5 6 (toU c.want)
  refine eff_ldc (v := .int .u64 c.price) (f s3 6 _ rfl) ?_
  simp
  refine eff_call ((rNumber_spec p _ 7 c.price w0 w3 D k6 hc.price s3).mono fun _ w5 s5 => ?_)
  simp
  have k7 := num_ok k6 7 c.price
  refine eff_ldc (v := .int .u64 c.res) (f s5 7 _ rfl) ?_
  simp
  refine eff_call ((rNumber_spec p _ 8 c.res w0 w5 D k7 hc.res s5).mono fun _ w6 s6 => ?_)
  simp
  have k8 := num_ok k7 8 c.res
  refine eff_ldc (v := .int .u64 c.step) (f s6 8 _ rfl) ?_
  simp
  refine eff_call ((rNumber_spec p _ 9 c.step w0 w6 D k8 hc.step s6).mono fun _ w7 s7 => ?_)
  simp
  have k9 := num_ok k8 9 c.step
  refine eff_ldc (v := .int .i64 c.of') (f s7 9 _ rfl) ?_
  simp
  refine eff_call ((put_rspec p _ 10 c.of' w0 w7 D k9 s7).mono fun _ w8 s8 => ?_)
  simp
  have t0 : St w0 (D * wrA 52 p (conW0 c)) w8 := s8
  refine loopI (fun env w' => ∃ (i : Nat) (lv o6 o7 : Value) (vs : List Value) (W : Wr), env = [.agg (c.cs (.slice ca c.es.length cc)).toArray, .pointer (some ⟨b, 0, none⟩), .pointer none, .pointer (some ⟨p, 0, none⟩), lv, .int .i64 i, o6, o7] ∧ i ≤ c.es.length ∧ vs.length = i ∧ WS c i W ∧
      St w0 (D * wrA 52 p W * own 31 1 lv i vs * bss vs ((c.es.map fF).take i)) w')
    (fun env _ => c.es.length - slotN env 5) ⟨0, _, _, _, [], conW0 c, rfl, by omega, rfl, ⟨conW0_ok c, .inl ⟨by simp, rfl⟩⟩, ?_⟩ ?_
  · have h := t0.own_nil 31 1
    have e0 : bss ([] : List Value) ((c.es.map fF).take 0) = emp := rfl
    rw [e0, sep_emp]; exact h
  rintro LQ env w' ⟨i, lv, o6, o7, vs, W, rfl, hi, hvs, hWS, t1⟩ hN hX hR
  have fD : ∀ {w : World}, St w0 (D * wrA 52 p W * own 31 1 lv i vs * bss vs ((c.es.map fF).take i)) w → w.cell? ⟨b, 10, none⟩ = some (.slice ca c.es.length cc) := fun h => f (Z := wrA 52 p W * own 31 1 lv i vs * bss vs ((c.es.map fF).take i)) (h.to (by ac_rfl)) 10 _ rfl
  simp
  refine eff_ldc (v := .slice ca c.es.length cc) (fD t1) ?_
  simp
  refine cndI (fun c1 => ?_) (fun c1 => ?_)
  · simp at c1
    obtain ⟨g, o, cap', hv, hcell⟩ := h.row.at (by omega)
    cases hv
    have hiw : i < wvs.length := by omega
    have hiz : i < (c.es.zip wvs).length := by simp [hwl]; omega
    obtain ⟨e, he⟩ : ∃ e, c.es[i] = e := ⟨_, rfl⟩
    obtain ⟨wv, hwv⟩ : ∃ wv, wvs[i] = wv := ⟨_, rfl⟩
    have hz : (c.es.zip wvs)[i] = (e, wv) := by simp [he, hwv]
    have hwr := h.each i hiw c1
    rw [he, hwv] at hwr
    have heo := hc.each e (by rw [← he]; exact List.getElem_mem c1)
    have htake : c.es.take (i + 1) = c.es.take i ++ [e] := by rw [List.take_succ_eq_append_getElem c1, he]
    simp
    refine eff_ldc (v := .slice (some ⟨g, o, none⟩) c.es.length cc) (fD t1) ?_
    simp [c1]
    refine eff_ldcs (vs := e.cs wv) (fun j u hu => by
      rw [Nat.add_assoc]
      exact hcell w' (hDA _ t1.drop.drop.drop) _ _ (eflat_at hiz j u (by rw [hz]; exact hu))) rfl ?_
    simp
    refine eff_call ((rentry_spec e wv w0 w' _ heo (hwr.mono fun w s => hDA _ s.drop.drop.drop) t1).mono ?_)
    rintro _ w4 ⟨p2, rfl, t4⟩
    simp
    have hil : i < (c.es.map fF).length := by simpa using c1
    have hge : (c.es.map fF)[i] = fF e := by simp [he]
    have lay : ∀ (W' : Wr) (v : Value) (o6' o7' : Value) (Z : Asn) (w : World), v.oneCell' = true → WS c (i + 1) W' → St w0 (D * wrA 52 p W' * own 31 1 lv i vs * bss vs ((c.es.map fF).take i) * Z * byA v (fF e)) w →
        HC.wp T0 h23_3 (blockQ 1 (seqQ T0 h23_2 LQ)) [.agg (c.cs (.slice (some ⟨g, o, none⟩) c.es.length cc)).toArray, .pointer (some ⟨b, 0, none⟩), .pointer none, .pointer (some ⟨p, 0, none⟩), lv, .int .i64 i, v, o7'] w := fun W' v o6' o7' Z w hv hW' t5 => by
      simp
      refine eff_bsl1 t5 hv fun d2 w6 t6 => ?_
      simp
      have t6 : St w0 (D * wrA 52 p W' * bss (vs ++ [v]) ((c.es.map fF).take (i + 1)) * Z * pt d2 (.cells #[v] 31 (0, 0)) * own 31 1 lv i vs) w6 := t6.to (by
        rw [List.take_succ_eq_append_getElem hil, bss_snoc _ _ _ _ (by rw [List.length_take]; simp; omega), hge]; simp only [byA]; ac_rfl)
      refine eff_app (m := 1) (news := [v]) t6 rfl (by simpa using t6.swap.cells_look) (by simpa using hv) (by decide) rfl (by unfold maxLen; omega) (by omega) fun v7 w7 t7 => ?_
      simp
      try simp (disch := omega) only [wrap64]
      refine hN _ _ ⟨i + 1, v7, _, _, vs ++ [v], W', by simp; exact ⟨rfl, rfl⟩, by omega, by simp [hvs], hW', ?_⟩ (by simp [slotN]; omega)
      exact (t7.cut (Z * pt d2 (.cells #[v] 31 (0, 0))) (B := D * wrA 52 p W' * own 31 1 v7 (i + 1) (vs ++ [v]) * bss (vs ++ [v]) ((c.es.map fF).take (i + 1))) (by ac_rfl))
    refine eff_call ((rForm_spec p2 (entW e) w0 w4 _ (entW_ok e) t4).mono ?_)
    rintro _ w5 (⟨hbad, rfl, t5⟩ | ⟨hok, v, rfl, t5⟩)
    · simp [hbad]
      have t6 : St w0 (D * own 31 1 lv i vs * bss vs ((c.es.map fF).take i) * wrA 52 p2 (entW e) * wrA 52 p W) w5 := t5.to (by ac_rfl)
      obtain ⟨vb, t7⟩ := wopen t6
      refine eff_st1 t7.swap rfl (by simp) fun w7 t8 => ?_
      simp at t8
      have t9 := wclose' (W := { W with e := (entW e).e }) t8
      have hf : fF e = [] := by unfold fF; rw [if_neg hbad]
      have := lay { W with e := (entW e).e } (.slice none 0 0) undef (.int .i64 (entW e).e) (wrA 52 p2 (entW e)) w7 rfl ⟨⟨hWS.1.last, hWS.1.len⟩, .inr ⟨fun hall => hbad (hall e (by rw [htake]; simp)), hbad⟩⟩ (by rw [hf]; exact byA_nil (t9.to (by ac_rfl)))
      simpa using this
    · obtain ⟨va, vc, rfl, _, _⟩ := t5.own_val
      simp
      have hf : fF e = (entW e).b := by unfold fF; rw [if_pos hok]
      have hW' : WS c (i + 1) W := by
        refine ⟨hWS.1, ?_⟩
        rcases hWS.2 with ⟨h1, h2⟩ | ⟨h1, h2⟩
        · refine .inl ⟨fun y hy => ?_, h2⟩
          rw [htake] at hy
          rcases List.mem_append.1 hy with hy | hy
          · exact h1 y hy
          · have : y = e := by simpa using hy
            rw [this]; exact hok
        · exact .inr ⟨fun hall => h1 fun y hy => hall y (by rw [htake]; exact List.mem_append_left _ hy), h2⟩
      have := lay W (.slice va (entW e).b.length vc) undef (.int .i64 0) (wrA 52 p2 (entW e)) w5 rfl hW' (by rw [hf]; exact t5)
      simpa using this
  · simp at c1
    simp
    refine hX _ _ _ ?_
    obtain rfl : i = c.es.length := by omega
    have ht : (c.es.map fF).take c.es.length = c.es.map fF := by rw [List.take_of_length_le]; simp
    rw [ht] at t1
    have hll : (listL (c.es.map fF)).length ≤ 35184372088832 := by
      have := listL_bd (m := 1048576) (L := c.es.map fF) (fun x hx => by
        obtain ⟨y, _, rfl⟩ := List.mem_map.1 hx
        exact fF_len y)
      simp at this
      omega
    have t2 : St w0 (D * own 31 1 lv (c.es.map fF).length vs * bss vs (c.es.map fF) * wrA 52 p W) w' := t1.to (by rw [List.length_map]; ac_rfl)
    simp
    refine eff_call ((rWList_spec p W 11 vs (c.es.map fF) lv w0 w' (D * own 31 1 lv (c.es.map fF).length vs) hWS.1 (by simp [hvs]) (by simp; omega) hll (row_own t2.drop.drop) t2).mono fun _ w5 s5 => ?_)
    simp
    refine ⟨putF W 11 (listL (c.es.map fF)), put_ok hWS.1 _ _, ?_, out (s5.cut (own 31 1 lv (c.es.map fF).length vs * bss vs (c.es.map fF)) (B := D * wrA 52 p (putF W 11 (listL (c.es.map fF)))) (by ac_rfl))⟩
    rcases hWS.2 with ⟨h1, h2⟩ | ⟨h1, h2⟩
    · rw [List.take_length] at h1
      refine .inl ⟨h1, ?_⟩
      have : c.es.map fF = c.es.map fun e => (entW e).b := List.map_congr_left fun y hy => by unfold fF; rw [if_pos (h1 y hy)]
      rw [this, h2]; rfl
    · rw [List.take_length] at h1
      refine .inr ⟨h1, ?_⟩
      have : putF W 11 (listL (c.es.map fF)) = W := by unfold putF; rw [if_pos (.inl h2)]
      rw [this]; exact h2
end Go.HL.Sr

namespace Go.HL.Sr
open Go.HL Go.HL.Tl Go.Proofs
set_option maxRecDepth 4000
set_option linter.unusedSimpArgs false
set_option linter.unusedVariables false
def noneP (e : PE) : Prop := e.acc = 0 ∧ e.item = 0 ∧ e.coins = 0 ∧ e.price = 0 ∧ e.ws.length = 0
instance (e : PE) : Decidable (noneP e) := inferInstanceAs (Decidable (_ ∧ _))
def emptyP (c : PC) : Prop := c.kind = 0 ∧ c.by' = 0 ∧ c.dead = 0 ∧ c.to' = 0 ∧ c.want = 0 ∧ c.price = 0 ∧ c.res = 0 ∧ c.step = 0 ∧ c.of' = 0 ∧ c.es.length = 0
instance (c : PC) : Decidable (emptyP c) := inferInstanceAs (Decidable (_ ∧ _))

def r59_0 : RT := (.chk none (.bin .eql) (.cons (.bv 2) (.cons (.cst (.int .i64 0)) .nil)) (.isb none (.bv 1) (.bnd (.op (.bin .eql) (.cons (.bv 2) (.cons (.cst (.int .i64 0)) .nil))) (.chk (some ((.bv 3), true)) (.fld 2) (.cons (.inp 1) .nil) (.ite (.bv 3) true (.eff (.ld false 1) (.cons (.ite (.bv 3) true (.op (.fld 2) (.cons (.inp 1) .nil)) (.cst (.tuple #[]))) .nil) (.chk none (.bin .eql) (.cons (.bv 4) (.cons (.cst (.int .u64 0)) .nil)) (.isb none (.bv 3) (.bnd (.op (.bin .eql) (.cons (.bv 4) (.cons (.cst (.int .u64 0)) .nil))) (.chk (some ((.bv 5), true)) (.fld 3) (.cons (.inp 1) .nil) (.ite (.bv 5) true (.eff (.ld false 1) (.cons (.ite (.bv 5) true (.op (.fld 3) (.cons (.inp 1) .nil)) (.cst (.tuple #[]))) .nil) (.chk none (.bin .eql) (.cons (.bv 6) (.cons (.cst (.int .u64 0)) .nil)) (.isb none (.bv 5) (.bnd (.op (.bin .eql) (.cons (.bv 6) (.cons (.cst (.int .u64 0)) .nil))) (.chk (some ((.bv 7), true)) (.fld 4) (.cons (.inp 1) .nil) (.ite (.bv 7) true (.eff (.ld false 1) (.cons (.ite (.bv 7) true (.op (.fld 4) (.cons (.inp 1) .nil)) (.cst (.tuple #[]))) .nil) (.chk none .lenL (.cons (.bv 8) .nil) (.chk none (.bin .eql) (.cons (.op .lenL (.cons (.bv 8) .nil)) (.cons (.cst (.int .i64 0)) .nil)) (.isb none (.bv 7) (.done [(2, (.op (.bin .eql) (.cons (.op .lenL (.cons (.bv 8) .nil)) (.cons (.cst (.int .i64 0)) .nil))))] none))))) (.isb none (.bv 7) (.done [(2, (.cst (.bool false)))] none)))))))) (.isb none (.bv 5) (.isb none (.cst (.bool false)) (.done [(2, (.cst (.bool false)))] none))))))))) (.isb none (.bv 3) (.isb none (.cst (.bool false)) (.isb none (.cst (.bool false)) (.done [(2, (.cst (.bool false)))] none)))))))))
@[simp] theorem r59_0_wp : type_of% (@wpR r59_0 _ r59_0.eq_1) := wpR r59_0.eq_1
@[simp] theorem r59_0_wpq : type_of% (@wpRq r59_0 _ r59_0.eq_1) := wpRq r59_0.eq_1
@[simp] theorem r59_0_wpm : type_of% (@wpRm r59_0 _ r59_0.eq_1) := wpRm r59_0.eq_1
def r59_1 : RT := (.eff (.ld false 1) (.cons (.ite (.bv 1) true (.op (.fld 1) (.cons (.inp 1) .nil)) (.cst (.tuple #[]))) .nil) r59_0)
@[simp] theorem r59_1_wp : type_of% (@wpR r59_1 _ r59_1.eq_1) := wpR r59_1.eq_1
@[simp] theorem r59_1_wpq : type_of% (@wpRq r59_1 _ r59_1.eq_1) := wpRq r59_1.eq_1
@[simp] theorem r59_1_wpm : type_of% (@wpRm r59_1 _ r59_1.eq_1) := wpRm r59_1.eq_1
def r59_2 : RT := (.chk none (.bin .eql) (.cons (.bv 0) (.cons (.cst (.int .i64 0)) .nil)) (.bnd (.op (.bin .eql) (.cons (.bv 0) (.cons (.cst (.int .i64 0)) .nil))) (.chk (some ((.bv 1), true)) (.fld 1) (.cons (.inp 1) .nil) (.ite (.bv 1) true r59_1 (.isb none (.bv 1) (.isb none (.cst (.bool false)) (.isb none (.cst (.bool false)) (.isb none (.cst (.bool false)) (.done [(2, (.cst (.bool false)))] none)))))))))
@[simp] theorem r59_2_wp : type_of% (@wpR r59_2 _ r59_2.eq_1) := wpR r59_2.eq_1
@[simp] theorem r59_2_wpq : type_of% (@wpRq r59_2 _ r59_2.eq_1) := wpRq r59_2.eq_1
@[simp] theorem r59_2_wpm : type_of% (@wpRm r59_2 _ r59_2.eq_1) := wpRm r59_2.eq_1
def h59_0 : HC := (.seq (.reg (.chk none (.fld 0) (.cons (.inp 1) .nil) (.eff (.ld false 1) (.cons (.op (.fld 0) (.cons (.inp 1) .nil)) .nil) r59_2))) .ret)
@[simp] theorem h59_0_wp : type_of% (@wpH h59_0 _ h59_0.eq_1) := wpH h59_0.eq_1
def l59 : Lifted := ⟨[0, 1, 2], 27, [.slot 2], (.seq (.reg (.eff (.box 25) (.cons (.inp 0) .nil) (.done [(1, (.bv 0)), (2, (.cst (.bool false)))] none))) h59_0)⟩
theorem l59_ok : liftFn T0 59 400 = some l59 := by kernel_rfl

def r53_0 : RT := (.chk none (.bin .eql) (.cons (.bv 2) (.cons (.cst (.int .i64 0)) .nil)) (.isb none (.bv 1) (.bnd (.op (.bin .eql) (.cons (.bv 2) (.cons (.cst (.int .i64 0)) .nil))) (.chk (some ((.bv 3), true)) (.fld 2) (.cons (.inp 1) .nil) (.ite (.bv 3) true (.eff (.ld false 1) (.cons (.ite (.bv 3) true (.op (.fld 2) (.cons (.inp 1) .nil)) (.cst (.tuple #[]))) .nil) (.chk none (.bin .eql) (.cons (.bv 4) (.cons (.cst (.int .u64 0)) .nil)) (.isb none (.bv 3) (.bnd (.op (.bin .eql) (.cons (.bv 4) (.cons (.cst (.int .u64 0)) .nil))) (.chk (some ((.bv 5), true)) (.fld 3) (.cons (.inp 1) .nil) (.ite (.bv 5) true (.eff (.ld false 1) (.cons (.ite (.bv 5) true (.op (.fld 3) (.cons (.inp 1) .nil)) (.cst (.tuple #[]))) .nil) (.chk none (.bin .eql) (.cons (.bv 6) (.cons (.cst (.int .u64 0)) .nil)) (.isb none (.bv 5) (.bnd (.op (.bin .eql) (.cons (.bv 6) (.cons (.cst (.int .u64 0)) .nil))) (.chk (some ((.bv 7), true)) (.fld 4) (.cons (.inp 1) .nil) (.ite (.bv 7) true (.eff (.ld false 1) (.cons (.ite (.bv 7) true (.op (.fld 4) (.cons (.inp 1) .nil)) (.cst (.tuple #[]))) .nil) (.chk none .lenL (.cons (.bv 8) .nil) (.chk none (.bin .eql) (.cons (.op .lenL (.cons (.bv 8) .nil)) (.cons (.cst (.int .i64 0)) .nil)) (.isb none (.bv 7) (.done [(2, (.op (.bin .eql) (.cons (.op .lenL (.cons (.bv 8) .nil)) (.cons (.cst (.int .i64 0)) .nil))))] none))))) (.isb none (.bv 7) (.done [(2, (.cst (.bool false)))] none)))))))) (.isb none (.bv 5) (.isb none (.cst (.bool false)) (.done [(2, (.cst (.bool false)))] none))))))))) (.isb none (.bv 3) (.isb none (.cst (.bool false)) (.isb none (.cst (.bool false)) (.done [(2, (.cst (.bool false)))] none)))))))))
@[simp] theorem r53_0_wp : type_of% (@wpR r53_0 _ r53_0.eq_1) := wpR r53_0.eq_1
@[simp] theorem r53_0_wpq : type_of% (@wpRq r53_0 _ r53_0.eq_1) := wpRq r53_0.eq_1
@[simp] theorem r53_0_wpm : type_of% (@wpRm r53_0 _ r53_0.eq_1) := wpRm r53_0.eq_1
def r53_1 : RT := (.eff (.ld false 1) (.cons (.ite (.bv 1) true (.op (.fld 1) (.cons (.inp 1) .nil)) (.cst (.tuple #[]))) .nil) r53_0)
@[simp] theorem r53_1_wp : type_of% (@wpR r53_1 _ r53_1.eq_1) := wpR r53_1.eq_1
@[simp] theorem r53_1_wpq : type_of% (@wpRq r53_1 _ r53_1.eq_1) := wpRq r53_1.eq_1
@[simp] theorem r53_1_wpm : type_of% (@wpRm r53_1 _ r53_1.eq_1) := wpRm r53_1.eq_1
def r53_2 : RT := (.chk none (.bin .eql) (.cons (.bv 0) (.cons (.cst (.int .i64 0)) .nil)) (.bnd (.op (.bin .eql) (.cons (.bv 0) (.cons (.cst (.int .i64 0)) .nil))) (.chk (some ((.bv 1), true)) (.fld 1) (.cons (.inp 1) .nil) (.ite (.bv 1) true r53_1 (.isb none (.bv 1) (.isb none (.cst (.bool false)) (.isb none (.cst (.bool false)) (.isb none (.cst (.bool false)) (.done [(2, (.cst (.bool false)))] none)))))))))
@[simp] theorem r53_2_wp : type_of% (@wpR r53_2 _ r53_2.eq_1) := wpR r53_2.eq_1
@[simp] theorem r53_2_wpq : type_of% (@wpRq r53_2 _ r53_2.eq_1) := wpRq r53_2.eq_1
@[simp] theorem r53_2_wpm : type_of% (@wpRm r53_2 _ r53_2.eq_1) := wpRm r53_2.eq_1
def h53_0 : HC := (.seq (.reg (.chk none (.fld 0) (.cons (.inp 1) .nil) (.eff (.ld false 1) (.cons (.op (.fld 0) (.cons (.inp 1) .nil)) .nil) r53_2))) .ret)
@[simp] theorem h53_0_wp : type_of% (@wpH h53_0 _ h53_0.eq_1) := wpH h53_0.eq_1
def l53 : Lifted := ⟨[0, 1, 2], 27, [.slot 2], (.seq (.reg (.eff (.box 25) (.cons (.inp 0) .nil) (.done [(1, (.bv 0)), (2, (.cst (.bool false)))] none))) h53_0)⟩
theorem l53_ok : liftFn T0 53 400 = some l53 := by kernel_rfl

def r54_0 : RT := (.chk none (.bin .eql) (.cons (.bv 14) (.cons (.cst (.int .u64 0)) .nil)) (.isb none (.bv 13) (.bnd (.op (.bin .eql) (.cons (.bv 14) (.cons (.cst (.int .u64 0)) .nil))) (.chk (some ((.bv 15), true)) (.fld 8) (.cons (.inp 1) .nil) (.ite (.bv 15) true (.eff (.ld false 1) (.cons (.ite (.bv 15) true (.op (.fld 8) (.cons (.inp 1) .nil)) (.cst (.tuple #[]))) .nil) (.chk none (.bin .eql) (.cons (.bv 16) (.cons (.cst (.int .u64 0)) .nil)) (.isb none (.bv 15) (.bnd (.op (.bin .eql) (.cons (.bv 16) (.cons (.cst (.int .u64 0)) .nil))) (.chk (some ((.bv 17), true)) (.fld 9) (.cons (.inp 1) .nil) (.ite (.bv 17) true (.eff (.ld false 1) (.cons (.ite (.bv 17) true (.op (.fld 9) (.cons (.inp 1) .nil)) (.cst (.tuple #[]))) .nil) (.chk none (.bin .eql) (.cons (.bv 18) (.cons (.cst (.int .i64 0)) .nil)) (.isb none (.bv 17) (.bnd (.op (.bin .eql) (.cons (.bv 18) (.cons (.cst (.int .i64 0)) .nil))) (.chk (some ((.bv 19), true)) (.fld 10) (.cons (.inp 1) .nil) (.ite (.bv 19) true (.eff (.ld false 1) (.cons (.ite (.bv 19) true (.op (.fld 10) (.cons (.inp 1) .nil)) (.cst (.tuple #[]))) .nil) (.chk none .lenL (.cons (.bv 20) .nil) (.chk none (.bin .eql) (.cons (.op .lenL (.cons (.bv 20) .nil)) (.cons (.cst (.int .i64 0)) .nil)) (.isb none (.bv 19) (.done [(2, (.op (.bin .eql) (.cons (.op .lenL (.cons (.bv 20) .nil)) (.cons (.cst (.int .i64 0)) .nil))))] none))))) (.isb none (.bv 19) (.done [(2, (.cst (.bool false)))] none)))))))) (.isb none (.bv 17) (.isb none (.cst (.bool false)) (.done [(2, (.cst (.bool false)))] none))))))))) (.isb none (.bv 15) (.isb none (.cst (.bool false)) (.isb none (.cst (.bool false)) (.done [(2, (.cst (.bool false)))] none)))))))))
@[simp] theorem r54_0_wp : type_of% (@wpR r54_0 _ r54_0.eq_1) := wpR r54_0.eq_1
@[simp] theorem r54_0_wpq : type_of% (@wpRq r54_0 _ r54_0.eq_1) := wpRq r54_0.eq_1
@[simp] theorem r54_0_wpm : type_of% (@wpRm r54_0 _ r54_0.eq_1) := wpRm r54_0.eq_1
def r54_1 : RT := (.eff (.ld false 1) (.cons (.ite (.bv 13) true (.op (.fld 7) (.cons (.inp 1) .nil)) (.cst (.tuple #[]))) .nil) r54_0)
@[simp] theorem r54_1_wp : type_of% (@wpR r54_1 _ r54_1.eq_1) := wpR r54_1.eq_1
@[simp] theorem r54_1_wpq : type_of% (@wpRq r54_1 _ r54_1.eq_1) := wpRq r54_1.eq_1
@[simp] theorem r54_1_wpm : type_of% (@wpRm r54_1 _ r54_1.eq_1) := wpRm r54_1.eq_1
def r54_2 : RT := (.chk none (.bin .eql) (.cons (.bv 12) (.cons (.cst (.int .u64 0)) .nil)) (.isb none (.bv 11) (.bnd (.op (.bin .eql) (.cons (.bv 12) (.cons (.cst (.int .u64 0)) .nil))) (.chk (some ((.bv 13), true)) (.fld 7) (.cons (.inp 1) .nil) (.ite (.bv 13) true r54_1 (.isb none (.bv 13) (.isb none (.cst (.bool false)) (.isb none (.cst (.bool false)) (.isb none (.cst (.bool false)) (.done [(2, (.cst (.bool false)))] none))))))))))
@[simp] theorem r54_2_wp : type_of% (@wpR r54_2 _ r54_2.eq_1) := wpR r54_2.eq_1
@[simp] theorem r54_2_wpq : type_of% (@wpRq r54_2 _ r54_2.eq_1) := wpRq r54_2.eq_1
@[simp] theorem r54_2_wpm : type_of% (@wpRm r54_2 _ r54_2.eq_1) := wpRm r54_2.eq_1
def r54_3 : RT := (.eff (.ld false 1) (.cons (.ite (.bv 11) true (.op (.fld 6) (.cons (.inp 1) .nil)) (.cst (.tuple #[]))) .nil) r54_2)
@[simp] theorem r54_3_wp : type_of% (@wpR r54_3 _ r54_3.eq_1) := wpR r54_3.eq_1
@[simp] theorem r54_3_wpq : type_of% (@wpRq r54_3 _ r54_3.eq_1) := wpRq r54_3.eq_1
@[simp] theorem r54_3_wpm : type_of% (@wpRm r54_3 _ r54_3.eq_1) := wpRm r54_3.eq_1
def r54_4 : RT := (.chk none (.bin .eql) (.cons (.bv 10) (.cons (.cst (.int .i64 0)) .nil)) (.isb none (.bv 9) (.bnd (.op (.bin .eql) (.cons (.bv 10) (.cons (.cst (.int .i64 0)) .nil))) (.chk (some ((.bv 11), true)) (.fld 6) (.cons (.inp 1) .nil) (.ite (.bv 11) true r54_3 (.isb none (.bv 11) (.isb none (.cst (.bool false)) (.isb none (.cst (.bool false)) (.isb none (.cst (.bool false)) (.isb none (.cst (.bool false)) (.done [(2, (.cst (.bool false)))] none)))))))))))
@[simp] theorem r54_4_wp : type_of% (@wpR r54_4 _ r54_4.eq_1) := wpR r54_4.eq_1
@[simp] theorem r54_4_wpq : type_of% (@wpRq r54_4 _ r54_4.eq_1) := wpRq r54_4.eq_1
@[simp] theorem r54_4_wpm : type_of% (@wpRm r54_4 _ r54_4.eq_1) := wpRm r54_4.eq_1
def r54_5 : RT := (.eff (.ld false 1) (.cons (.ite (.bv 9) true (.op (.fld 5) (.cons (.inp 1) .nil)) (.cst (.tuple #[]))) .nil) r54_4)
@[simp] theorem r54_5_wp : type_of% (@wpR r54_5 _ r54_5.eq_1) := wpR r54_5.eq_1
@[simp] theorem r54_5_wpq : type_of% (@wpRq r54_5 _ r54_5.eq_1) := wpRq r54_5.eq_1
@[simp] theorem r54_5_wpm : type_of% (@wpRm r54_5 _ r54_5.eq_1) := wpRm r54_5.eq_1
def r54_6 : RT := (.chk none (.bin .eql) (.cons (.bv 8) (.cons (.cst (.int .i64 0)) .nil)) (.isb none (.bv 7) (.bnd (.op (.bin .eql) (.cons (.bv 8) (.cons (.cst (.int .i64 0)) .nil))) (.chk (some ((.bv 9), true)) (.fld 5) (.cons (.inp 1) .nil) (.ite (.bv 9) true r54_5 (.isb none (.bv 9) (.isb none (.cst (.bool false)) (.isb none (.cst (.bool false)) (.isb none (.cst (.bool false)) (.isb none (.cst (.bool false)) (.isb none (.cst (.bool false)) (.done [(2, (.cst (.bool false)))] none))))))))))))
@[simp] theorem r54_6_wp : type_of% (@wpR r54_6 _ r54_6.eq_1) := wpR r54_6.eq_1
@[simp] theorem r54_6_wpq : type_of% (@wpRq r54_6 _ r54_6.eq_1) := wpRq r54_6.eq_1
@[simp] theorem r54_6_wpm : type_of% (@wpRm r54_6 _ r54_6.eq_1) := wpRm r54_6.eq_1
def r54_7 : RT := (.eff (.ld false 1) (.cons (.ite (.bv 7) true (.op (.fld 4) (.cons (.inp 1) .nil)) (.cst (.tuple #[]))) .nil) r54_6)
@[simp] theorem r54_7_wp : type_of% (@wpR r54_7 _ r54_7.eq_1) := wpR r54_7.eq_1
@[simp] theorem r54_7_wpq : type_of% (@wpRq r54_7 _ r54_7.eq_1) := wpRq r54_7.eq_1
@[simp] theorem r54_7_wpm : type_of% (@wpRm r54_7 _ r54_7.eq_1) := wpRm r54_7.eq_1
def r54_8 : RT := (.chk none (.bin .eql) (.cons (.bv 6) (.cons (.cst (.int .i64 0)) .nil)) (.isb none (.bv 5) (.bnd (.op (.bin .eql) (.cons (.bv 6) (.cons (.cst (.int .i64 0)) .nil))) (.chk (some ((.bv 7), true)) (.fld 4) (.cons (.inp 1) .nil) (.ite (.bv 7) true r54_7 (.isb none (.bv 7) (.isb none (.cst (.bool false)) (.isb none (.cst (.bool false)) (.isb none (.cst (.bool false)) (.isb none (.cst (.bool false)) (.isb none (.cst (.bool false)) (.isb none (.cst (.bool false)) (.done [(2, (.cst (.bool false)))] none)))))))))))))
@[simp] theorem r54_8_wp : type_of% (@wpR r54_8 _ r54_8.eq_1) := wpR r54_8.eq_1
@[simp] theorem r54_8_wpq : type_of% (@wpRq r54_8 _ r54_8.eq_1) := wpRq r54_8.eq_1
@[simp] theorem r54_8_wpm : type_of% (@wpRm r54_8 _ r54_8.eq_1) := wpRm r54_8.eq_1
def r54_9 : RT := (.eff (.ld false 1) (.cons (.ite (.bv 5) true (.op (.fld 3) (.cons (.inp 1) .nil)) (.cst (.tuple #[]))) .nil) r54_8)
@[simp] theorem r54_9_wp : type_of% (@wpR r54_9 _ r54_9.eq_1) := wpR r54_9.eq_1
@[simp] theorem r54_9_wpq : type_of% (@wpRq r54_9 _ r54_9.eq_1) := wpRq r54_9.eq_1
@[simp] theorem r54_9_wpm : type_of% (@wpRm r54_9 _ r54_9.eq_1) := wpRm r54_9.eq_1
def r54_10 : RT := (.chk none (.bin .eql) (.cons (.bv 4) (.cons (.cst (.int .i64 0)) .nil)) (.isb none (.bv 3) (.bnd (.op (.bin .eql) (.cons (.bv 4) (.cons (.cst (.int .i64 0)) .nil))) (.chk (some ((.bv 5), true)) (.fld 3) (.cons (.inp 1) .nil) (.ite (.bv 5) true r54_9 (.isb none (.bv 5) (.isb none (.cst (.bool false)) (.isb none (.cst (.bool false)) (.isb none (.cst (.bool false)) (.isb none (.cst (.bool false)) (.isb none (.cst (.bool false)) (.isb none (.cst (.bool false)) (.isb none (.cst (.bool false)) (.done [(2, (.cst (.bool false)))] none))))))))))))))
@[simp] theorem r54_10_wp : type_of% (@wpR r54_10 _ r54_10.eq_1) := wpR r54_10.eq_1
@[simp] theorem r54_10_wpq : type_of% (@wpRq r54_10 _ r54_10.eq_1) := wpRq r54_10.eq_1
@[simp] theorem r54_10_wpm : type_of% (@wpRm r54_10 _ r54_10.eq_1) := wpRm r54_10.eq_1
def r54_11 : RT := (.eff (.ld false 1) (.cons (.ite (.bv 3) true (.op (.fld 2) (.cons (.inp 1) .nil)) (.cst (.tuple #[]))) .nil) r54_10)
@[simp] theorem r54_11_wp : type_of% (@wpR r54_11 _ r54_11.eq_1) := wpR r54_11.eq_1
@[simp] theorem r54_11_wpq : type_of% (@wpRq r54_11 _ r54_11.eq_1) := wpRq r54_11.eq_1
@[simp] theorem r54_11_wpm : type_of% (@wpRm r54_11 _ r54_11.eq_1) := wpRm r54_11.eq_1
def r54_12 : RT := (.isb none (.bv 3) (.isb none (.cst (.bool false)) (.isb none (.cst (.bool false)) (.isb none (.cst (.bool false)) (.isb none (.cst (.bool false)) (.isb none (.cst (.bool false)) (.isb none (.cst (.bool false)) (.isb none (.cst (.bool false)) (.isb none (.cst (.bool false)) (.done [(2, (.cst (.bool false)))] none))))))))))
@[simp] theorem r54_12_wp : type_of% (@wpR r54_12 _ r54_12.eq_1) := wpR r54_12.eq_1
@[simp] theorem r54_12_wpq : type_of% (@wpRq r54_12 _ r54_12.eq_1) := wpRq r54_12.eq_1
@[simp] theorem r54_12_wpm : type_of% (@wpRm r54_12 _ r54_12.eq_1) := wpRm r54_12.eq_1
def r54_13 : RT := (.chk none (.bin .eql) (.cons (.bv 2) (.cons (.cst (.int .i64 0)) .nil)) (.isb none (.bv 1) (.bnd (.op (.bin .eql) (.cons (.bv 2) (.cons (.cst (.int .i64 0)) .nil))) (.chk (some ((.bv 3), true)) (.fld 2) (.cons (.inp 1) .nil) (.ite (.bv 3) true r54_11 r54_12)))))
@[simp] theorem r54_13_wp : type_of% (@wpR r54_13 _ r54_13.eq_1) := wpR r54_13.eq_1
@[simp] theorem r54_13_wpq : type_of% (@wpRq r54_13 _ r54_13.eq_1) := wpRq r54_13.eq_1
@[simp] theorem r54_13_wpm : type_of% (@wpRm r54_13 _ r54_13.eq_1) := wpRm r54_13.eq_1
def r54_14 : RT := (.eff (.ld false 1) (.cons (.ite (.bv 1) true (.op (.fld 1) (.cons (.inp 1) .nil)) (.cst (.tuple #[]))) .nil) r54_13)
@[simp] theorem r54_14_wp : type_of% (@wpR r54_14 _ r54_14.eq_1) := wpR r54_14.eq_1
@[simp] theorem r54_14_wpq : type_of% (@wpRq r54_14 _ r54_14.eq_1) := wpRq r54_14.eq_1
@[simp] theorem r54_14_wpm : type_of% (@wpRm r54_14 _ r54_14.eq_1) := wpRm r54_14.eq_1
def r54_15 : RT := (.isb none (.bv 1) (.isb none (.cst (.bool false)) (.isb none (.cst (.bool false)) (.isb none (.cst (.bool false)) (.isb none (.cst (.bool false)) (.isb none (.cst (.bool false)) (.isb none (.cst (.bool false)) (.isb none (.cst (.bool false)) (.isb none (.cst (.bool false)) (.isb none (.cst (.bool false)) (.done [(2, (.cst (.bool false)))] none)))))))))))
@[simp] theorem r54_15_wp : type_of% (@wpR r54_15 _ r54_15.eq_1) := wpR r54_15.eq_1
@[simp] theorem r54_15_wpq : type_of% (@wpRq r54_15 _ r54_15.eq_1) := wpRq r54_15.eq_1
@[simp] theorem r54_15_wpm : type_of% (@wpRm r54_15 _ r54_15.eq_1) := wpRm r54_15.eq_1
def r54_16 : RT := (.chk none (.bin .eql) (.cons (.bv 0) (.cons (.cst (.int .i64 0)) .nil)) (.bnd (.op (.bin .eql) (.cons (.bv 0) (.cons (.cst (.int .i64 0)) .nil))) (.chk (some ((.bv 1), true)) (.fld 1) (.cons (.inp 1) .nil) (.ite (.bv 1) true r54_14 r54_15))))
@[simp] theorem r54_16_wp : type_of% (@wpR r54_16 _ r54_16.eq_1) := wpR r54_16.eq_1
@[simp] theorem r54_16_wpq : type_of% (@wpRq r54_16 _ r54_16.eq_1) := wpRq r54_16.eq_1
@[simp] theorem r54_16_wpm : type_of% (@wpRm r54_16 _ r54_16.eq_1) := wpRm r54_16.eq_1
def h54_0 : HC := (.seq (.reg (.chk none (.fld 0) (.cons (.inp 1) .nil) (.eff (.ld false 1) (.cons (.op (.fld 0) (.cons (.inp 1) .nil)) .nil) r54_16))) .ret)
@[simp] theorem h54_0_wp : type_of% (@wpH h54_0 _ h54_0.eq_1) := wpH h54_0.eq_1
def l54 : Lifted := ⟨[0, 1, 2], 57, [.slot 2], (.seq (.reg (.eff (.box 28) (.cons (.inp 0) .nil) (.done [(1, (.bv 0)), (2, (.cst (.bool false)))] none))) h54_0)⟩
theorem l54_ok : liftFn T0 54 400 = some l54 := by kernel_rfl
theorem none_spec (e : PE) (v : Value) (w0 w : World) (A : Asn) (h : WR w0 A v e.ws) (s : St w0 A w) :
    CallW Try.prog 59 [.agg (e.cs v).toArray] (fun r w' => r = .bool (decide (noneP e)) ∧ St w0 A w') w := by
  obtain ⟨wa, wc, rfl⟩ := h.val
  refine callW_of_lift l59_ok (by simp [l59]) ?_
  simp -implicitDefEqProofs [l59, Instr.fill, Value.cells]
  refine eff_box s fun b w1 s1 => ?_
  simp -implicitDefEqProofs [Instr.fill, Value.cells]
  have s1 : St w0 (A * pt b (.cells (e.cs (.slice wa e.ws.length wc)).toArray 25 (0, 0))) w1 := s1
  have f : ∀ j u, (e.cs (.slice wa e.ws.length wc))[j]? = some u → w1.cell? ⟨b, j, none⟩ = some u := fun j u hu => by
    have := s1.row_cells j u hu; simpa using this
  refine eff_ldc (v := .int .i64 e.acc) (f 0 _ rfl) ?_
  by_cases c0 : e.acc = 0
  case neg => simp -implicitDefEqProofs [c0, noneP]; exact s1.drop
  simp -implicitDefEqProofs [c0]
  refine eff_ldc (v := .int .i64 e.item) (f 1 _ rfl) ?_
  by_cases c1 : e.item = 0
  case neg => simp -implicitDefEqProofs [c1, noneP]; exact s1.drop
  simp -implicitDefEqProofs [c1]
  refine eff_ldc (v := .int .u64 e.coins) (f 2 _ rfl) ?_
  by_cases c2 : e.coins = 0
  case neg => simp -implicitDefEqProofs [c2, noneP]; exact s1.drop
  simp -implicitDefEqProofs [c2]
  refine eff_ldc (v := .int .u64 e.price) (f 3 _ rfl) ?_
  by_cases c3 : e.price = 0
  case neg => simp -implicitDefEqProofs [c3, noneP]; exact s1.drop
  simp -implicitDefEqProofs [c3]
  refine eff_ldc (v := .slice wa e.ws.length wc) (f 4 _ rfl) ?_
  simp -implicitDefEqProofs [c0, c1, c2, c3, noneP]
  exact s1.drop
theorem rnone_spec (e : PE) (v : Value) (w0 w : World) (A : Asn) (h : WR w0 A v e.ws) (s : St w0 A w) :
    CallW Try.prog 53 [.agg (e.cs v).toArray] (fun r w' => r = .bool (decide (noneP e)) ∧ St w0 A w') w := by
  obtain ⟨wa, wc, rfl⟩ := h.val
  refine callW_of_lift l53_ok (by simp [l53]) ?_
  simp -implicitDefEqProofs [l53, Instr.fill, Value.cells]
  refine eff_box s fun b w1 s1 => ?_
  simp -implicitDefEqProofs [Instr.fill, Value.cells]
  have s1 : St w0 (A * pt b (.cells (e.cs (.slice wa e.ws.length wc)).toArray 25 (0, 0))) w1 := s1
  have f : ∀ j u, (e.cs (.slice wa e.ws.length wc))[j]? = some u → w1.cell? ⟨b, j, none⟩ = some u := fun j u hu => by
    have := s1.row_cells j u hu; simpa using this
  refine eff_ldc (v := .int .i64 e.acc) (f 0 _ rfl) ?_
  by_cases c0 : e.acc = 0
  case neg => simp -implicitDefEqProofs [c0, noneP]; exact s1.drop
  simp -implicitDefEqProofs [c0]
  refine eff_ldc (v := .int .i64 e.item) (f 1 _ rfl) ?_
  by_cases c1 : e.item = 0
  case neg => simp -implicitDefEqProofs [c1, noneP]; exact s1.drop
  simp -implicitDefEqProofs [c1]
  refine eff_ldc (v := .int .u64 e.coins) (f 2 _ rfl) ?_
  by_cases c2 : e.coins = 0
  case neg => simp -implicitDefEqProofs [c2, noneP]; exact s1.drop
  simp -implicitDefEqProofs [c2]
  refine eff_ldc (v := .int .u64 e.price) (f 3 _ rfl) ?_
  by_cases c3 : e.price = 0
  case neg => simp -implicitDefEqProofs [c3, noneP]; exact s1.drop
  simp -implicitDefEqProofs [c3]
  refine eff_ldc (v := .slice wa e.ws.length wc) (f 4 _ rfl) ?_
  simp -implicitDefEqProofs [c0, c1, c2, c3, noneP]
  exact s1.drop
theorem empty_spec (c : PC) (cv : Value) (wvs : List Value) (w0 w : World) (A : Asn) (h : CV w0 A cv wvs c.es) (s : St w0 A w) :
    CallW Try.prog 54 [.agg (c.cs cv).toArray] (fun r w' => r = .bool (decide (c.num = 0 ∧ emptyP c)) ∧ St w0 A w') w := by
  obtain ⟨ca, cc, rfl⟩ := h.row.val
  refine callW_of_lift l54_ok (by simp [l54]) ?_
  simp -implicitDefEqProofs [l54, Instr.fill, Value.cells]
  refine eff_box s fun b w1 s1 => ?_
  simp -implicitDefEqProofs [Instr.fill, Value.cells]
  have s1 : St w0 (A * pt b (.cells (c.cs (.slice ca c.es.length cc)).toArray 28 (0, 0))) w1 := s1
  have f : ∀ j u, (c.cs (.slice ca c.es.length cc))[j]? = some u → w1.cell? ⟨b, j, none⟩ = some u := fun j u hu => by
    have := s1.row_cells j u hu; simpa using this
  refine eff_ldc (v := .int .i64 c.num) (f 0 _ rfl) ?_
  by_cases c0 : c.num = 0
  case neg => simp -implicitDefEqProofs [c0, emptyP]; exact s1.drop
  simp -implicitDefEqProofs [c0]
  refine eff_ldc (v := .int .i64 c.kind) (f 1 _ rfl) ?_
  by_cases c1 : c.kind = 0
  case neg => simp -implicitDefEqProofs [c1, emptyP]; exact s1.drop
  simp -implicitDefEqProofs [c1]
  refine eff_ldc (v := .int .i64 c.by') (f 2 _ rfl) ?_
  by_cases c2 : c.by' = 0
  case neg => simp -implicitDefEqProofs [c2, emptyP]; exact s1.drop
  simp -implicitDefEqProofs [c2]
  refine eff_ldc (v := .int .i64 c.dead) (f 3 _ rfl) ?_
  by_cases c3 : c.dead = 0
  case neg => simp -implicitDefEqProofs [c3, emptyP]; exact s1.drop
  simp -implicitDefEqProofs [c3]
  refine eff_ldc (v := .int .i64 c.to') (f 4 _ rfl) ?_
  by_cases c4 : c.to' = 0
  case neg => simp -implicitDefEqProofs [c4, emptyP]; exact s1.drop
  simp -implicitDefEqProofs [c4]
  refine eff_ldc (v := .int .i64 c.want) (f 5 _ rfl) ?_
  by_cases c5 : c.want = 0
  case neg => simp -implicitDefEqProofs [c5, emptyP]; exact s1.drop
  simp -implicitDefEqProofs [c5]
  refine eff_ldc (v := .int .u64 c.price) (f 6 _ rfl) ?_
  by_cases c6 : c.price = 0
  case neg => simp -implicitDefEqProofs [c6, emptyP]; exact s1.drop
  simp -implicitDefEqProofs [c6]
  refine eff_ldc (v := .int .u64 c.res) (f 7 _ rfl) ?_
  by_cases c7 : c.res = 0
  case neg => simp -implicitDefEqProofs [c7, emptyP]; exact s1.drop
  simp -implicitDefEqProofs [c7]
  refine eff_ldc (v := .int .u64 c.step) (f 8 _ rfl) ?_
  by_cases c8 : c.step = 0
  case neg => simp -implicitDefEqProofs [c8, emptyP]; exact s1.drop
  simp -implicitDefEqProofs [c8]
  refine eff_ldc (v := .int .i64 c.of') (f 9 _ rfl) ?_
  by_cases c9 : c.of' = 0
  case neg => simp -implicitDefEqProofs [c9, emptyP]; exact s1.drop
  simp -implicitDefEqProofs [c9]
  refine eff_ldc (v := .slice ca c.es.length cc) (f 10 _ rfl) ?_
  simp -implicitDefEqProofs [c0, c1, c2, c3, c4, c5, c6, c7, c8, c9, emptyP]
  exact s1.drop
end Go.HL.Sr

namespace Go.HL.Sr
open Go.HL Go.HL.Tl Go.Proofs
set_option maxRecDepth 4000
set_option linter.unusedSimpArgs false
set_option linter.unusedVariables false
structure PR where
  kind : Int
  nm : List UInt8
  fr : Int
  to' : Int
  coins : Int
  item : Int
  num : Int
  en : PE
  co : PC
  ticks : Int
def PR.cs (r : PR) (ev cv : Value) : List Value := [.int .i64 r.kind, .string (Go.HL.mk r.nm), .int .i64 r.fr, .int .i64 r.to', .int .u64 r.coins, .int .i64 r.item, .int .i64 r.num,
  .int .i64 r.en.acc, .int .i64 r.en.item, .int .u64 r.en.coins, .int .u64 r.en.price, ev,
  .int .i64 r.co.num, .int .i64 r.co.kind, .int .i64 r.co.by', .int .i64 r.co.dead, .int .i64 r.co.to', .int .i64 r.co.want, .int .u64 r.co.price, .int .u64 r.co.res, .int .u64 r.co.step, .int .i64 r.co.of', cv, .int .i64 r.ticks]
def bareP (r : PR) : Prop := r.nm = [] ∧ r.fr = 0 ∧ r.to' = 0 ∧ r.coins = 0 ∧ r.item = 0 ∧ r.num = 0 ∧ noneP r.en ∧ r.ticks = 0
instance (r : PR) : Decidable (bareP r) := inferInstanceAs (Decidable (_ ∧ _))
def plainP (r : PR) : Prop := r.co.num = 0 ∧ (1 ≤ r.kind ∧ r.kind ≤ 10) ∧ (r.kind = 6 ∨ emptyP r.co) ∧ (r.kind = 1 ∨ r.nm = []) ∧ (r.kind = 4 ∨ r.kind = 5 ∨ r.kind = 8 ∨ r.fr = 0) ∧
  (r.kind = 2 ∨ r.kind = 3 ∨ r.kind = 4 ∨ r.kind = 5 ∨ r.to' = 0) ∧ (r.kind = 2 ∨ r.kind = 4 ∨ r.coins = 0) ∧ (r.kind = 5 ∨ r.item = 0) ∧
  (r.kind = 3 ∨ r.kind = 7 ∨ r.kind = 8 ∨ r.kind = 9 ∨ r.num = 0) ∧ (r.kind = 7 ∨ noneP r.en) ∧ (r.kind = 10 ∨ r.ticks = 0)
instance (r : PR) : Decidable (plainP r) := inferInstanceAs (Decidable (_ ∧ _))
def PE.zero : PE := ⟨0, 0, 0, 0, []⟩
def PC.zero : PC := ⟨0, 0, 0, 0, 0, 0, 0, 0, 0, 0, []⟩
theorem row_nil (w0 : World) (A : Asn) (size : Nat) : Row w0 A (.slice none 0 0) 0 size [] := ⟨by simp, none, 0, rfl, Nat.le_refl _, .inl rfl⟩

def r25_0 : RT := (.chk none (.bin .eql) (.cons (.bv 8) (.cons (.cst (.int .i64 0)) .nil)) (.isb none (.bv 7) (.bnd (.op (.bin .eql) (.cons (.bv 8) (.cons (.cst (.int .i64 0)) .nil))) (.chk (some ((.bv 9), true)) (.fld 6) (.cons (.inp 1) .nil) (.ite (.bv 9) true (.eff (.ld false 1) (.cons (.ite (.bv 9) true (.op (.fld 6) (.cons (.inp 1) .nil)) (.cst (.tuple #[]))) .nil) (.chk none (.bin .eql) (.cons (.bv 10) (.cons (.cst (.int .i64 0)) .nil)) (.isb none (.bv 9) (.bnd (.op (.bin .eql) (.cons (.bv 10) (.cons (.cst (.int .i64 0)) .nil))) (.chk (some ((.bv 11), true)) (.fld 7) (.cons (.inp 1) .nil) (.ite (.bv 11) true (.eff (.ld true 5) (.cons (.ite (.bv 11) true (.op (.fld 7) (.cons (.inp 1) .nil)) (.cst (.tuple #[]))) .nil) (.eff (.call 59) (.cons (.bv 12) .nil) (.isb none (.bv 11) (.chk (some ((.bv 13), true)) (.fld 23) (.cons (.inp 1) .nil) (.ite (.bv 13) true (.eff (.ld false 1) (.cons (.ite (.bv 13) true (.op (.fld 23) (.cons (.inp 1) .nil)) (.cst (.tuple #[]))) .nil) (.chk none (.bin .eql) (.cons (.bv 14) (.cons (.cst (.int .i64 0)) .nil)) (.isb none (.bv 13) (.done [(2, (.op (.bin .eql) (.cons (.bv 14) (.cons (.cst (.int .i64 0)) .nil))))] none)))) (.isb none (.bv 13) (.done [(2, (.cst (.bool false)))] none))))))) (.isb none (.bv 11) (.isb none (.cst (.bool false)) (.done [(2, (.cst (.bool false)))] none))))))))) (.isb none (.bv 9) (.isb none (.cst (.bool false)) (.isb none (.cst (.bool false)) (.done [(2, (.cst (.bool false)))] none)))))))))
@[simp] theorem r25_0_wp : type_of% (@wpR r25_0 _ r25_0.eq_1) := wpR r25_0.eq_1
@[simp] theorem r25_0_wpq : type_of% (@wpRq r25_0 _ r25_0.eq_1) := wpRq r25_0.eq_1
@[simp] theorem r25_0_wpm : type_of% (@wpRm r25_0 _ r25_0.eq_1) := wpRm r25_0.eq_1
def r25_1 : RT := (.eff (.ld false 1) (.cons (.ite (.bv 7) true (.op (.fld 5) (.cons (.inp 1) .nil)) (.cst (.tuple #[]))) .nil) r25_0)
@[simp] theorem r25_1_wp : type_of% (@wpR r25_1 _ r25_1.eq_1) := wpR r25_1.eq_1
@[simp] theorem r25_1_wpq : type_of% (@wpRq r25_1 _ r25_1.eq_1) := wpRq r25_1.eq_1
@[simp] theorem r25_1_wpm : type_of% (@wpRm r25_1 _ r25_1.eq_1) := wpRm r25_1.eq_1
def r25_2 : RT := (.chk none (.bin .eql) (.cons (.bv 6) (.cons (.cst (.int .u64 0)) .nil)) (.isb none (.bv 5) (.bnd (.op (.bin .eql) (.cons (.bv 6) (.cons (.cst (.int .u64 0)) .nil))) (.chk (some ((.bv 7), true)) (.fld 5) (.cons (.inp 1) .nil) (.ite (.bv 7) true r25_1 (.isb none (.bv 7) (.isb none (.cst (.bool false)) (.isb none (.cst (.bool false)) (.isb none (.cst (.bool false)) (.done [(2, (.cst (.bool false)))] none))))))))))
@[simp] theorem r25_2_wp : type_of% (@wpR r25_2 _ r25_2.eq_1) := wpR r25_2.eq_1
@[simp] theorem r25_2_wpq : type_of% (@wpRq r25_2 _ r25_2.eq_1) := wpRq r25_2.eq_1
@[simp] theorem r25_2_wpm : type_of% (@wpRm r25_2 _ r25_2.eq_1) := wpRm r25_2.eq_1
def r25_3 : RT := (.eff (.ld false 1) (.cons (.ite (.bv 5) true (.op (.fld 4) (.cons (.inp 1) .nil)) (.cst (.tuple #[]))) .nil) r25_2)
@[simp] theorem r25_3_wp : type_of% (@wpR r25_3 _ r25_3.eq_1) := wpR r25_3.eq_1
@[simp] theorem r25_3_wpq : type_of% (@wpRq r25_3 _ r25_3.eq_1) := wpRq r25_3.eq_1
@[simp] theorem r25_3_wpm : type_of% (@wpRm r25_3 _ r25_3.eq_1) := wpRm r25_3.eq_1
def r25_4 : RT := (.chk none (.bin .eql) (.cons (.bv 4) (.cons (.cst (.int .i64 0)) .nil)) (.isb none (.bv 3) (.bnd (.op (.bin .eql) (.cons (.bv 4) (.cons (.cst (.int .i64 0)) .nil))) (.chk (some ((.bv 5), true)) (.fld 4) (.cons (.inp 1) .nil) (.ite (.bv 5) true r25_3 (.isb none (.bv 5) (.isb none (.cst (.bool false)) (.isb none (.cst (.bool false)) (.isb none (.cst (.bool false)) (.isb none (.cst (.bool false)) (.done [(2, (.cst (.bool false)))] none)))))))))))
@[simp] theorem r25_4_wp : type_of% (@wpR r25_4 _ r25_4.eq_1) := wpR r25_4.eq_1
@[simp] theorem r25_4_wpq : type_of% (@wpRq r25_4 _ r25_4.eq_1) := wpRq r25_4.eq_1
@[simp] theorem r25_4_wpm : type_of% (@wpRm r25_4 _ r25_4.eq_1) := wpRm r25_4.eq_1
def r25_5 : RT := (.eff (.ld false 1) (.cons (.ite (.bv 3) true (.op (.fld 3) (.cons (.inp 1) .nil)) (.cst (.tuple #[]))) .nil) r25_4)
@[simp] theorem r25_5_wp : type_of% (@wpR r25_5 _ r25_5.eq_1) := wpR r25_5.eq_1
@[simp] theorem r25_5_wpq : type_of% (@wpRq r25_5 _ r25_5.eq_1) := wpRq r25_5.eq_1
@[simp] theorem r25_5_wpm : type_of% (@wpRm r25_5 _ r25_5.eq_1) := wpRm r25_5.eq_1
def r25_6 : RT := (.chk none (.bin .eql) (.cons (.bv 2) (.cons (.cst (.int .i64 0)) .nil)) (.isb none (.bv 1) (.bnd (.op (.bin .eql) (.cons (.bv 2) (.cons (.cst (.int .i64 0)) .nil))) (.chk (some ((.bv 3), true)) (.fld 3) (.cons (.inp 1) .nil) (.ite (.bv 3) true r25_5 (.isb none (.bv 3) (.isb none (.cst (.bool false)) (.isb none (.cst (.bool false)) (.isb none (.cst (.bool false)) (.isb none (.cst (.bool false)) (.isb none (.cst (.bool false)) (.done [(2, (.cst (.bool false)))] none))))))))))))
@[simp] theorem r25_6_wp : type_of% (@wpR r25_6 _ r25_6.eq_1) := wpR r25_6.eq_1
@[simp] theorem r25_6_wpq : type_of% (@wpRq r25_6 _ r25_6.eq_1) := wpRq r25_6.eq_1
@[simp] theorem r25_6_wpm : type_of% (@wpRm r25_6 _ r25_6.eq_1) := wpRm r25_6.eq_1
def r25_7 : RT := (.eff (.ld false 1) (.cons (.ite (.bv 1) true (.op (.fld 2) (.cons (.inp 1) .nil)) (.cst (.tuple #[]))) .nil) r25_6)
@[simp] theorem r25_7_wp : type_of% (@wpR r25_7 _ r25_7.eq_1) := wpR r25_7.eq_1
@[simp] theorem r25_7_wpq : type_of% (@wpRq r25_7 _ r25_7.eq_1) := wpRq r25_7.eq_1
@[simp] theorem r25_7_wpm : type_of% (@wpRm r25_7 _ r25_7.eq_1) := wpRm r25_7.eq_1
def r25_8 : RT := (.chk none (.bin .eql) (.cons (.bv 0) (.cons (.cst (.string ⟨#[]⟩)) .nil)) (.bnd (.op (.bin .eql) (.cons (.bv 0) (.cons (.cst (.string ⟨#[]⟩)) .nil))) (.chk (some ((.bv 1), true)) (.fld 2) (.cons (.inp 1) .nil) (.ite (.bv 1) true r25_7 (.isb none (.bv 1) (.isb none (.cst (.bool false)) (.isb none (.cst (.bool false)) (.isb none (.cst (.bool false)) (.isb none (.cst (.bool false)) (.isb none (.cst (.bool false)) (.isb none (.cst (.bool false)) (.done [(2, (.cst (.bool false)))] none))))))))))))
@[simp] theorem r25_8_wp : type_of% (@wpR r25_8 _ r25_8.eq_1) := wpR r25_8.eq_1
@[simp] theorem r25_8_wpq : type_of% (@wpRq r25_8 _ r25_8.eq_1) := wpRq r25_8.eq_1
@[simp] theorem r25_8_wpm : type_of% (@wpRm r25_8 _ r25_8.eq_1) := wpRm r25_8.eq_1
def h25_0 : HC := (.seq (.reg (.chk none (.fld 1) (.cons (.inp 1) .nil) (.eff (.ld false 1) (.cons (.op (.fld 1) (.cons (.inp 1) .nil)) .nil) r25_8))) .ret)
@[simp] theorem h25_0_wp : type_of% (@wpH h25_0 _ h25_0.eq_1) := wpH h25_0.eq_1
def h25_1 : HC := (.seq (.reg (.done [(2, (.cst (.bool false)))] none)) .ret)
@[simp] theorem h25_1_wp : type_of% (@wpH h25_1 _ h25_1.eq_1) := wpH h25_1.eq_1
def r25_9 : RT := (.chk none (.bin .neq) (.cons (.bv 12) (.cons (.cst (.int .u64 0)) .nil)) (.isb none (.bv 11) (.bnd (.op (.bin .neq) (.cons (.bv 12) (.cons (.cst (.int .u64 0)) .nil))) (.chk (some ((.bv 13), false)) (.fld 7) (.cons (.inp 3) .nil) (.ite (.bv 13) false (.eff (.ld false 1) (.cons (.ite (.bv 13) false (.op (.fld 7) (.cons (.inp 3) .nil)) (.cst (.tuple #[]))) .nil) (.chk none (.bin .neq) (.cons (.bv 14) (.cons (.cst (.int .u64 0)) .nil)) (.isb none (.bv 13) (.bnd (.op (.bin .neq) (.cons (.bv 14) (.cons (.cst (.int .u64 0)) .nil))) (.chk (some ((.bv 15), false)) (.fld 8) (.cons (.inp 3) .nil) (.ite (.bv 15) false (.eff (.ld false 1) (.cons (.ite (.bv 15) false (.op (.fld 8) (.cons (.inp 3) .nil)) (.cst (.tuple #[]))) .nil) (.chk none (.bin .neq) (.cons (.bv 16) (.cons (.cst (.int .u64 0)) .nil)) (.isb none (.bv 15) (.bnd (.op (.bin .neq) (.cons (.bv 16) (.cons (.cst (.int .u64 0)) .nil))) (.chk (some ((.bv 17), false)) (.fld 9) (.cons (.inp 3) .nil) (.ite (.bv 17) false (.eff (.ld false 1) (.cons (.ite (.bv 17) false (.op (.fld 9) (.cons (.inp 3) .nil)) (.cst (.tuple #[]))) .nil) (.chk none (.bin .neq) (.cons (.bv 18) (.cons (.cst (.int .i64 0)) .nil)) (.isb none (.bv 17) (.done [] (some (.op (.bin .neq) (.cons (.bv 18) (.cons (.cst (.int .i64 0)) .nil)))))))) (.isb none (.bv 17) (.done [] (some (.cst (.bool true))))))))))) (.isb none (.bv 15) (.isb none (.cst (.bool true)) (.done [] (some (.cst (.bool true)))))))))))) (.isb none (.bv 13) (.isb none (.cst (.bool true)) (.isb none (.cst (.bool true)) (.done [] (some (.cst (.bool true))))))))))))
@[simp] theorem r25_9_wp : type_of% (@wpR r25_9 _ r25_9.eq_1) := wpR r25_9.eq_1
@[simp] theorem r25_9_wpq : type_of% (@wpRq r25_9 _ r25_9.eq_1) := wpRq r25_9.eq_1
@[simp] theorem r25_9_wpm : type_of% (@wpRm r25_9 _ r25_9.eq_1) := wpRm r25_9.eq_1
def r25_10 : RT := (.eff (.ld false 1) (.cons (.ite (.bv 11) false (.op (.fld 6) (.cons (.inp 3) .nil)) (.cst (.tuple #[]))) .nil) r25_9)
@[simp] theorem r25_10_wp : type_of% (@wpR r25_10 _ r25_10.eq_1) := wpR r25_10.eq_1
@[simp] theorem r25_10_wpq : type_of% (@wpRq r25_10 _ r25_10.eq_1) := wpRq r25_10.eq_1
@[simp] theorem r25_10_wpm : type_of% (@wpRm r25_10 _ r25_10.eq_1) := wpRm r25_10.eq_1
def r25_11 : RT := (.chk none (.bin .neq) (.cons (.bv 10) (.cons (.cst (.int .i64 0)) .nil)) (.isb none (.bv 9) (.bnd (.op (.bin .neq) (.cons (.bv 10) (.cons (.cst (.int .i64 0)) .nil))) (.chk (some ((.bv 11), false)) (.fld 6) (.cons (.inp 3) .nil) (.ite (.bv 11) false r25_10 (.isb none (.bv 11) (.isb none (.cst (.bool true)) (.isb none (.cst (.bool true)) (.isb none (.cst (.bool true)) (.done [] (some (.cst (.bool true)))))))))))))
@[simp] theorem r25_11_wp : type_of% (@wpR r25_11 _ r25_11.eq_1) := wpR r25_11.eq_1
@[simp] theorem r25_11_wpq : type_of% (@wpRq r25_11 _ r25_11.eq_1) := wpRq r25_11.eq_1
@[simp] theorem r25_11_wpm : type_of% (@wpRm r25_11 _ r25_11.eq_1) := wpRm r25_11.eq_1
def r25_12 : RT := (.eff (.ld false 1) (.cons (.ite (.bv 9) false (.op (.fld 5) (.cons (.inp 3) .nil)) (.cst (.tuple #[]))) .nil) r25_11)
@[simp] theorem r25_12_wp : type_of% (@wpR r25_12 _ r25_12.eq_1) := wpR r25_12.eq_1
@[simp] theorem r25_12_wpq : type_of% (@wpRq r25_12 _ r25_12.eq_1) := wpRq r25_12.eq_1
@[simp] theorem r25_12_wpm : type_of% (@wpRm r25_12 _ r25_12.eq_1) := wpRm r25_12.eq_1
def r25_13 : RT := (.chk none (.bin .neq) (.cons (.bv 8) (.cons (.cst (.int .i64 0)) .nil)) (.isb none (.bv 7) (.bnd (.op (.bin .neq) (.cons (.bv 8) (.cons (.cst (.int .i64 0)) .nil))) (.chk (some ((.bv 9), false)) (.fld 5) (.cons (.inp 3) .nil) (.ite (.bv 9) false r25_12 (.isb none (.bv 9) (.isb none (.cst (.bool true)) (.isb none (.cst (.bool true)) (.isb none (.cst (.bool true)) (.isb none (.cst (.bool true)) (.done [] (some (.cst (.bool true))))))))))))))
@[simp] theorem r25_13_wp : type_of% (@wpR r25_13 _ r25_13.eq_1) := wpR r25_13.eq_1
@[simp] theorem r25_13_wpq : type_of% (@wpRq r25_13 _ r25_13.eq_1) := wpRq r25_13.eq_1
@[simp] theorem r25_13_wpm : type_of% (@wpRm r25_13 _ r25_13.eq_1) := wpRm r25_13.eq_1
def r25_14 : RT := (.eff (.ld false 1) (.cons (.ite (.bv 7) false (.op (.fld 4) (.cons (.inp 3) .nil)) (.cst (.tuple #[]))) .nil) r25_13)
@[simp] theorem r25_14_wp : type_of% (@wpR r25_14 _ r25_14.eq_1) := wpR r25_14.eq_1
@[simp] theorem r25_14_wpq : type_of% (@wpRq r25_14 _ r25_14.eq_1) := wpRq r25_14.eq_1
@[simp] theorem r25_14_wpm : type_of% (@wpRm r25_14 _ r25_14.eq_1) := wpRm r25_14.eq_1
def r25_15 : RT := (.chk none (.bin .neq) (.cons (.bv 6) (.cons (.cst (.int .i64 0)) .nil)) (.isb none (.bv 5) (.bnd (.op (.bin .neq) (.cons (.bv 6) (.cons (.cst (.int .i64 0)) .nil))) (.chk (some ((.bv 7), false)) (.fld 4) (.cons (.inp 3) .nil) (.ite (.bv 7) false r25_14 (.isb none (.bv 7) (.isb none (.cst (.bool true)) (.isb none (.cst (.bool true)) (.isb none (.cst (.bool true)) (.isb none (.cst (.bool true)) (.isb none (.cst (.bool true)) (.done [] (some (.cst (.bool true)))))))))))))))
@[simp] theorem r25_15_wp : type_of% (@wpR r25_15 _ r25_15.eq_1) := wpR r25_15.eq_1
@[simp] theorem r25_15_wpq : type_of% (@wpRq r25_15 _ r25_15.eq_1) := wpRq r25_15.eq_1
@[simp] theorem r25_15_wpm : type_of% (@wpRm r25_15 _ r25_15.eq_1) := wpRm r25_15.eq_1
def r25_16 : RT := (.eff (.ld false 1) (.cons (.ite (.bv 5) false (.op (.fld 3) (.cons (.inp 3) .nil)) (.cst (.tuple #[]))) .nil) r25_15)
@[simp] theorem r25_16_wp : type_of% (@wpR r25_16 _ r25_16.eq_1) := wpR r25_16.eq_1
@[simp] theorem r25_16_wpq : type_of% (@wpRq r25_16 _ r25_16.eq_1) := wpRq r25_16.eq_1
@[simp] theorem r25_16_wpm : type_of% (@wpRm r25_16 _ r25_16.eq_1) := wpRm r25_16.eq_1
def r25_17 : RT := (.chk none (.bin .neq) (.cons (.bv 4) (.cons (.cst (.int .i64 0)) .nil)) (.isb none (.bv 3) (.bnd (.op (.bin .neq) (.cons (.bv 4) (.cons (.cst (.int .i64 0)) .nil))) (.chk (some ((.bv 5), false)) (.fld 3) (.cons (.inp 3) .nil) (.ite (.bv 5) false r25_16 (.isb none (.bv 5) (.isb none (.cst (.bool true)) (.isb none (.cst (.bool true)) (.isb none (.cst (.bool true)) (.isb none (.cst (.bool true)) (.isb none (.cst (.bool true)) (.isb none (.cst (.bool true)) (.done [] (some (.cst (.bool true))))))))))))))))
@[simp] theorem r25_17_wp : type_of% (@wpR r25_17 _ r25_17.eq_1) := wpR r25_17.eq_1
@[simp] theorem r25_17_wpq : type_of% (@wpRq r25_17 _ r25_17.eq_1) := wpRq r25_17.eq_1
@[simp] theorem r25_17_wpm : type_of% (@wpRm r25_17 _ r25_17.eq_1) := wpRm r25_17.eq_1
def r25_18 : RT := (.eff (.ld false 1) (.cons (.ite (.bv 3) false (.op (.fld 2) (.cons (.inp 3) .nil)) (.cst (.tuple #[]))) .nil) r25_17)
@[simp] theorem r25_18_wp : type_of% (@wpR r25_18 _ r25_18.eq_1) := wpR r25_18.eq_1
@[simp] theorem r25_18_wpq : type_of% (@wpRq r25_18 _ r25_18.eq_1) := wpRq r25_18.eq_1
@[simp] theorem r25_18_wpm : type_of% (@wpRm r25_18 _ r25_18.eq_1) := wpRm r25_18.eq_1
def r25_19 : RT := (.chk none (.bin .neq) (.cons (.bv 2) (.cons (.cst (.int .i64 0)) .nil)) (.isb none (.bv 1) (.bnd (.op (.bin .neq) (.cons (.bv 2) (.cons (.cst (.int .i64 0)) .nil))) (.chk (some ((.bv 3), false)) (.fld 2) (.cons (.inp 3) .nil) (.ite (.bv 3) false r25_18 (.isb none (.bv 3) (.isb none (.cst (.bool true)) (.isb none (.cst (.bool true)) (.isb none (.cst (.bool true)) (.isb none (.cst (.bool true)) (.isb none (.cst (.bool true)) (.isb none (.cst (.bool true)) (.isb none (.cst (.bool true)) (.done [] (some (.cst (.bool true)))))))))))))))))
@[simp] theorem r25_19_wp : type_of% (@wpR r25_19 _ r25_19.eq_1) := wpR r25_19.eq_1
@[simp] theorem r25_19_wpq : type_of% (@wpRq r25_19 _ r25_19.eq_1) := wpRq r25_19.eq_1
@[simp] theorem r25_19_wpm : type_of% (@wpRm r25_19 _ r25_19.eq_1) := wpRm r25_19.eq_1
def r25_20 : RT := (.eff (.ld false 1) (.cons (.ite (.bv 1) false (.op (.fld 1) (.cons (.inp 3) .nil)) (.cst (.tuple #[]))) .nil) r25_19)
@[simp] theorem r25_20_wp : type_of% (@wpR r25_20 _ r25_20.eq_1) := wpR r25_20.eq_1
@[simp] theorem r25_20_wpq : type_of% (@wpRq r25_20 _ r25_20.eq_1) := wpRq r25_20.eq_1
@[simp] theorem r25_20_wpm : type_of% (@wpRm r25_20 _ r25_20.eq_1) := wpRm r25_20.eq_1
def r25_21 : RT := (.isb none (.bv 1) (.isb none (.cst (.bool true)) (.isb none (.cst (.bool true)) (.isb none (.cst (.bool true)) (.isb none (.cst (.bool true)) (.isb none (.cst (.bool true)) (.isb none (.cst (.bool true)) (.isb none (.cst (.bool true)) (.isb none (.cst (.bool true)) (.done [] (some (.cst (.bool true)))))))))))))
@[simp] theorem r25_21_wp : type_of% (@wpR r25_21 _ r25_21.eq_1) := wpR r25_21.eq_1
@[simp] theorem r25_21_wpq : type_of% (@wpRq r25_21 _ r25_21.eq_1) := wpRq r25_21.eq_1
@[simp] theorem r25_21_wpm : type_of% (@wpRm r25_21 _ r25_21.eq_1) := wpRm r25_21.eq_1
def r25_22 : RT := (.chk none .lenL (.cons (.bv 0) .nil) (.chk none (.bin .gtr) (.cons (.op .lenL (.cons (.bv 0) .nil)) (.cons (.cst (.int .i64 0)) .nil)) (.bnd (.op (.bin .gtr) (.cons (.op .lenL (.cons (.bv 0) .nil)) (.cons (.cst (.int .i64 0)) .nil))) (.chk (some ((.bv 1), false)) (.fld 1) (.cons (.inp 3) .nil) (.ite (.bv 1) false r25_20 r25_21)))))
@[simp] theorem r25_22_wp : type_of% (@wpR r25_22 _ r25_22.eq_1) := wpR r25_22.eq_1
@[simp] theorem r25_22_wpq : type_of% (@wpRq r25_22 _ r25_22.eq_1) := wpRq r25_22.eq_1
@[simp] theorem r25_22_wpm : type_of% (@wpRm r25_22 _ r25_22.eq_1) := wpRm r25_22.eq_1
def h25_2 : HC := (.seq (.br (.chk none (.fld 10) (.cons (.inp 3) .nil) (.eff (.ld false 1) (.cons (.op (.fld 10) (.cons (.inp 3) .nil)) .nil) r25_22)) h25_1 .skip) h25_0)
@[simp] theorem h25_2_wp : type_of% (@wpH h25_2 _ h25_2.eq_1) := wpH h25_2.eq_1
def h25_3 : HC := (.reg (.chk none (.fld 1) (.cons (.inp 1) .nil) (.eff (.st 1) (.cons (.op (.fld 1) (.cons (.inp 1) .nil)) (.cons (.cst (.string ⟨#[]⟩)) .nil)) (.done [] none))))
@[simp] theorem h25_3_wp : type_of% (@wpH h25_3 _ h25_3.eq_1) := wpH h25_3.eq_1
def h25_4 : HC := (.reg (.chk none (.fld 3) (.cons (.inp 1) .nil) (.eff (.st 1) (.cons (.op (.fld 3) (.cons (.inp 1) .nil)) (.cons (.cst (.int .i64 0)) .nil)) (.chk none (.fld 4) (.cons (.inp 1) .nil) (.eff (.st 1) (.cons (.op (.fld 4) (.cons (.inp 1) .nil)) (.cons (.cst (.int .u64 0)) .nil)) (.done [] none))))))
@[simp] theorem h25_4_wp : type_of% (@wpH h25_4 _ h25_4.eq_1) := wpH h25_4.eq_1
def h25_5 : HC := (.reg (.chk none (.fld 6) (.cons (.inp 1) .nil) (.eff (.st 1) (.cons (.op (.fld 6) (.cons (.inp 1) .nil)) (.cons (.cst (.int .i64 0)) .nil)) (.chk none (.fld 3) (.cons (.inp 1) .nil) (.eff (.st 1) (.cons (.op (.fld 3) (.cons (.inp 1) .nil)) (.cons (.cst (.int .i64 0)) .nil)) (.done [] none))))))
@[simp] theorem h25_5_wp : type_of% (@wpH h25_5 _ h25_5.eq_1) := wpH h25_5.eq_1
def h25_6 : HC := (.reg (.chk none (.fld 2) (.cons (.inp 1) .nil) (.eff (.st 1) (.cons (.op (.fld 2) (.cons (.inp 1) .nil)) (.cons (.cst (.int .i64 0)) .nil)) (.chk none (.fld 3) (.cons (.inp 1) .nil) (.eff (.st 1) (.cons (.op (.fld 3) (.cons (.inp 1) .nil)) (.cons (.cst (.int .i64 0)) .nil)) (.chk none (.fld 4) (.cons (.inp 1) .nil) (.eff (.st 1) (.cons (.op (.fld 4) (.cons (.inp 1) .nil)) (.cons (.cst (.int .u64 0)) .nil)) (.done [] none))))))))
@[simp] theorem h25_6_wp : type_of% (@wpH h25_6 _ h25_6.eq_1) := wpH h25_6.eq_1
def h25_7 : HC := (.reg (.chk none (.fld 5) (.cons (.inp 1) .nil) (.eff (.st 1) (.cons (.op (.fld 5) (.cons (.inp 1) .nil)) (.cons (.cst (.int .i64 0)) .nil)) (.chk none (.fld 2) (.cons (.inp 1) .nil) (.eff (.st 1) (.cons (.op (.fld 2) (.cons (.inp 1) .nil)) (.cons (.cst (.int .i64 0)) .nil)) (.chk none (.fld 3) (.cons (.inp 1) .nil) (.eff (.st 1) (.cons (.op (.fld 3) (.cons (.inp 1) .nil)) (.cons (.cst (.int .i64 0)) .nil)) (.done [] none))))))))
@[simp] theorem h25_7_wp : type_of% (@wpH h25_7 _ h25_7.eq_1) := wpH h25_7.eq_1
def h25_8 : HC := (.reg (.chk none (.build #[(.int .i64 0), (.int .i64 0), (.int .i64 0), (.int .i64 0), (.int .i64 0), (.int .i64 0), (.int .u64 0), (.int .u64 0), (.int .u64 0), (.int .i64 0), (.slice none 0 0)] [(0, 1), (1, 1), (2, 1), (3, 1), (4, 1), (5, 1), (6, 1), (7, 1), (8, 1), (9, 1), (10, 1)] []) .nil (.eff (.st 11) (.cons (.inp 3) (.cons (.op (.build #[(.int .i64 0), (.int .i64 0), (.int .i64 0), (.int .i64 0), (.int .i64 0), (.int .i64 0), (.int .u64 0), (.int .u64 0), (.int .u64 0), (.int .i64 0), (.slice none 0 0)] [(0, 1), (1, 1), (2, 1), (3, 1), (4, 1), (5, 1), (6, 1), (7, 1), (8, 1), (9, 1), (10, 1)] []) .nil) .nil)) (.done [] none))))
@[simp] theorem h25_8_wp : type_of% (@wpH h25_8 _ h25_8.eq_1) := wpH h25_8.eq_1
def h25_9 : HC := (.reg (.chk none (.build #[(.int .i64 0), (.int .i64 0), (.int .u64 0), (.int .u64 0), (.slice none 0 0)] [(0, 1), (1, 1), (2, 1), (3, 1), (4, 1)] []) .nil (.chk none (.fld 6) (.cons (.inp 1) .nil) (.eff (.st 1) (.cons (.op (.fld 6) (.cons (.inp 1) .nil)) (.cons (.cst (.int .i64 0)) .nil)) (.chk none (.fld 7) (.cons (.inp 1) .nil) (.eff (.st 5) (.cons (.op (.fld 7) (.cons (.inp 1) .nil)) (.cons (.op (.build #[(.int .i64 0), (.int .i64 0), (.int .u64 0), (.int .u64 0), (.slice none 0 0)] [(0, 1), (1, 1), (2, 1), (3, 1), (4, 1)] []) .nil) .nil)) (.done [] none)))))))
@[simp] theorem h25_9_wp : type_of% (@wpH h25_9 _ h25_9.eq_1) := wpH h25_9.eq_1
def h25_10 : HC := (.reg (.chk none (.fld 6) (.cons (.inp 1) .nil) (.eff (.st 1) (.cons (.op (.fld 6) (.cons (.inp 1) .nil)) (.cons (.cst (.int .i64 0)) .nil)) (.chk none (.fld 2) (.cons (.inp 1) .nil) (.eff (.st 1) (.cons (.op (.fld 2) (.cons (.inp 1) .nil)) (.cons (.cst (.int .i64 0)) .nil)) (.done [] none))))))
@[simp] theorem h25_10_wp : type_of% (@wpH h25_10 _ h25_10.eq_1) := wpH h25_10.eq_1
def h25_11 : HC := (.reg (.chk none (.fld 6) (.cons (.inp 1) .nil) (.eff (.st 1) (.cons (.op (.fld 6) (.cons (.inp 1) .nil)) (.cons (.cst (.int .i64 0)) .nil)) (.done [] none))))
@[simp] theorem h25_11_wp : type_of% (@wpH h25_11 _ h25_11.eq_1) := wpH h25_11.eq_1
def h25_12 : HC := (.reg (.chk none (.fld 23) (.cons (.inp 1) .nil) (.eff (.st 1) (.cons (.op (.fld 23) (.cons (.inp 1) .nil)) (.cons (.cst (.int .i64 0)) .nil)) (.done [] none))))
@[simp] theorem h25_12_wp : type_of% (@wpH h25_12 _ h25_12.eq_1) := wpH h25_12.eq_1
def h25_13 : HC := (.seq (.reg (.done [(2, (.cst (.bool false)))] none)) .ret)
@[simp] theorem h25_13_wp : type_of% (@wpH h25_13 _ h25_13.eq_1) := wpH h25_13.eq_1
def h25_14 : HC := (.br (.chk none (.bin .eql) (.cons (.inp 4) (.cons (.cst (.int .i64 10)) .nil)) (.done [] (some (.op (.bin .eql) (.cons (.inp 4) (.cons (.cst (.int .i64 10)) .nil)))))) h25_12 h25_13)
@[simp] theorem h25_14_wp : type_of% (@wpH h25_14 _ h25_14.eq_1) := wpH h25_14.eq_1
def h25_15 : HC := (.br (.chk none (.bin .eql) (.cons (.inp 4) (.cons (.cst (.int .i64 9)) .nil)) (.done [] (some (.op (.bin .eql) (.cons (.inp 4) (.cons (.cst (.int .i64 9)) .nil)))))) h25_11 h25_14)
@[simp] theorem h25_15_wp : type_of% (@wpH h25_15 _ h25_15.eq_1) := wpH h25_15.eq_1
def h25_16 : HC := (.br (.chk none (.bin .eql) (.cons (.inp 4) (.cons (.cst (.int .i64 8)) .nil)) (.done [] (some (.op (.bin .eql) (.cons (.inp 4) (.cons (.cst (.int .i64 8)) .nil)))))) h25_10 h25_15)
@[simp] theorem h25_16_wp : type_of% (@wpH h25_16 _ h25_16.eq_1) := wpH h25_16.eq_1
def h25_17 : HC := (.br (.chk none (.bin .eql) (.cons (.inp 4) (.cons (.cst (.int .i64 7)) .nil)) (.done [] (some (.op (.bin .eql) (.cons (.inp 4) (.cons (.cst (.int .i64 7)) .nil)))))) h25_9 h25_16)
@[simp] theorem h25_17_wp : type_of% (@wpH h25_17 _ h25_17.eq_1) := wpH h25_17.eq_1
def h25_18 : HC := (.br (.chk none (.bin .eql) (.cons (.inp 4) (.cons (.cst (.int .i64 6)) .nil)) (.done [] (some (.op (.bin .eql) (.cons (.inp 4) (.cons (.cst (.int .i64 6)) .nil)))))) h25_8 h25_17)
@[simp] theorem h25_18_wp : type_of% (@wpH h25_18 _ h25_18.eq_1) := wpH h25_18.eq_1
def h25_19 : HC := (.br (.chk none (.bin .eql) (.cons (.inp 4) (.cons (.cst (.int .i64 5)) .nil)) (.done [] (some (.op (.bin .eql) (.cons (.inp 4) (.cons (.cst (.int .i64 5)) .nil)))))) h25_7 h25_18)
@[simp] theorem h25_19_wp : type_of% (@wpH h25_19 _ h25_19.eq_1) := wpH h25_19.eq_1
def h25_20 : HC := (.br (.chk none (.bin .eql) (.cons (.inp 4) (.cons (.cst (.int .i64 4)) .nil)) (.done [] (some (.op (.bin .eql) (.cons (.inp 4) (.cons (.cst (.int .i64 4)) .nil)))))) h25_6 h25_19)
@[simp] theorem h25_20_wp : type_of% (@wpH h25_20 _ h25_20.eq_1) := wpH h25_20.eq_1
def h25_21 : HC := (.br (.chk none (.bin .eql) (.cons (.inp 4) (.cons (.cst (.int .i64 3)) .nil)) (.done [] (some (.op (.bin .eql) (.cons (.inp 4) (.cons (.cst (.int .i64 3)) .nil)))))) h25_5 h25_20)
@[simp] theorem h25_21_wp : type_of% (@wpH h25_21 _ h25_21.eq_1) := wpH h25_21.eq_1
def h25_22 : HC := (.br (.chk none (.bin .eql) (.cons (.inp 4) (.cons (.cst (.int .i64 2)) .nil)) (.done [] (some (.op (.bin .eql) (.cons (.inp 4) (.cons (.cst (.int .i64 2)) .nil)))))) h25_4 h25_21)
@[simp] theorem h25_22_wp : type_of% (@wpH h25_22 _ h25_22.eq_1) := wpH h25_22.eq_1
def h25_23 : HC := (.br (.chk none (.bin .eql) (.cons (.inp 4) (.cons (.cst (.int .i64 1)) .nil)) (.done [] (some (.op (.bin .eql) (.cons (.inp 4) (.cons (.cst (.int .i64 1)) .nil)))))) h25_3 h25_22)
@[simp] theorem h25_23_wp : type_of% (@wpH h25_23 _ h25_23.eq_1) := wpH h25_23.eq_1
def h25_24 : HC := (.seq (.block 0 h25_23) h25_2)
@[simp] theorem h25_24_wp : type_of% (@wpH h25_24 _ h25_24.eq_1) := wpH h25_24.eq_1
def h25_25 : HC := (.seq (.reg (.chk none (.fld 0) (.cons (.inp 1) .nil) (.eff (.ld false 1) (.cons (.op (.fld 0) (.cons (.inp 1) .nil)) .nil) (.done [(4, (.bv 0))] none)))) h25_24)
@[simp] theorem h25_25_wp : type_of% (@wpH h25_25 _ h25_25.eq_1) := wpH h25_25.eq_1
def h25_26 : HC := (.seq (.reg (.done [(2, (.cst (.bool false)))] none)) .ret)
@[simp] theorem h25_26_wp : type_of% (@wpH h25_26 _ h25_26.eq_1) := wpH h25_26.eq_1
def h25_27 : HC := (.seq (.br (.chk none (.fld 0) (.cons (.inp 3) .nil) (.eff (.ld false 1) (.cons (.op (.fld 0) (.cons (.inp 3) .nil)) .nil) (.chk none (.bin .neq) (.cons (.bv 0) (.cons (.cst (.int .i64 0)) .nil)) (.done [] (some (.op (.bin .neq) (.cons (.bv 0) (.cons (.cst (.int .i64 0)) .nil)))))))) h25_26 .skip) h25_25)
@[simp] theorem h25_27_wp : type_of% (@wpH h25_27 _ h25_27.eq_1) := wpH h25_27.eq_1
def h25_28 : HC := (.seq (.reg (.chk none (.fld 12) (.cons (.inp 1) .nil) (.eff (.ld true 11) (.cons (.op (.fld 12) (.cons (.inp 1) .nil)) .nil) (.eff (.new 28 (.agg #[(.int .i64 0), (.int .i64 0), (.int .i64 0), (.int .i64 0), (.int .i64 0), (.int .i64 0), (.int .u64 0), (.int .u64 0), (.int .u64 0), (.int .i64 0), (.slice none 0 0)])) .nil (.eff (.st 11) (.cons (.bv 1) (.cons (.bv 0) .nil)) (.done [(3, (.bv 1))] none)))))) h25_27)
@[simp] theorem h25_28_wp : type_of% (@wpH h25_28 _ h25_28.eq_1) := wpH h25_28.eq_1
def l25 : Lifted := ⟨[0, 1, 2, 3, 10], 137, [.slot 2], (.seq (.reg (.eff (.box 30) (.cons (.inp 0) .nil) (.done [(1, (.bv 0)), (2, (.cst (.bool false)))] none))) h25_28)⟩
theorem l25_ok : liftFn T0 25 400 = some l25 := by kernel_rfl
set_option maxHeartbeats 1000000 in
theorem plain_tail (r : PR) (c : PC) (ev cv cv' : Value) (arg k : Value) (b d : Nat) (w0 w : World) (A : Asn) (h1 : WR w0 A ev r.en.ws) (h2 : ∃ a n, cv' = .slice a c.es.length n) (hn : c.num = 0)
    (s : St w0 (A * pt b (.cells (r.cs ev cv).toArray 30 (0, 0)) * pt d (.cells (c.cs cv').toArray 28 (0, 0))) w)
    {Q : _} (hQ : ∀ env w', env[2]? = some (.bool (decide (emptyP c ∧ bareP r))) → St w0 A w' → Q (.ret) env w') :
    HC.wp T0 h25_2 Q [arg, .pointer (some ⟨b, 0, none⟩), .bool false, .pointer (some ⟨d, 0, none⟩), k] w := by
  obtain ⟨a, n, rfl⟩ := h2
  obtain ⟨ea, en, rfl⟩ := h1.val
  have fd : ∀ j u, (c.cs (.slice a c.es.length n))[j]? = some u → w.cell? ⟨d, j, none⟩ = some u := fun j u hu => by
    have := s.row_cells j u hu; simpa using this
  have fb : ∀ j u, (r.cs (.slice ea r.en.ws.length en) cv)[j]? = some u → w.cell? ⟨b, j, none⟩ = some u := fun j u hu => by
    have := s.drop.row_cells j u hu; simpa using this
  have sA : St w0 A w := s.drop.drop
  simp -implicitDefEqProofs
  refine eff_ldc (v := .slice a c.es.length n) (fd 10 _ rfl) ?_
  by_cases c0 : c.es.length = 0
  case neg =>
    have c0' : 0 < c.es.length := by omega
    simp -implicitDefEqProofs [c0', hn]
    exact hQ _ _ (by simp -implicitDefEqProofs [emptyP, c0]) sA
  simp -implicitDefEqProofs [c0]
  refine eff_ldc (v := .int .i64 c.kind) (fd 1 _ rfl) ?_
  by_cases c1 : c.kind = 0
  case neg => simp -implicitDefEqProofs [c1]; exact hQ _ _ (by simp -implicitDefEqProofs [emptyP, c1]) sA
  simp -implicitDefEqProofs [c1]
  refine eff_ldc (v := .int .i64 c.by') (fd 2 _ rfl) ?_
  by_cases c2 : c.by' = 0
  case neg => simp -implicitDefEqProofs [c2]; exact hQ _ _ (by simp -implicitDefEqProofs [emptyP, c2]) sA
  simp -implicitDefEqProofs [c2]
  refine eff_ldc (v := .int .i64 c.dead) (fd 3 _ rfl) ?_
  by_cases c3 : c.dead = 0
  case neg => simp -implicitDefEqProofs [c3]; exact hQ _ _ (by simp -implicitDefEqProofs [emptyP, c3]) sA
  simp -implicitDefEqProofs [c3]
  refine eff_ldc (v := .int .i64 c.to') (fd 4 _ rfl) ?_
  by_cases c4 : c.to' = 0
  case neg => simp -implicitDefEqProofs [c4]; exact hQ _ _ (by simp -implicitDefEqProofs [emptyP, c4]) sA
  simp -implicitDefEqProofs [c4]
  refine eff_ldc (v := .int .i64 c.want) (fd 5 _ rfl) ?_
  by_cases c5 : c.want = 0
  case neg => simp -implicitDefEqProofs [c5]; exact hQ _ _ (by simp -implicitDefEqProofs [emptyP, c5]) sA
  simp -implicitDefEqProofs [c5]
  refine eff_ldc (v := .int .u64 c.price) (fd 6 _ rfl) ?_
  by_cases c6 : c.price = 0
  case neg => simp -implicitDefEqProofs [c6]; exact hQ _ _ (by simp -implicitDefEqProofs [emptyP, c6]) sA
  simp -implicitDefEqProofs [c6]
  refine eff_ldc (v := .int .u64 c.res) (fd 7 _ rfl) ?_
  by_cases c7 : c.res = 0
  case neg => simp -implicitDefEqProofs [c7]; exact hQ _ _ (by simp -implicitDefEqProofs [emptyP, c7]) sA
  simp -implicitDefEqProofs [c7]
  refine eff_ldc (v := .int .u64 c.step) (fd 8 _ rfl) ?_
  by_cases c8 : c.step = 0
  case neg => simp -implicitDefEqProofs [c8]; exact hQ _ _ (by simp -implicitDefEqProofs [emptyP, c8]) sA
  simp -implicitDefEqProofs [c8]
  refine eff_ldc (v := .int .i64 c.of') (fd 9 _ rfl) ?_
  by_cases c9 : c.of' = 0
  case neg => simp -implicitDefEqProofs [c9]; exact hQ _ _ (by simp -implicitDefEqProofs [emptyP, c9]) sA
  simp -implicitDefEqProofs [c9]
  have hE : emptyP c := ⟨c1, c2, c3, c4, c5, c6, c7, c8, c9, c0⟩
  refine eff_ldc (v := .string (Go.HL.mk r.nm)) (fb 1 _ rfl) ?_
  by_cases d0 : r.nm = []
  case neg =>
    have d0' : r.nm.isEmpty = false := by rw [List.isEmpty_eq_false_iff]; exact d0
    simp -implicitDefEqProofs [d0']
    refine hQ _ _ ?_ sA
    simp -implicitDefEqProofs [bareP, d0]
  simp -implicitDefEqProofs [d0]
  refine eff_ldc (v := .int .i64 r.fr) (fb 2 _ rfl) ?_
  by_cases d1 : r.fr = 0
  case neg => simp -implicitDefEqProofs [d1]; exact hQ _ _ (by simp -implicitDefEqProofs [bareP, d1]) sA
  simp -implicitDefEqProofs [d1]
  refine eff_ldc (v := .int .i64 r.to') (fb 3 _ rfl) ?_
  by_cases d2 : r.to' = 0
  case neg => simp -implicitDefEqProofs [d2]; exact hQ _ _ (by simp -implicitDefEqProofs [bareP, d2]) sA
  simp -implicitDefEqProofs [d2]
  refine eff_ldc (v := .int .u64 r.coins) (fb 4 _ rfl) ?_
  by_cases d3 : r.coins = 0
  case neg => simp -implicitDefEqProofs [d3]; exact hQ _ _ (by simp -implicitDefEqProofs [bareP, d3]) sA
  simp -implicitDefEqProofs [d3]
  refine eff_ldc (v := .int .i64 r.item) (fb 5 _ rfl) ?_
  by_cases d4 : r.item = 0
  case neg => simp -implicitDefEqProofs [d4]; exact hQ _ _ (by simp -implicitDefEqProofs [bareP, d4]) sA
  simp -implicitDefEqProofs [d4]
  refine eff_ldc (v := .int .i64 r.num) (fb 6 _ rfl) ?_
  by_cases d5 : r.num = 0
  case neg => simp -implicitDefEqProofs [d5]; exact hQ _ _ (by simp -implicitDefEqProofs [bareP, d5]) sA
  simp -implicitDefEqProofs [d5]
  refine eff_ldcs (vs := r.en.cs (.slice ea r.en.ws.length en)) (fun j u hu => ?_) rfl ?_
  · have hj : j < 5 := (List.getElem?_eq_some_iff.1 hu).1
    have : (r.cs (.slice ea r.en.ws.length en) cv)[7 + j]? = some u := by
      rcases j with _ | _ | _ | _ | _ | j
      · exact hu
      · exact hu
      · exact hu
      · exact hu
      · exact hu
      · omega
    exact fb _ _ this
  simp -implicitDefEqProofs
  refine eff_call ((none_spec r.en _ w0 w _ (h1.mono fun w s => s.drop.drop) s).mono ?_)
  rintro _ w2 ⟨rfl, s2⟩
  have sB : St w0 A w2 := s2.drop.drop
  have fb2 : ∀ j u, (r.cs (.slice ea r.en.ws.length en) cv)[j]? = some u → w2.cell? ⟨b, j, none⟩ = some u := fun j u hu => by
    have := s2.drop.row_cells j u hu; simpa using this
  by_cases d6 : noneP r.en
  case neg =>
    simp -implicitDefEqProofs [d6]
    refine hQ _ _ ?_ sB
    simp -implicitDefEqProofs [bareP, d6]
  simp -implicitDefEqProofs [d6]
  refine eff_ldc (v := .int .i64 r.ticks) (fb2 23 _ rfl) ?_
  simp -implicitDefEqProofs
  refine hQ _ _ ?_ sB
  simp -implicitDefEqProofs [bareP, d0, d1, d2, d3, d4, d5, d6, hE]
set_option maxHeartbeats 1000000 in
theorem plain_spec (r : PR) (ev cv : Value) (w0 w : World) (A : Asn) (h1 : WR w0 A ev r.en.ws) (h2 : ∃ a n, cv = .slice a r.co.es.length n) (s : St w0 A w) :
    CallW Try.prog 25 [.agg (r.cs ev cv).toArray] (fun x w' => x = .bool (decide (plainP r)) ∧ St w0 A w') w := by
  obtain ⟨a, n, rfl⟩ := h2
  obtain ⟨ea, en, rfl⟩ := h1.val
  refine callW_of_lift l25_ok (by simp [l25]) ?_
  simp -implicitDefEqProofs [l25, Instr.fill, Value.cells]
  refine eff_box s fun b w1 s1 => ?_
  simp -implicitDefEqProofs [Instr.fill, Value.cells]
  have s1 : St w0 (A * pt b (.cells (r.cs (.slice ea r.en.ws.length en) (.slice a r.co.es.length n)).toArray 30 (0, 0))) w1 := s1
  refine eff_ldcs (vs := r.co.cs (.slice a r.co.es.length n)) (fun j u hu => ?_) rfl ?_
  · have hj : j < 11 := (List.getElem?_eq_some_iff.1 hu).1
    have : (r.cs (.slice ea r.en.ws.length en) (.slice a r.co.es.length n))[12 + j]? = some u := by
      rcases j with _ | _ | _ | _ | _ | _ | _ | _ | _ | _ | _ | j
      all_goals first | exact hu | omega
    have := s1.row_cells _ u this; simpa using this
  simp -implicitDefEqProofs
  refine eff_new s1 fun d w2 s2 => ?_
  simp -implicitDefEqProofs
  refine eff_stA (vs := r.co.cs (.slice a r.co.es.length n)) s2 rfl rfl (by simp [PC.cs, Value.oneCell']) (by simp) fun w3 s3 => ?_
  simp -implicitDefEqProofs
  have s3 : St w0 (A * pt b (.cells (r.cs (.slice ea r.en.ws.length en) (.slice a r.co.es.length n)).toArray 30 (0, 0)) * pt d (.cells (r.co.cs (.slice a r.co.es.length n)).toArray 28 (0, 0))) w3 := by simpa [PC.cs] using s3
  have fd : ∀ j u, (r.co.cs (.slice a r.co.es.length n))[j]? = some u → w3.cell? ⟨d, j, none⟩ = some u := fun j u hu => by
    have := s3.row_cells j u hu; simpa using this
  have fb : ∀ j u, (r.cs (.slice ea r.en.ws.length en) (.slice a r.co.es.length n))[j]? = some u → w3.cell? ⟨b, j, none⟩ = some u := fun j u hu => by
    have := s3.drop.row_cells j u hu; simpa using this
  refine eff_ldc (v := .int .i64 r.co.num) (fd 0 _ rfl) ?_
  by_cases hn : r.co.num = 0
  case neg =>
    simp -implicitDefEqProofs [hn, plainP]
    exact s3.drop.drop
  simp -implicitDefEqProofs [hn]
  refine eff_ldc (v := .int .i64 r.kind) (fb 0 _ rfl) ?_
  simp -implicitDefEqProofs
  by_cases k1 : r.kind = 1
  · simp -implicitDefEqProofs [k1]
    refine eff_st1 s3.swap rfl (by simp [PR.cs]) fun w4 s4 => ?_
    simp -implicitDefEqProofs [-h25_2_wp]
    have s4 : St w0 (A * pt d (.cells (r.co.cs (.slice a r.co.es.length n)).toArray 28 (0, 0)) * pt b (.cells (({ r with nm := [] } : PR).cs (.slice ea r.en.ws.length en) (.slice a r.co.es.length n)).toArray 30 (0, 0))) w4 := by simpa [PR.cs] using s4
    refine plain_tail ({ r with nm := [] } : PR) r.co _ _ _ _ _ b d w0 w4 A h1 ⟨_, _, rfl⟩ hn s4.swap fun env w5 he s5 => ?_
    simp -implicitDefEqProofs [he]
    refine ⟨?_, s5⟩
    simp -implicitDefEqProofs [plainP, bareP, k1, hn]
  by_cases k2 : r.kind = 2
  · simp -implicitDefEqProofs [k2]
    refine eff_st1 s3.swap rfl (by simp [PR.cs]) fun w4 s4 => ?_
    simp -implicitDefEqProofs [-h25_2_wp]
    have s4 : St w0 (A * pt d (.cells (r.co.cs (.slice a r.co.es.length n)).toArray 28 (0, 0)) * pt b (.cells (({ r with to' := 0 } : PR).cs (.slice ea r.en.ws.length en) (.slice a r.co.es.length n)).toArray 30 (0, 0))) w4 := by simpa [PR.cs] using s4
    refine eff_st1 s4 rfl (by simp [PR.cs]) fun w4 s4 => ?_
    simp -implicitDefEqProofs [-h25_2_wp]
    have s4 : St w0 (A * pt d (.cells (r.co.cs (.slice a r.co.es.length n)).toArray 28 (0, 0)) * pt b (.cells (({ r with to' := 0, coins := 0 } : PR).cs (.slice ea r.en.ws.length en) (.slice a r.co.es.length n)).toArray 30 (0, 0))) w4 := by simpa [PR.cs] using s4
    refine plain_tail ({ r with to' := 0, coins := 0 } : PR) r.co _ _ _ _ _ b d w0 w4 A h1 ⟨_, _, rfl⟩ hn s4.swap fun env w5 he s5 => ?_
    simp -implicitDefEqProofs [he]
    refine ⟨?_, s5⟩
    simp -implicitDefEqProofs [plainP, bareP, k2, hn]
  by_cases k3 : r.kind = 3
  · simp -implicitDefEqProofs [k3]
    refine eff_st1 s3.swap rfl (by simp [PR.cs]) fun w4 s4 => ?_
    simp -implicitDefEqProofs [-h25_2_wp]
    have s4 : St w0 (A * pt d (.cells (r.co.cs (.slice a r.co.es.length n)).toArray 28 (0, 0)) * pt b (.cells (({ r with num := 0 } : PR).cs (.slice ea r.en.ws.length en) (.slice a r.co.es.length n)).toArray 30 (0, 0))) w4 := by simpa [PR.cs] using s4
    refine eff_st1 s4 rfl (by simp [PR.cs]) fun w4 s4 => ?_
    simp -implicitDefEqProofs [-h25_2_wp]
    have s4 : St w0 (A * pt d (.cells (r.co.cs (.slice a r.co.es.length n)).toArray 28 (0, 0)) * pt b (.cells (({ r with num := 0, to' := 0 } : PR).cs (.slice ea r.en.ws.length en) (.slice a r.co.es.length n)).toArray 30 (0, 0))) w4 := by simpa [PR.cs] using s4
    refine plain_tail ({ r with num := 0, to' := 0 } : PR) r.co _ _ _ _ _ b d w0 w4 A h1 ⟨_, _, rfl⟩ hn s4.swap fun env w5 he s5 => ?_
    simp -implicitDefEqProofs [he]
    refine ⟨?_, s5⟩
    simp -implicitDefEqProofs [plainP, bareP, k3, hn]
  by_cases k4 : r.kind = 4
  · simp -implicitDefEqProofs [k4]
    refine eff_st1 s3.swap rfl (by simp [PR.cs]) fun w4 s4 => ?_
    simp -implicitDefEqProofs [-h25_2_wp]
    have s4 : St w0 (A * pt d (.cells (r.co.cs (.slice a r.co.es.length n)).toArray 28 (0, 0)) * pt b (.cells (({ r with fr := 0 } : PR).cs (.slice ea r.en.ws.length en) (.slice a r.co.es.length n)).toArray 30 (0, 0))) w4 := by simpa [PR.cs] using s4
    refine eff_st1 s4 rfl (by simp [PR.cs]) fun w4 s4 => ?_
    simp -implicitDefEqProofs [-h25_2_wp]
    have s4 : St w0 (A * pt d (.cells (r.co.cs (.slice a r.co.es.length n)).toArray 28 (0, 0)) * pt b (.cells (({ r with fr := 0, to' := 0 } : PR).cs (.slice ea r.en.ws.length en) (.slice a r.co.es.length n)).toArray 30 (0, 0))) w4 := by simpa [PR.cs] using s4
    refine eff_st1 s4 rfl (by simp [PR.cs]) fun w4 s4 => ?_
    simp -implicitDefEqProofs [-h25_2_wp]
    have s4 : St w0 (A * pt d (.cells (r.co.cs (.slice a r.co.es.length n)).toArray 28 (0, 0)) * pt b (.cells (({ r with fr := 0, to' := 0, coins := 0 } : PR).cs (.slice ea r.en.ws.length en) (.slice a r.co.es.length n)).toArray 30 (0, 0))) w4 := by simpa [PR.cs] using s4
    refine plain_tail ({ r with fr := 0, to' := 0, coins := 0 } : PR) r.co _ _ _ _ _ b d w0 w4 A h1 ⟨_, _, rfl⟩ hn s4.swap fun env w5 he s5 => ?_
    simp -implicitDefEqProofs [he]
    refine ⟨?_, s5⟩
    simp -implicitDefEqProofs [plainP, bareP, k4, hn]
  by_cases k5 : r.kind = 5
  · simp -implicitDefEqProofs [k5]
    refine eff_st1 s3.swap rfl (by simp [PR.cs]) fun w4 s4 => ?_
    simp -implicitDefEqProofs [-h25_2_wp]
    have s4 : St w0 (A * pt d (.cells (r.co.cs (.slice a r.co.es.length n)).toArray 28 (0, 0)) * pt b (.cells (({ r with item := 0 } : PR).cs (.slice ea r.en.ws.length en) (.slice a r.co.es.length n)).toArray 30 (0, 0))) w4 := by simpa [PR.cs] using s4
    refine eff_st1 s4 rfl (by simp [PR.cs]) fun w4 s4 => ?_
    simp -implicitDefEqProofs [-h25_2_wp]
    have s4 : St w0 (A * pt d (.cells (r.co.cs (.slice a r.co.es.length n)).toArray 28 (0, 0)) * pt b (.cells (({ r with item := 0, fr := 0 } : PR).cs (.slice ea r.en.ws.length en) (.slice a r.co.es.length n)).toArray 30 (0, 0))) w4 := by simpa [PR.cs] using s4
    refine eff_st1 s4 rfl (by simp [PR.cs]) fun w4 s4 => ?_
    simp -implicitDefEqProofs [-h25_2_wp]
    have s4 : St w0 (A * pt d (.cells (r.co.cs (.slice a r.co.es.length n)).toArray 28 (0, 0)) * pt b (.cells (({ r with item := 0, fr := 0, to' := 0 } : PR).cs (.slice ea r.en.ws.length en) (.slice a r.co.es.length n)).toArray 30 (0, 0))) w4 := by simpa [PR.cs] using s4
    refine plain_tail ({ r with item := 0, fr := 0, to' := 0 } : PR) r.co _ _ _ _ _ b d w0 w4 A h1 ⟨_, _, rfl⟩ hn s4.swap fun env w5 he s5 => ?_
    simp -implicitDefEqProofs [he]
    refine ⟨?_, s5⟩
    simp -implicitDefEqProofs [plainP, bareP, k5, hn]
  by_cases k6 : r.kind = 6
  · simp -implicitDefEqProofs [k6, Instr.fill]
    refine eff_stA (vs := PC.zero.cs (.slice none 0 0)) s3 rfl rfl (by simp [PC.cs, Value.oneCell']) (by simp [PC.cs]) fun w4 s4 => ?_
    simp -implicitDefEqProofs [-h25_2_wp]
    have s4 : St w0 (A * pt b (.cells (r.cs (.slice ea r.en.ws.length en) (.slice a r.co.es.length n)).toArray 30 (0, 0)) * pt d (.cells (PC.zero.cs (.slice none 0 0)).toArray 28 (0, 0))) w4 := by simpa [PC.cs] using s4
    refine plain_tail r PC.zero _ _ _ _ _ b d w0 w4 A h1 ⟨_, _, rfl⟩ rfl s4 fun env w5 he s5 => ?_
    simp -implicitDefEqProofs [he]
    refine ⟨?_, s5⟩
    rw [Bool.eq_iff_iff]
    simp -implicitDefEqProofs [plainP, bareP, emptyP, PC.zero, k6, hn]
    exact decide_eq_true_iff
  by_cases k7 : r.kind = 7
  · simp -implicitDefEqProofs [k7, Instr.fill]
    refine eff_st1 s3.swap rfl (by simp [PR.cs]) fun w4 s4 => ?_
    simp -implicitDefEqProofs [-h25_2_wp]
    have s4 : St w0 (A * pt d (.cells (r.co.cs (.slice a r.co.es.length n)).toArray 28 (0, 0)) * pt b (.cells (({ r with num := 0 } : PR).cs (.slice ea r.en.ws.length en) (.slice a r.co.es.length n)).toArray 30 (0, 0))) w4 := by simpa [PR.cs] using s4
    refine eff_stA (vs := PE.zero.cs (.slice none 0 0)) s4 rfl rfl (by simp [PE.cs, Value.oneCell']) (by simp [PR.cs]) fun w4 s4 => ?_
    simp -implicitDefEqProofs [-h25_2_wp]
    have s4 : St w0 (A * pt d (.cells (r.co.cs (.slice a r.co.es.length n)).toArray 28 (0, 0)) * pt b (.cells (({ r with num := 0, en := PE.zero } : PR).cs (.slice none 0 0) (.slice a r.co.es.length n)).toArray 30 (0, 0))) w4 := by simpa [PR.cs, PE.cs, PE.zero] using s4
    refine plain_tail ({ r with num := 0, en := PE.zero } : PR) r.co _ _ _ _ _ b d w0 w4 A (row_nil w0 A 1) ⟨_, _, rfl⟩ hn s4.swap fun env w5 he s5 => ?_
    simp -implicitDefEqProofs [he]
    refine ⟨?_, s5⟩
    simp -implicitDefEqProofs [plainP, bareP, noneP, PE.zero, k7, hn]
  by_cases k8 : r.kind = 8
  · simp -implicitDefEqProofs [k8]
    refine eff_st1 s3.swap rfl (by simp [PR.cs]) fun w4 s4 => ?_
    simp -implicitDefEqProofs [-h25_2_wp]
    have s4 : St w0 (A * pt d (.cells (r.co.cs (.slice a r.co.es.length n)).toArray 28 (0, 0)) * pt b (.cells (({ r with num := 0 } : PR).cs (.slice ea r.en.ws.length en) (.slice a r.co.es.length n)).toArray 30 (0, 0))) w4 := by simpa [PR.cs] using s4
    refine eff_st1 s4 rfl (by simp [PR.cs]) fun w4 s4 => ?_
    simp -implicitDefEqProofs [-h25_2_wp]
    have s4 : St w0 (A * pt d (.cells (r.co.cs (.slice a r.co.es.length n)).toArray 28 (0, 0)) * pt b (.cells (({ r with num := 0, fr := 0 } : PR).cs (.slice ea r.en.ws.length en) (.slice a r.co.es.length n)).toArray 30 (0, 0))) w4 := by simpa [PR.cs] using s4
    refine plain_tail ({ r with num := 0, fr := 0 } : PR) r.co _ _ _ _ _ b d w0 w4 A h1 ⟨_, _, rfl⟩ hn s4.swap fun env w5 he s5 => ?_
    simp -implicitDefEqProofs [he]
    refine ⟨?_, s5⟩
    simp -implicitDefEqProofs [plainP, bareP, k8, hn]
  by_cases k9 : r.kind = 9
  · simp -implicitDefEqProofs [k9]
    refine eff_st1 s3.swap rfl (by simp [PR.cs]) fun w4 s4 => ?_
    simp -implicitDefEqProofs [-h25_2_wp]
    have s4 : St w0 (A * pt d (.cells (r.co.cs (.slice a r.co.es.length n)).toArray 28 (0, 0)) * pt b (.cells (({ r with num := 0 } : PR).cs (.slice ea r.en.ws.length en) (.slice a r.co.es.length n)).toArray 30 (0, 0))) w4 := by simpa [PR.cs] using s4
    refine plain_tail ({ r with num := 0 } : PR) r.co _ _ _ _ _ b d w0 w4 A h1 ⟨_, _, rfl⟩ hn s4.swap fun env w5 he s5 => ?_
    simp -implicitDefEqProofs [he]
    refine ⟨?_, s5⟩
    simp -implicitDefEqProofs [plainP, bareP, k9, hn]
  by_cases k10 : r.kind = 10
  · simp -implicitDefEqProofs [k10]
    refine eff_st1 s3.swap rfl (by simp [PR.cs]) fun w4 s4 => ?_
    simp -implicitDefEqProofs [-h25_2_wp]
    have s4 : St w0 (A * pt d (.cells (r.co.cs (.slice a r.co.es.length n)).toArray 28 (0, 0)) * pt b (.cells (({ r with ticks := 0 } : PR).cs (.slice ea r.en.ws.length en) (.slice a r.co.es.length n)).toArray 30 (0, 0))) w4 := by simpa [PR.cs] using s4
    refine plain_tail ({ r with ticks := 0 } : PR) r.co _ _ _ _ _ b d w0 w4 A h1 ⟨_, _, rfl⟩ hn s4.swap fun env w5 he s5 => ?_
    simp -implicitDefEqProofs [he]
    refine ⟨?_, s5⟩
    simp -implicitDefEqProofs [plainP, bareP, k10, hn]
  have kk : ¬ (1 ≤ r.kind ∧ r.kind ≤ 10) := by omega
  simp -implicitDefEqProofs [k1, k2, k3, k4, k5, k6, k7, k8, k9, k10]
  refine ⟨?_, s3.drop.drop⟩
  simp -implicitDefEqProofs [plainP, kk]
end Go.HL.Sr
