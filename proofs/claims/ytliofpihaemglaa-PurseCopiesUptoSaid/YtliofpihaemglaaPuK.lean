/-
  Purse: the law PurseNames: the walk. Conditions: texts within bounds.
-/
import Derived.Test.YtliofpihaemglaaPuJ
import Derived.Test.YtliofpihaemglaaOpen2
import Derived.Test.YtliofpihaemglaaFin
namespace Go.HL.Pu
open Go.HL Go.HL.Nm Go.Proofs
set_option maxRecDepth 4000
set_option linter.unusedSimpArgs false
set_option linter.unusedVariables false
def clsV (v : Value) (S : World → Prop) : List Value → World → Prop
  | [], w => S w
  | r :: _, w => r = v ∧ S w
@[simp] theorem clsV_nil (v : Value) (S : World → Prop) (w : World) : clsV v S [] w = S w := rfl
@[simp] theorem clsV_cons (v : Value) (S : World → Prop) (u : Value) (l : List Value) (w : World) : clsV v S (u :: l) w = (u = v ∧ S w) := rfl
theorem clsV_low {v : Value} {S : World → Prop} {vs : List Value} {w : World} (h : clsV v S vs w) : S w := by
  cases vs with
  | nil => exact h
  | cons _ _ => exact h.2
theorem gd_snoc {rows : List Ac} {x : List UInt8} (hg : Gd rows) (hx : x.length ≤ 1048576) (hl : rows.length ≠ 64) (hn : askB (keyF x) (keys rows) = false) : Gd (rows ++ [⟨x, 0⟩]) := by
  have hlen := hg.len
  refine ⟨by simp; omega, fun i h => ?_, ?_⟩
  · rw [List.length_append, List.length_singleton] at h
    by_cases e : i < rows.length
    · rw [List.getElem_append_left e]; exact hg.names i e
    · have : i = rows.length := by omega
      subst this
      simp [hx]
  · have e : keys (rows ++ [⟨x, 0⟩]) = keys rows ++ [keyF x] := by simp [keys]
    rw [e, List.nodup_append]
    refine ⟨hg.keys, by simp, fun a ha b hb => ?_⟩
    have : b = keyF x := by simpa using hb
    subst this
    rintro rfl
    have := (askB_iff _ _).2 ha
    rw [hn] at this
    cases this
theorem open_names {H : Type} {enc : TypeId × Value → H} {W : World} {spare : Nat → Bool} {v : Value} {d : DataW H} {ps : List MemPlace} (h : DataW.Trod enc Try.prog W 0 spare true 22 v d ps) {base : Nat} (hval : Value.okWide Try.prog W .any base 22 v) :
    ∃ ns : List (List UInt8), Row W (old W) v ns.length 1 (ns.flatMap fun x => [.string (mk x)]) ∧ ns.length ≤ Go.Proofs.Ytliofpihaemglaa.Rows.uptoBulk d ∧ ∀ x ∈ ns, x.length ≤ Go.Proofs.Ytliofpihaemglaa.Rows.uptoBulk d ∧ True := by
  obtain ⟨va, vl, vc, rfl⟩ := Go.WideShapes.okWide_slice Try.underlying22 hval
  obtain ⟨n, h⟩ := h
  obtain ⟨v, ns, h1, h2, h3, h4, h5, h6⟩ := open_erows (α := List UInt8) (fun x => [.string (mk x)]) 1 (fun _ => True) (fun x => x.length) Try.underlying22 (by kernel_rfl) (by decide) (fun _ => rfl) (fun n cs x hx => by
    obtain ⟨b, hb, hx, _⟩ := DataW.trod_string Try.underlying9 hx
    refine ⟨b.data.toList, by rw [hb, ← mk_eta], trivial, ?_⟩
    rw [hx]
    show _ ≤ Go.Proofs.Ytliofpihaemglaa.Rows.uptoBulk (DataW.lit (.string b.data.toList))
    rw [bulk_string]; omega) h
  have h1 : [Value.slice va vl vc] = [v] := by simpa [Value.cells] using h1
  cases h1
  exact ⟨ns, h4, h5, fun x hx => ⟨h6 x hx, trivial⟩⟩
theorem names_walk (ns : List (List UInt8)) (ask : List UInt8) (v0 : Value) (w0 w : World) (A : Asn) (ha : ask.length ≤ 1048576) (hl : ns.length ≤ 1048576) (hr : Row w0 A v0 ns.length 1 (ns.flatMap fun x => [.string (mk x)])) (hx : ∀ x ∈ ns, x.length ≤ 1048576 ∧ True) (s : St w0 A w) :
    CallW Try.prog 3 [v0, .string (mk ask)] (fun r w' => r = .bool true ∧ St w0 A w') w := by
  obtain ⟨na, ncap, rfl⟩ := hr.val
  refine callW_of_lift l3_ok (by simp [l3]) ?_
  simp [l3]
  refine eff_call ((awake_spec w0 w A s).mono ?_)
  rintro r w1 ⟨rfl, s1⟩
  simp
  refine eff_call ((New_spec 64 w0 w1 A s1).mono ?_)
  intro r w2 h2
  rw [if_pos (by decide)] at h2
  obtain ⟨p, rfl, s2⟩ := h2
  simp
  refine eff_bslO s2 (vs := [.string (mk bankB)]) (by simp [Value.oneCell']) rfl rfl (by decide) ?_
  intro v5 w3 s3
  simp
  have s4 : St w0 (A * pur p ⟨64, [⟨bankB, 0⟩], 0, 0⟩ * own 9 1 v5 [(⟨bankB, 0⟩ : Ac)].length (strs [⟨bankB, 0⟩])) w3 := s3
  have hg0 : Gd [⟨bankB, 0⟩] := ⟨by simp, fun i h => by have : i = 0 := by simpa using h
                                                        subst this; simp [bankB], by simp [keys]⟩
  refine loopI (fun env w' => ∃ (i : Nat) (rows : List Ac) (v5 o7 o8 o9 o10 o11 o12 : Value), env = [.slice na ns.length ncap, .string (mk ask), .bool false, .pointer (some ⟨p, 0, none⟩), .int .i64 0, v5, .int .i64 i, o7, o8, o9, o10, o11, o12, undef, undef, undef, undef, undef, undef, undef, undef, undef, undef, undef, undef] ∧ i ≤ ns.length ∧ Gd rows ∧
      St w0 (A * pur p ⟨64, rows, 0, 0⟩ * own 9 1 v5 rows.length (strs rows)) w')
    (fun env _ => ns.length - slotN env 6) ⟨0, _, v5, _, _, _, _, _, _, rfl, by omega, hg0, s4⟩ ?_
  clear s1 s2 s3 s4 hg0 s
  rintro LQ env w' ⟨i, rows, v5, o7, o8, o9, o10, o11, o12, rfl, hi, hg, s⟩ hN hE hR
  have hlen := hg.len
  simp
  refine cndI (fun h => ?_) (fun h => ?_)
  · simp at h
    obtain ⟨ng, no, nc', hv, hnc⟩ := hr.at (by omega)
    cases hv
    have hxl : ns[i].length ≤ 1048576 := (hx _ (List.getElem_mem h)).1
    have hcell : ∀ {w}, St w0 A w → w.cell? ⟨ng, no + i, none⟩ = some (.string (mk ns[i])) := fun s => by
      refine hnc _ s i _ ?_
      have := flat_get (fun x : List UInt8 => [Value.string (mk x)]) 1 (fun _ => rfl) ns i 0 h (by decide)
      simpa using this
    obtain ⟨x, hxe⟩ : ∃ x, ns[i] = x := ⟨_, rfl⟩
    rw [hxe] at hxl hcell
    have hcp := check_pos x
    simp [h]
    refine eff_ldc (hcell s.drop.drop) ?_
    simp
    refine eff_call ((check_spec x w0 w' _ hxl s).mono ?_)
    rintro r w1 ⟨rfl, s1⟩
    simp
    clear s
    obtain ⟨sg, scap, rfl, _, _⟩ := s1.own_at (by omega)
    -- twice?
    refine loopI (fun env w' => ∃ (k : Nat), env = [.slice (some ⟨ng, no, none⟩) ns.length ncap, .string (mk ask), .bool false, .pointer (some ⟨p, 0, none⟩), .int .i64 0, .slice (some ⟨sg, 0, none⟩) rows.length scap, .int .i64 i, .int .i64 (checkF x).1, .int .i64 (checkF x).2, .bool (anyK x (rows.take k)), .int .i64 k, o11, o12, undef, undef, undef, undef, undef, undef, undef, undef, undef, undef, undef, undef] ∧ k ≤ rows.length ∧
        St w0 (A * pur p ⟨64, rows, 0, 0⟩ * own 9 1 (.slice (some ⟨sg, 0, none⟩) rows.length scap) rows.length (strs rows)) w')
      (fun env _ => rows.length - slotN env 10) ⟨0, by simp [anyK], by omega, s1⟩ ?_
    clear s1
    rintro LQ2 env w2 ⟨k, rfl, hk, s⟩ hN2 hE2 hR2
    simp
    refine cndI (fun h2 => ?_) (fun h2 => ?_)
    · have h20 := h2
      simp at h20
      simp at h2
      have h2 : k < rows.length := by omega
      simp
      generalize hS : (A * pur p ⟨64, rows, 0, 0⟩ * own 9 1 (.slice (some ⟨sg, 0, none⟩) rows.length scap) rows.length (strs rows)) = S at s
      have hcS : ∀ {w}, St w0 S w → ∀ j u, (strs rows)[j]? = some u → w.cell? ⟨sg, j, none⟩ = some u := fun h => by
        rw [← hS] at h
        obtain ⟨_, _, hv, _, hc⟩ := h.own_at (by omega)
        cases hv; exact hc
      have hcN : ∀ {w}, St w0 S w → w.cell? ⟨ng, no + i, none⟩ = some (.string (mk x)) := fun h => by
        rw [← hS] at h
        exact hcell h.drop.drop
      have hat := anyK_take (l := rows) x h2
      refine regmI (clsV (.bool (decide (keyF rows[k].name = keyF x))) (St w0 S)) s.drew ?_
      cases hb : anyK x (rows.take k) with
      | true =>
        rw [hb] at hat
        simp
        intro w9 s9
        try simp (disch := omega) only [wrap64]
        refine hN2 _ _ ⟨k + 1, by rw [hat]; simp, by omega, by rw [hS]; exact s9⟩ (by simp [slotN]; omega)
      | false =>
        rw [hb] at hat
        simp [h20]
        refine effm_ldc (v := .string (mk rows[k].name)) (fun vs' w he hw => hcS (clsV_low hw) k _ (strs_at h2)) ?_
        simp [h]
        refine effm_ldc (v := .string (mk x)) (fun vs' w he hw => hcN (clsV_low hw)) ?_
        simp
        refine effm_mv rfl (fun w hw => eff_call ((same_spec rows[k].name x w0 w S (hg.names k h2) hxl hw).mono fun r w' h => ?_)) (fun r hr => ?_)
        · obtain ⟨rfl, h⟩ := h
          refine ⟨?_, h⟩
          congr 1
          rw [Bool.eq_iff_iff]
          simp only [beq_iff_eq, decide_eq_true_eq]
          exact Iff.rfl
        obtain ⟨_, rfl, _⟩ := hr
        simp
        intro w9 s9
        try simp (disch := omega) only [wrap64]
        refine hN2 _ _ ⟨k + 1, by rw [hat]; simp, by omega, by rw [hS]; exact s9⟩ (by simp [slotN]; omega)
    simp at h2
    simp
    refine hE2 _ _ _ ?_
    have hke : k = rows.length := by omega
    subst hke
    rw [List.take_length]
    simp [h]
    refine eff_ldc (hcell s.drop.drop) ?_
    simp
    refine eff_call ((Open_spec p ⟨64, rows, 0, 0⟩ x w0 w2 (A * own 9 1 (.slice (some ⟨sg, 0, none⟩) rows.length scap) rows.length (strs rows)) hxl (by show rows.length ≤ _; omega) (s.to (by ac_rfl))).mono ?_)
    rintro r w4 ⟨rfl, s4⟩
    have hask := anyK_ask x rows
    simp
    clear s
    by_cases hb : (checkF x).2 = 0
    · cases ha2 : anyK x rows with
      | true =>
        rw [ha2] at hask
        have ho : openF ⟨64, rows, 0, 0⟩ x = (0, 140, ⟨64, rows, 0, 0⟩) := by unfold openF; rw [if_pos hb, if_pos hask.symm]
        rw [ho] at s4 ⊢
        simp [hb]
        try simp (disch := omega) only [wrap64]
        exact hN _ _ ⟨i + 1, rows, _, _, _, _, _, _, _, by simp; exact ⟨rfl, rfl, rfl, rfl, rfl, rfl, rfl⟩, by omega, hg, s4.to (by ac_rfl)⟩ (by simp [slotN]; omega)
      | false =>
        rw [ha2] at hask
        by_cases h64 : rows.length = 64
        · have ho : openF ⟨64, rows, 0, 0⟩ x = (0, 141, ⟨64, rows, 0, 0⟩) := by unfold openF; rw [if_pos hb, if_neg (by rw [← hask]; decide), if_pos (by show (rows.length : Int) = 64; omega)]
          rw [ho] at s4 ⊢
          simp [hb]
          refine cndI (fun h3 => ?_) (fun h3 => ?_)
          · simp
            try simp (disch := omega) only [wrap64]
            exact hN _ _ ⟨i + 1, rows, _, _, _, _, _, _, _, by simp; exact ⟨rfl, rfl, rfl, rfl, rfl, rfl, rfl⟩, by omega, hg, s4.to (by ac_rfl)⟩ (by simp [slotN]; omega)
          · simp at h3
            omega
        · have ho : openF ⟨64, rows, 0, 0⟩ x = ((rows.length : Int), 0, (⟨64, rows ++ [⟨x, 0⟩], 0, 0⟩ : Ps)) := by unfold openF; rw [if_pos hb, if_neg (by rw [← hask]; decide), if_neg (by show ¬ (rows.length : Int) = 64; omega)]
          rw [ho] at s4 ⊢
          simp [hb]
          refine cndI (fun h3 => ?_) (fun h3 => ?_)
          · simp at h3
            omega
          simp [h]
          refine eff_ldc (hcell s4.drop.drop) ?_
          simp
          refine eff_bsl1 s4 rfl ?_
          intro c w5 s5
          simp
          refine eff_app (m := 1) (news := [.string (mk x)]) (s5.to (B := A * pur p ⟨64, rows ++ [⟨x, 0⟩], 0, 0⟩ * pt c (.cells #[.string (mk x)] 9 (0, 0)) * own 9 1 (.slice (some ⟨sg, 0, none⟩) rows.length scap) rows.length (strs rows)) (by ac_rfl)) rfl s5.cells_look (by simp [Value.oneCell']) (by decide) rfl (by unfold maxLen; omega) (by omega) ?_
          intro v5' w6 s6
          simp
          try simp (disch := omega) only [wrap64]
          have e1 : strs rows ++ [.string (mk x)] = strs (rows ++ [⟨x, 0⟩]) := by simp [strs]
          have e2 : rows.length + 1 = (rows ++ [(⟨x, 0⟩ : Ac)]).length := by simp
          rw [e1, e2] at s6
          exact hN _ _ ⟨i + 1, rows ++ [⟨x, 0⟩], v5', _, _, _, _, _, _, by simp; exact ⟨rfl, rfl, rfl, rfl, rfl, rfl⟩, by omega, gd_snoc hg hxl h64 hask.symm, St.cut (pt c (.cells #[.string (mk x)] 9 (0, 0))) s6 (by ac_rfl)⟩ (by simp [slotN]; omega)
    · have ho : openF ⟨64, rows, 0, 0⟩ x = (0, (checkF x).2, ⟨64, rows, 0, 0⟩) := by unfold openF; rw [if_neg hb]
      rw [ho] at s4 ⊢
      simp [hb]
      refine cndI (fun h3 => ?_) (fun h3 => ?_)
      · simp at h3
        omega
      simp
      try simp (disch := omega) only [wrap64]
      exact hN _ _ ⟨i + 1, rows, _, _, _, _, _, _, _, by simp; exact ⟨rfl, rfl, rfl, rfl, rfl, rfl, rfl⟩, by omega, hg, s4.to (by ac_rfl)⟩ (by simp [slotN]; omega)
  simp at h
  simp
  refine hE _ _ _ ?_
  have key := names_mid (.slice na ns.length ncap) ask rows p (.int .i64 0) v5 (.int .i64 i) o7 o8 o9 o10 o11 o12 undef undef undef undef undef undef undef undef undef undef undef undef w0 w' A A (fun _ h => h) ha hg s
  simpa using key
end Go.HL.Pu
