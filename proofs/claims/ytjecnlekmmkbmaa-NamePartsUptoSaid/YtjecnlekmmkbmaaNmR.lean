/-
  Compare of bazaarref04. Conditions: texts within the bound.
-/
import Derived.Test.YtjecnlekmmkbmaaNmQ
namespace Go.HL.Nm
open Go.HL Go.Proofs
set_option maxRecDepth 4000
set_option linter.unusedSimpArgs false
set_option linter.unusedVariables false
/-- the order of rows of numbers -/
def cmpL : List Int → List Int → Int
  | [], [] => 0
  | [], _ :: _ => -1
  | _ :: _, [] => 1
  | a :: l, b :: m => if a < b then -1 else if b < a then 1 else cmpL l m
def cmpB (x y : List UInt8) : Int := if Op.bytesLess x y then -1 else if x == y then 0 else 1
def compareF (x y : List UInt8) : Int := if cmpL (foldedF x) (foldedF y) = 0 then cmpB x y else cmpL (foldedF x) (foldedF y)
/-- as far as both go, they are one -/
theorem cmpL_drop (l m : List Int) : ∀ i, i ≤ l.length → i ≤ m.length → l.take i = m.take i → cmpL l m = cmpL (l.drop i) (m.drop i) := by
  intro i
  induction i generalizing l m with
  | zero => intros; simp
  | succ i ih =>
    intro h1 h2 h
    cases l with
    | nil => simp at h1
    | cons a l =>
      cases m with
      | nil => simp at h2
      | cons b m =>
        simp only [List.take_succ_cons, List.cons.injEq] at h
        obtain ⟨rfl, h⟩ := h
        simp only [List.length_cons] at h1 h2
        rw [cmpL, if_neg (Int.lt_irrefl a), if_neg (Int.lt_irrefl a), ih l m (by omega) (by omega) h]
        rfl
theorem cmpL_end (l m : List Int) (i : Nat) (h1 : i ≤ l.length) (h2 : i ≤ m.length) (h : ¬ (i < l.length ∧ i < m.length)) : cmpL (l.drop i) (m.drop i) = if l.length < m.length then -1 else if m.length < l.length then 1 else 0 := by
  cases hl : l.drop i with
  | nil =>
    have e1 : l.length ≤ i := List.drop_eq_nil_iff.1 hl
    cases hm : m.drop i with
    | nil =>
      have e2 : m.length ≤ i := List.drop_eq_nil_iff.1 hm
      rw [if_neg (by omega), if_neg (by omega)]; rfl
    | cons b r =>
      have e2 : ¬ m.length ≤ i := fun e => by rw [List.drop_eq_nil_iff.2 e] at hm; cases hm
      rw [if_pos (by omega)]; rfl
  | cons a q =>
    have e1 : ¬ l.length ≤ i := fun e => by rw [List.drop_eq_nil_iff.2 e] at hl; cases hl
    cases hm : m.drop i with
    | nil =>
      have e2 : m.length ≤ i := List.drop_eq_nil_iff.1 hm
      rw [if_neg (by omega), if_pos (by omega)]; rfl
    | cons b r =>
      have e2 : ¬ m.length ≤ i := fun e => by rw [List.drop_eq_nil_iff.2 e] at hm; cases hm
      exact absurd ⟨by omega, by omega⟩ h
-- bazaar/bazaarref04.Compare
def h25_0 : HC := (.seq (.reg (.done [(2, (.cst (.int .i64 0)))] none)) .ret)
@[simp] theorem h25_0_wp {P : Program} {F : PF P} {Q : EX → List Value → World → Prop} {env : List Value} {w : World} : h25_0.wp F Q env w = HC.wp F (.seq (.reg (.done [(2, (.cst (.int .i64 0)))] none)) .ret) Q env w := rfl
def h25_1 : HC := (.seq (.reg (.done [(2, (.cst (.int .i64 (-1))))] none)) .ret)
@[simp] theorem h25_1_wp {P : Program} {F : PF P} {Q : EX → List Value → World → Prop} {env : List Value} {w : World} : h25_1.wp F Q env w = HC.wp F (.seq (.reg (.done [(2, (.cst (.int .i64 (-1))))] none)) .ret) Q env w := rfl
def h25_2 : HC := (.seq (.reg (.done [(2, (.cst (.int .i64 1)))] none)) .ret)
@[simp] theorem h25_2_wp {P : Program} {F : PF P} {Q : EX → List Value → World → Prop} {env : List Value} {w : World} : h25_2.wp F Q env w = HC.wp F (.seq (.reg (.done [(2, (.cst (.int .i64 1)))] none)) .ret) Q env w := rfl
def h25_3 : HC := (.seq (.reg (.done [(2, (.cst (.int .i64 (-1))))] none)) .ret)
@[simp] theorem h25_3_wp {P : Program} {F : PF P} {Q : EX → List Value → World → Prop} {env : List Value} {w : World} : h25_3.wp F Q env w = HC.wp F (.seq (.reg (.done [(2, (.cst (.int .i64 (-1))))] none)) .ret) Q env w := rfl
def h25_4 : HC := (.seq (.reg (.done [(2, (.cst (.int .i64 1)))] none)) .ret)
@[simp] theorem h25_4_wp {P : Program} {F : PF P} {Q : EX → List Value → World → Prop} {env : List Value} {w : World} : h25_4.wp F Q env w = HC.wp F (.seq (.reg (.done [(2, (.cst (.int .i64 1)))] none)) .ret) Q env w := rfl
def h25_5 : HC := (.br (.chk none (.bin .gtr) (.cons (.inp 0) (.cons (.inp 1) .nil)) (.done [] (some (.op (.bin .gtr) (.cons (.inp 0) (.cons (.inp 1) .nil)))))) h25_4 .skip)
@[simp] theorem h25_5_wp {P : Program} {F : PF P} {Q : EX → List Value → World → Prop} {env : List Value} {w : World} : h25_5.wp F Q env w = HC.wp F (.br (.chk none (.bin .gtr) (.cons (.inp 0) (.cons (.inp 1) .nil)) (.done [] (some (.op (.bin .gtr) (.cons (.inp 0) (.cons (.inp 1) .nil)))))) h25_4 .skip) Q env w := rfl
def h25_6 : HC := (.br (.chk none (.bin .lss) (.cons (.inp 0) (.cons (.inp 1) .nil)) (.done [] (some (.op (.bin .lss) (.cons (.inp 0) (.cons (.inp 1) .nil)))))) h25_3 h25_5)
@[simp] theorem h25_6_wp {P : Program} {F : PF P} {Q : EX → List Value → World → Prop} {env : List Value} {w : World} : h25_6.wp F Q env w = HC.wp F (.br (.chk none (.bin .lss) (.cons (.inp 0) (.cons (.inp 1) .nil)) (.done [] (some (.op (.bin .lss) (.cons (.inp 0) (.cons (.inp 1) .nil)))))) h25_3 h25_5) Q env w := rfl
def h25_7 : HC := (.br (.chk none .lenL (.cons (.inp 3) .nil) (.chk none .lenL (.cons (.inp 4) .nil) (.chk none (.bin .gtr) (.cons (.op .lenL (.cons (.inp 3) .nil)) (.cons (.op .lenL (.cons (.inp 4) .nil)) .nil)) (.done [] (some (.op (.bin .gtr) (.cons (.op .lenL (.cons (.inp 3) .nil)) (.cons (.op .lenL (.cons (.inp 4) .nil)) .nil)))))))) h25_2 h25_6)
@[simp] theorem h25_7_wp {P : Program} {F : PF P} {Q : EX → List Value → World → Prop} {env : List Value} {w : World} : h25_7.wp F Q env w = HC.wp F (.br (.chk none .lenL (.cons (.inp 3) .nil) (.chk none .lenL (.cons (.inp 4) .nil) (.chk none (.bin .gtr) (.cons (.op .lenL (.cons (.inp 3) .nil)) (.cons (.op .lenL (.cons (.inp 4) .nil)) .nil)) (.done [] (some (.op (.bin .gtr) (.cons (.op .lenL (.cons (.inp 3) .nil)) (.cons (.op .lenL (.cons (.inp 4) .nil)) .nil)))))))) h25_2 h25_6) Q env w := rfl
def h25_8 : HC := (.br (.chk none .lenL (.cons (.inp 3) .nil) (.chk none .lenL (.cons (.inp 4) .nil) (.chk none (.bin .lss) (.cons (.op .lenL (.cons (.inp 3) .nil)) (.cons (.op .lenL (.cons (.inp 4) .nil)) .nil)) (.done [] (some (.op (.bin .lss) (.cons (.op .lenL (.cons (.inp 3) .nil)) (.cons (.op .lenL (.cons (.inp 4) .nil)) .nil)))))))) h25_1 h25_7)
@[simp] theorem h25_8_wp {P : Program} {F : PF P} {Q : EX → List Value → World → Prop} {env : List Value} {w : World} : h25_8.wp F Q env w = HC.wp F (.br (.chk none .lenL (.cons (.inp 3) .nil) (.chk none .lenL (.cons (.inp 4) .nil) (.chk none (.bin .lss) (.cons (.op .lenL (.cons (.inp 3) .nil)) (.cons (.op .lenL (.cons (.inp 4) .nil)) .nil)) (.done [] (some (.op (.bin .lss) (.cons (.op .lenL (.cons (.inp 3) .nil)) (.cons (.op .lenL (.cons (.inp 4) .nil)) .nil)))))))) h25_1 h25_7) Q env w := rfl
def h25_9 : HC := (.seq (.block 2 h25_8) h25_0)
@[simp] theorem h25_9_wp {P : Program} {F : PF P} {Q : EX → List Value → World → Prop} {env : List Value} {w : World} : h25_9.wp F Q env w = HC.wp F (.seq (.block 2 h25_8) h25_0) Q env w := rfl
def h25_10 : HC := (.reg (.chk none (.bin .add) (.cons (.inp 5) (.cons (.cst (.int .i64 1)) .nil)) (.done [(5, (.op (.bin .add) (.cons (.inp 5) (.cons (.cst (.int .i64 1)) .nil))))] none)))
@[simp] theorem h25_10_wp {P : Program} {F : PF P} {Q : EX → List Value → World → Prop} {env : List Value} {w : World} : h25_10.wp F Q env w = HC.wp F (.reg (.chk none (.bin .add) (.cons (.inp 5) (.cons (.cst (.int .i64 1)) .nil)) (.done [(5, (.op (.bin .add) (.cons (.inp 5) (.cons (.cst (.int .i64 1)) .nil))))] none))) Q env w := rfl
def h25_11 : HC := (.seq (.reg (.done [(2, (.cst (.int .i64 1)))] none)) .ret)
@[simp] theorem h25_11_wp {P : Program} {F : PF P} {Q : EX → List Value → World → Prop} {env : List Value} {w : World} : h25_11.wp F Q env w = HC.wp F (.seq (.reg (.done [(2, (.cst (.int .i64 1)))] none)) .ret) Q env w := rfl
def h25_12 : HC := (.brq (.chk none (.idxL 1) (.cons (.inp 3) (.cons (.inp 5) .nil)) (.eff (.ld false 1) (.cons (.op (.idxL 1) (.cons (.inp 3) (.cons (.inp 5) .nil))) .nil) (.chk none (.idxL 1) (.cons (.inp 4) (.cons (.inp 5) .nil)) (.eff (.ld false 1) (.cons (.op (.idxL 1) (.cons (.inp 4) (.cons (.inp 5) .nil))) .nil) (.chk none (.bin .gtr) (.cons (.bv 0) (.cons (.bv 1) .nil)) (.done [] (some (.op (.bin .gtr) (.cons (.bv 0) (.cons (.bv 1) .nil)))))))))) h25_11 .skip)
@[simp] theorem h25_12_wp {P : Program} {F : PF P} {Q : EX → List Value → World → Prop} {env : List Value} {w : World} : h25_12.wp F Q env w = HC.wp F (.brq (.chk none (.idxL 1) (.cons (.inp 3) (.cons (.inp 5) .nil)) (.eff (.ld false 1) (.cons (.op (.idxL 1) (.cons (.inp 3) (.cons (.inp 5) .nil))) .nil) (.chk none (.idxL 1) (.cons (.inp 4) (.cons (.inp 5) .nil)) (.eff (.ld false 1) (.cons (.op (.idxL 1) (.cons (.inp 4) (.cons (.inp 5) .nil))) .nil) (.chk none (.bin .gtr) (.cons (.bv 0) (.cons (.bv 1) .nil)) (.done [] (some (.op (.bin .gtr) (.cons (.bv 0) (.cons (.bv 1) .nil)))))))))) h25_11 .skip) Q env w := rfl
def h25_13 : HC := (.seq (.reg (.done [(2, (.cst (.int .i64 (-1))))] none)) .ret)
@[simp] theorem h25_13_wp {P : Program} {F : PF P} {Q : EX → List Value → World → Prop} {env : List Value} {w : World} : h25_13.wp F Q env w = HC.wp F (.seq (.reg (.done [(2, (.cst (.int .i64 (-1))))] none)) .ret) Q env w := rfl
def h25_14 : HC := (.seq (.brq (.chk none (.idxL 1) (.cons (.inp 3) (.cons (.inp 5) .nil)) (.eff (.ld false 1) (.cons (.op (.idxL 1) (.cons (.inp 3) (.cons (.inp 5) .nil))) .nil) (.chk none (.idxL 1) (.cons (.inp 4) (.cons (.inp 5) .nil)) (.eff (.ld false 1) (.cons (.op (.idxL 1) (.cons (.inp 4) (.cons (.inp 5) .nil))) .nil) (.chk none (.bin .lss) (.cons (.bv 0) (.cons (.bv 1) .nil)) (.done [] (some (.op (.bin .lss) (.cons (.bv 0) (.cons (.bv 1) .nil)))))))))) h25_13 .skip) h25_12)
@[simp] theorem h25_14_wp {P : Program} {F : PF P} {Q : EX → List Value → World → Prop} {env : List Value} {w : World} : h25_14.wp F Q env w = HC.wp F (.seq (.brq (.chk none (.idxL 1) (.cons (.inp 3) (.cons (.inp 5) .nil)) (.eff (.ld false 1) (.cons (.op (.idxL 1) (.cons (.inp 3) (.cons (.inp 5) .nil))) .nil) (.chk none (.idxL 1) (.cons (.inp 4) (.cons (.inp 5) .nil)) (.eff (.ld false 1) (.cons (.op (.idxL 1) (.cons (.inp 4) (.cons (.inp 5) .nil))) .nil) (.chk none (.bin .lss) (.cons (.bv 0) (.cons (.bv 1) .nil)) (.done [] (some (.op (.bin .lss) (.cons (.bv 0) (.cons (.bv 1) .nil)))))))))) h25_13 .skip) h25_12) Q env w := rfl
def h25_15 : HC := (.seq (.block 1 h25_14) h25_10)
@[simp] theorem h25_15_wp {P : Program} {F : PF P} {Q : EX → List Value → World → Prop} {env : List Value} {w : World} : h25_15.wp F Q env w = HC.wp F (.seq (.block 1 h25_14) h25_10) Q env w := rfl
def h25_16 : HC := (.seq (.br (.chk none .lenL (.cons (.inp 3) .nil) (.chk none (.bin .lss) (.cons (.inp 5) (.cons (.op .lenL (.cons (.inp 3) .nil)) .nil)) (.bnd (.op (.bin .lss) (.cons (.inp 5) (.cons (.op .lenL (.cons (.inp 3) .nil)) .nil))) (.chk (some ((.bv 0), true)) .lenL (.cons (.inp 4) .nil) (.chk (some ((.bv 0), true)) (.bin .lss) (.cons (.inp 5) (.cons (.op .lenL (.cons (.inp 4) .nil)) .nil)) (.isb none (.bv 0) (.done [] (some (.ite (.bv 0) true (.op (.bin .lss) (.cons (.inp 5) (.cons (.op .lenL (.cons (.inp 4) .nil)) .nil))) (.cst (.bool false))))))))))) .skip (.exit 0)) h25_15)
@[simp] theorem h25_16_wp {P : Program} {F : PF P} {Q : EX → List Value → World → Prop} {env : List Value} {w : World} : h25_16.wp F Q env w = HC.wp F (.seq (.br (.chk none .lenL (.cons (.inp 3) .nil) (.chk none (.bin .lss) (.cons (.inp 5) (.cons (.op .lenL (.cons (.inp 3) .nil)) .nil)) (.bnd (.op (.bin .lss) (.cons (.inp 5) (.cons (.op .lenL (.cons (.inp 3) .nil)) .nil))) (.chk (some ((.bv 0), true)) .lenL (.cons (.inp 4) .nil) (.chk (some ((.bv 0), true)) (.bin .lss) (.cons (.inp 5) (.cons (.op .lenL (.cons (.inp 4) .nil)) .nil)) (.isb none (.bv 0) (.done [] (some (.ite (.bv 0) true (.op (.bin .lss) (.cons (.inp 5) (.cons (.op .lenL (.cons (.inp 4) .nil)) .nil))) (.cst (.bool false))))))))))) .skip (.exit 0)) h25_15) Q env w := rfl
def h25_17 : HC := (.loop h25_16)
@[simp] theorem h25_17_wp {P : Program} {F : PF P} {Q : EX → List Value → World → Prop} {env : List Value} {w : World} : h25_17.wp F Q env w = HC.wp F (.loop h25_16) Q env w := rfl
def h25_18 : HC := (.seq (.block 0 h25_17) h25_9)
@[simp] theorem h25_18_wp {P : Program} {F : PF P} {Q : EX → List Value → World → Prop} {env : List Value} {w : World} : h25_18.wp F Q env w = HC.wp F (.seq (.block 0 h25_17) h25_9) Q env w := rfl
def h25_19 : HC := (.seq (.reg (.done [(5, (.cst (.int .i64 0)))] none)) h25_18)
@[simp] theorem h25_19_wp {P : Program} {F : PF P} {Q : EX → List Value → World → Prop} {env : List Value} {w : World} : h25_19.wp F Q env w = HC.wp F (.seq (.reg (.done [(5, (.cst (.int .i64 0)))] none)) h25_18) Q env w := rfl
def h25_20 : HC := (.seq (.reg (.eff (.call 37) (.cons (.inp 1) .nil) (.done [(4, (.bv 0))] none))) h25_19)
@[simp] theorem h25_20_wp {P : Program} {F : PF P} {Q : EX → List Value → World → Prop} {env : List Value} {w : World} : h25_20.wp F Q env w = HC.wp F (.seq (.reg (.eff (.call 37) (.cons (.inp 1) .nil) (.done [(4, (.bv 0))] none))) h25_19) Q env w := rfl
def h25_21 : HC := (.seq (.reg (.eff (.call 37) (.cons (.inp 0) .nil) (.done [(3, (.bv 0))] none))) h25_20)
@[simp] theorem h25_21_wp {P : Program} {F : PF P} {Q : EX → List Value → World → Prop} {env : List Value} {w : World} : h25_21.wp F Q env w = HC.wp F (.seq (.reg (.eff (.call 37) (.cons (.inp 0) .nil) (.done [(3, (.bv 0))] none))) h25_20) Q env w := rfl
def l25 : Lifted := ⟨[0, 1, 4, 5, 6, 7], 62, [.slot 2], (.seq (.reg (.done [(2, (.cst (.int .i64 0)))] none)) h25_21)⟩
theorem l25_ok : liftFn F4 25 400 = some l25 := by kernel_rfl


theorem rCompare_spec (x y : List UInt8) (w0 w : World) (A : Asn) (hx : x.length ≤ 1048576) (hy : y.length ≤ 1048576) (s : St w0 A w) :
    CallW Try.prog 25 [.string (mk x), .string (mk y)] (fun r w' => r = .int .i64 (compareF x y) ∧ St w0 A w') w := by
  have hfx := folded_len x
  have hfy := folded_len y
  unfold compareF
  refine callW_of_lift l25_ok (by simp [l25]) ?_
  simp [l25]
  refine eff_call ((rfolded_spec x w0 w A hx s).mono ?_)
  intro v1 w1 s1
  simp
  refine eff_call ((rfolded_spec y w0 w1 _ hy s1).mono ?_)
  intro v2 w2 s2
  have view1 : View w0 _ .i64 v1 (foldedF x) := view_own s2.swap
  have view2 : View w0 (A * own 3 1 v1 (foldedF x).length (ints (foldedF x)) * own 3 1 v2 (foldedF y).length (ints (foldedF y))) .i64 v2 (foldedF y) := view_own s2
  replace view1 := view1.mono (fun w (s : St w0 (A * own 3 1 v1 (foldedF x).length (ints (foldedF x)) * own 3 1 v2 (foldedF y).length (ints (foldedF y))) w) => s.swap)
  obtain ⟨a1, c1, rfl, hc1, _⟩ := s2.swap.own_val
  obtain ⟨a2, c2, rfl, hc2, _⟩ := s2.own_val
  have dr : ∀ w, St w0 (A * own 3 1 (.slice a1 (foldedF x).length c1) (foldedF x).length (ints (foldedF x)) * own 3 1 (.slice a2 (foldedF y).length c2) (foldedF y).length (ints (foldedF y))) w → St w0 A w := fun w s => s.drop.drop
  generalize (A * own 3 1 (.slice a1 (foldedF x).length c1) (foldedF x).length (ints (foldedF x)) * own 3 1 (.slice a2 (foldedF y).length c2) (foldedF y).length (ints (foldedF y))) = B at *
  generalize foldedF x = us at *
  generalize foldedF y = ps at *
  simp
  refine loopI (fun env w' => ∃ (i : Nat), env = [.string (mk x), .string (mk y), .int .i64 0, .slice a1 us.length c1, .slice a2 ps.length c2, .int .i64 i] ∧ i ≤ us.length ∧ i ≤ ps.length ∧ us.take i = ps.take i ∧ St w0 B w')
    (fun env _ => us.length + 2 - slotN env 5) ⟨0, rfl, by omega, by omega, by simp, s2⟩ ?_
  rintro LQ env w' ⟨i, rfl, hi, hi2, ht, s'⟩ hN hE hR
  have hcm := cmpL_drop us ps i hi hi2 ht
  simp
  refine cndI (fun h2 => ?_) (fun h2 => ?_)
  · simp at h2
    simp
    obtain ⟨c1', cp1, e1, _, hv1⟩ := view1
    obtain ⟨c2', cp2, e2, _, hv2⟩ := view2
    cases e1
    cases e2
    obtain ⟨g1, q1, rfl, hw1⟩ := hv1 (by omega)
    obtain ⟨g2, q2, rfl, hw2⟩ := hv2 (by omega)
    have hx1 : us[i]? = some us[i] := by simp [h2.1]
    have hy1 : ps[i]? = some ps[i] := by simp [h2.2]
    rw [List.drop_eq_getElem_cons h2.1, List.drop_eq_getElem_cons h2.2, cmpL] at hcm
    have htx : us.take (i + 1) = us.take i ++ [us[i]] := by rw [List.take_succ_eq_append_getElem h2.1]
    have hty : ps.take (i + 1) = ps.take i ++ [ps[i]] := by rw [List.take_succ_eq_append_getElem h2.2]
    generalize us[i] = u1 at *
    generalize ps[i] = u2 at *
    refine brqI s' ?_
    simp
    refine ⟨h2.1, ?_⟩
    refine effq_ldc (fun w hw => hw1 w hw _ _ hx1) ?_
    simp
    refine ⟨h2.2, ?_⟩
    refine effq_ldc (fun w hw => hw2 w hw _ _ hy1) ?_
    simp
    intro w3 s3
    refine cndI (fun h3 => ?_) (fun h3 => ?_)
    · simp at h3
      rw [if_pos h3] at hcm
      simp
      refine hR _ _ ?_
      rw [hcm]
      simp
      exact dr _ s3
    simp at h3
    simp
    refine brqI s3 ?_
    simp
    refine ⟨h2.1, ?_⟩
    refine effq_ldc (fun w hw => hw1 w hw _ _ hx1) ?_
    simp
    refine ⟨h2.2, ?_⟩
    refine effq_ldc (fun w hw => hw2 w hw _ _ hy1) ?_
    simp
    intro w4 s4
    refine cndI (fun h4 => ?_) (fun h4 => ?_)
    · simp at h4
      rw [if_neg (by omega), if_pos h4] at hcm
      simp
      refine hR _ _ ?_
      rw [hcm]
      simp
      exact dr _ s4
    · simp at h4
      simp
      try simp (disch := omega) only [wrap64]
      have e : u1 = u2 := by omega
      exact hN _ _ ⟨i + 1, by simp, h2.1, h2.2, by rw [htx, hty, ht, e], s4⟩ (by simp [slotN]; omega)
  · simp at h2
    simp
    refine hE _ _ _ ?_
    rw [cmpL_end us ps i hi hi2 (by omega)] at hcm
    rw [hcm]
    simp
    refine cndI (fun h3 => ?_) (fun h3 => ?_)
    · simp at h3
      simp [h3]
      exact dr _ s'
    simp at h3
    simp
    refine cndI (fun h4 => ?_) (fun h4 => ?_)
    · simp at h4
      simp [h4, show ¬ us.length < ps.length by omega]
      exact dr _ s'
    simp at h4
    simp [show ¬ us.length < ps.length by omega, show ¬ ps.length < us.length by omega]
    refine cndI (fun h5 => ?_) (fun h5 => ?_)
    · simp [cmpB, h5]
      exact dr _ s'
    simp
    refine cndI (fun h6 => ?_) (fun h6 => ?_)
    · simp [h5] at h6
      simp [cmpB, h5, h6]
      exact dr _ s'
    · simp [h5] at h6
      subst h6
      simp [cmpB, h5]
      exact dr _ s'
end Go.HL.Nm
