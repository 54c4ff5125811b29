/-
  slices.Compare over runes, cmp.Compare. Conditions: so many units at most.
-/
import Derived.Test.YtjecnlekmmkbmaaNmR
namespace Go.HL.Nm
open Go.HL Go.Proofs
set_option maxRecDepth 4000
set_option linter.unusedSimpArgs false
set_option linter.unusedVariables false
-- cmp.isNaN[rune]
def h55_0 : HC := (.seq (.reg (.chk none (.bin .neq) (.cons (.inp 0) (.cons (.inp 0) .nil)) (.done [(1, (.op (.bin .neq) (.cons (.inp 0) (.cons (.inp 0) .nil))))] none))) .ret)
@[simp] theorem h55_0_wp {P : Program} {F : PF P} {Q : EX → List Value → World → Prop} {env : List Value} {w : World} : h55_0.wp F Q env w = HC.wp F (.seq (.reg (.chk none (.bin .neq) (.cons (.inp 0) (.cons (.inp 0) .nil)) (.done [(1, (.op (.bin .neq) (.cons (.inp 0) (.cons (.inp 0) .nil))))] none))) .ret) Q env w := rfl
def l55 : Lifted := ⟨[0, 2], 6, [.slot 1], (.seq (.reg (.done [(1, (.cst (.bool false)))] none)) h55_0)⟩
theorem l55_ok : liftFn F4 55 400 = some l55 := by kernel_rfl

-- cmp.Compare[rune]
def h51_0 : HC := (.seq (.reg (.done [(2, (.cst (.int .i64 0)))] none)) .ret)
@[simp] theorem h51_0_wp {P : Program} {F : PF P} {Q : EX → List Value → World → Prop} {env : List Value} {w : World} : h51_0.wp F Q env w = HC.wp F (.seq (.reg (.done [(2, (.cst (.int .i64 0)))] none)) .ret) Q env w := rfl
def h51_1 : HC := (.seq (.reg (.done [(2, (.cst (.int .i64 1)))] none)) .ret)
@[simp] theorem h51_1_wp {P : Program} {F : PF P} {Q : EX → List Value → World → Prop} {env : List Value} {w : World} : h51_1.wp F Q env w = HC.wp F (.seq (.reg (.done [(2, (.cst (.int .i64 1)))] none)) .ret) Q env w := rfl
def h51_2 : HC := (.seq (.br (.chk none (.bin .gtr) (.cons (.inp 0) (.cons (.inp 1) .nil)) (.done [] (some (.op (.bin .gtr) (.cons (.inp 0) (.cons (.inp 1) .nil)))))) h51_1 .skip) h51_0)
@[simp] theorem h51_2_wp {P : Program} {F : PF P} {Q : EX → List Value → World → Prop} {env : List Value} {w : World} : h51_2.wp F Q env w = HC.wp F (.seq (.br (.chk none (.bin .gtr) (.cons (.inp 0) (.cons (.inp 1) .nil)) (.done [] (some (.op (.bin .gtr) (.cons (.inp 0) (.cons (.inp 1) .nil)))))) h51_1 .skip) h51_0) Q env w := rfl
def h51_3 : HC := (.seq (.reg (.done [(2, (.cst (.int .i64 (-1))))] none)) .ret)
@[simp] theorem h51_3_wp {P : Program} {F : PF P} {Q : EX → List Value → World → Prop} {env : List Value} {w : World} : h51_3.wp F Q env w = HC.wp F (.seq (.reg (.done [(2, (.cst (.int .i64 (-1))))] none)) .ret) Q env w := rfl
def h51_4 : HC := (.seq (.br (.chk none (.bin .lss) (.cons (.inp 0) (.cons (.inp 1) .nil)) (.done [] (some (.op (.bin .lss) (.cons (.inp 0) (.cons (.inp 1) .nil)))))) h51_3 .skip) h51_2)
@[simp] theorem h51_4_wp {P : Program} {F : PF P} {Q : EX → List Value → World → Prop} {env : List Value} {w : World} : h51_4.wp F Q env w = HC.wp F (.seq (.br (.chk none (.bin .lss) (.cons (.inp 0) (.cons (.inp 1) .nil)) (.done [] (some (.op (.bin .lss) (.cons (.inp 0) (.cons (.inp 1) .nil)))))) h51_3 .skip) h51_2) Q env w := rfl
def h51_5 : HC := (.seq (.reg (.done [(2, (.cst (.int .i64 1)))] none)) .ret)
@[simp] theorem h51_5_wp {P : Program} {F : PF P} {Q : EX → List Value → World → Prop} {env : List Value} {w : World} : h51_5.wp F Q env w = HC.wp F (.seq (.reg (.done [(2, (.cst (.int .i64 1)))] none)) .ret) Q env w := rfl
def h51_6 : HC := (.seq (.br (.done [] (some (.inp 4))) h51_5 .skip) h51_4)
@[simp] theorem h51_6_wp {P : Program} {F : PF P} {Q : EX → List Value → World → Prop} {env : List Value} {w : World} : h51_6.wp F Q env w = HC.wp F (.seq (.br (.done [] (some (.inp 4))) h51_5 .skip) h51_4) Q env w := rfl
def h51_7 : HC := (.seq (.reg (.done [(2, (.cst (.int .i64 (-1))))] none)) .ret)
@[simp] theorem h51_7_wp {P : Program} {F : PF P} {Q : EX → List Value → World → Prop} {env : List Value} {w : World} : h51_7.wp F Q env w = HC.wp F (.seq (.reg (.done [(2, (.cst (.int .i64 (-1))))] none)) .ret) Q env w := rfl
def h51_8 : HC := (.seq (.reg (.done [(2, (.cst (.int .i64 0)))] none)) .ret)
@[simp] theorem h51_8_wp {P : Program} {F : PF P} {Q : EX → List Value → World → Prop} {env : List Value} {w : World} : h51_8.wp F Q env w = HC.wp F (.seq (.reg (.done [(2, (.cst (.int .i64 0)))] none)) .ret) Q env w := rfl
def h51_9 : HC := (.seq (.br (.done [] (some (.inp 4))) h51_8 .skip) h51_7)
@[simp] theorem h51_9_wp {P : Program} {F : PF P} {Q : EX → List Value → World → Prop} {env : List Value} {w : World} : h51_9.wp F Q env w = HC.wp F (.seq (.br (.done [] (some (.inp 4))) h51_8 .skip) h51_7) Q env w := rfl
def h51_10 : HC := (.seq (.br (.done [] (some (.inp 3))) h51_9 .skip) h51_6)
@[simp] theorem h51_10_wp {P : Program} {F : PF P} {Q : EX → List Value → World → Prop} {env : List Value} {w : World} : h51_10.wp F Q env w = HC.wp F (.seq (.br (.done [] (some (.inp 3))) h51_9 .skip) h51_6) Q env w := rfl
def h51_11 : HC := (.seq (.reg (.eff (.call 55) (.cons (.inp 1) .nil) (.done [(4, (.bv 0))] none))) h51_10)
@[simp] theorem h51_11_wp {P : Program} {F : PF P} {Q : EX → List Value → World → Prop} {env : List Value} {w : World} : h51_11.wp F Q env w = HC.wp F (.seq (.reg (.eff (.call 55) (.cons (.inp 1) .nil) (.done [(4, (.bv 0))] none))) h51_10) Q env w := rfl
def h51_12 : HC := (.seq (.reg (.eff (.call 55) (.cons (.inp 0) .nil) (.done [(3, (.bv 0))] none))) h51_11)
@[simp] theorem h51_12_wp {P : Program} {F : PF P} {Q : EX → List Value → World → Prop} {env : List Value} {w : World} : h51_12.wp F Q env w = HC.wp F (.seq (.reg (.eff (.call 55) (.cons (.inp 0) .nil) (.done [(3, (.bv 0))] none))) h51_11) Q env w := rfl
def l51 : Lifted := ⟨[0, 1, 4, 5, 6], 20, [.slot 2], (.seq (.reg (.done [(2, (.cst (.int .i64 0)))] none)) h51_12)⟩
theorem l51_ok : liftFn F4 51 400 = some l51 := by kernel_rfl

-- slices.Compare[[]rune,rune]
def h42_0 : HC := (.seq (.reg (.done [(2, (.cst (.int .i64 0)))] none)) .ret)
@[simp] theorem h42_0_wp {P : Program} {F : PF P} {Q : EX → List Value → World → Prop} {env : List Value} {w : World} : h42_0.wp F Q env w = HC.wp F (.seq (.reg (.done [(2, (.cst (.int .i64 0)))] none)) .ret) Q env w := rfl
def h42_1 : HC := (.seq (.reg (.done [(2, (.cst (.int .i64 (-1))))] none)) .ret)
@[simp] theorem h42_1_wp {P : Program} {F : PF P} {Q : EX → List Value → World → Prop} {env : List Value} {w : World} : h42_1.wp F Q env w = HC.wp F (.seq (.reg (.done [(2, (.cst (.int .i64 (-1))))] none)) .ret) Q env w := rfl
def h42_2 : HC := (.seq (.br (.chk none .lenL (.cons (.inp 0) .nil) (.chk none .lenL (.cons (.inp 1) .nil) (.chk none (.bin .lss) (.cons (.op .lenL (.cons (.inp 0) .nil)) (.cons (.op .lenL (.cons (.inp 1) .nil)) .nil)) (.done [] (some (.op (.bin .lss) (.cons (.op .lenL (.cons (.inp 0) .nil)) (.cons (.op .lenL (.cons (.inp 1) .nil)) .nil)))))))) h42_1 .skip) h42_0)
@[simp] theorem h42_2_wp {P : Program} {F : PF P} {Q : EX → List Value → World → Prop} {env : List Value} {w : World} : h42_2.wp F Q env w = HC.wp F (.seq (.br (.chk none .lenL (.cons (.inp 0) .nil) (.chk none .lenL (.cons (.inp 1) .nil) (.chk none (.bin .lss) (.cons (.op .lenL (.cons (.inp 0) .nil)) (.cons (.op .lenL (.cons (.inp 1) .nil)) .nil)) (.done [] (some (.op (.bin .lss) (.cons (.op .lenL (.cons (.inp 0) .nil)) (.cons (.op .lenL (.cons (.inp 1) .nil)) .nil)))))))) h42_1 .skip) h42_0) Q env w := rfl
def h42_3 : HC := (.reg (.chk none (.bin .add) (.cons (.inp 9) (.cons (.cst (.int .i64 1)) .nil)) (.done [(9, (.op (.bin .add) (.cons (.inp 9) (.cons (.cst (.int .i64 1)) .nil))))] none)))
@[simp] theorem h42_3_wp {P : Program} {F : PF P} {Q : EX → List Value → World → Prop} {env : List Value} {w : World} : h42_3.wp F Q env w = HC.wp F (.reg (.chk none (.bin .add) (.cons (.inp 9) (.cons (.cst (.int .i64 1)) .nil)) (.done [(9, (.op (.bin .add) (.cons (.inp 9) (.cons (.cst (.int .i64 1)) .nil))))] none))) Q env w := rfl
def h42_4 : HC := (.seq (.reg (.done [(2, (.inp 6))] none)) .ret)
@[simp] theorem h42_4_wp {P : Program} {F : PF P} {Q : EX → List Value → World → Prop} {env : List Value} {w : World} : h42_4.wp F Q env w = HC.wp F (.seq (.reg (.done [(2, (.inp 6))] none)) .ret) Q env w := rfl
def h42_5 : HC := (.br (.chk none (.bin .neq) (.cons (.inp 6) (.cons (.cst (.int .i64 0)) .nil)) (.done [] (some (.op (.bin .neq) (.cons (.inp 6) (.cons (.cst (.int .i64 0)) .nil)))))) h42_4 .skip)
@[simp] theorem h42_5_wp {P : Program} {F : PF P} {Q : EX → List Value → World → Prop} {env : List Value} {w : World} : h42_5.wp F Q env w = HC.wp F (.br (.chk none (.bin .neq) (.cons (.inp 6) (.cons (.cst (.int .i64 0)) .nil)) (.done [] (some (.op (.bin .neq) (.cons (.inp 6) (.cons (.cst (.int .i64 0)) .nil)))))) h42_4 .skip) Q env w := rfl
def h42_6 : HC := (.seq (.reg (.eff (.call 51) (.cons (.inp 4) (.cons (.inp 5) .nil)) (.done [(6, (.bv 0))] none))) h42_5)
@[simp] theorem h42_6_wp {P : Program} {F : PF P} {Q : EX → List Value → World → Prop} {env : List Value} {w : World} : h42_6.wp F Q env w = HC.wp F (.seq (.reg (.eff (.call 51) (.cons (.inp 4) (.cons (.inp 5) .nil)) (.done [(6, (.bv 0))] none))) h42_5) Q env w := rfl
def h42_7 : HC := (.seq (.reg (.chk none (.idxL 1) (.cons (.inp 1) (.cons (.inp 3) .nil)) (.eff (.ld false 1) (.cons (.op (.idxL 1) (.cons (.inp 1) (.cons (.inp 3) .nil))) .nil) (.done [(5, (.bv 0))] none)))) h42_6)
@[simp] theorem h42_7_wp {P : Program} {F : PF P} {Q : EX → List Value → World → Prop} {env : List Value} {w : World} : h42_7.wp F Q env w = HC.wp F (.seq (.reg (.chk none (.idxL 1) (.cons (.inp 1) (.cons (.inp 3) .nil)) (.eff (.ld false 1) (.cons (.op (.idxL 1) (.cons (.inp 1) (.cons (.inp 3) .nil))) .nil) (.done [(5, (.bv 0))] none)))) h42_6) Q env w := rfl
def h42_8 : HC := (.seq (.reg (.done [(2, (.cst (.int .i64 1)))] none)) .ret)
@[simp] theorem h42_8_wp {P : Program} {F : PF P} {Q : EX → List Value → World → Prop} {env : List Value} {w : World} : h42_8.wp F Q env w = HC.wp F (.seq (.reg (.done [(2, (.cst (.int .i64 1)))] none)) .ret) Q env w := rfl
def h42_9 : HC := (.seq (.br (.chk none .lenL (.cons (.inp 1) .nil) (.chk none (.bin .geq) (.cons (.inp 3) (.cons (.op .lenL (.cons (.inp 1) .nil)) .nil)) (.done [] (some (.op (.bin .geq) (.cons (.inp 3) (.cons (.op .lenL (.cons (.inp 1) .nil)) .nil))))))) h42_8 .skip) h42_7)
@[simp] theorem h42_9_wp {P : Program} {F : PF P} {Q : EX → List Value → World → Prop} {env : List Value} {w : World} : h42_9.wp F Q env w = HC.wp F (.seq (.br (.chk none .lenL (.cons (.inp 1) .nil) (.chk none (.bin .geq) (.cons (.inp 3) (.cons (.op .lenL (.cons (.inp 1) .nil)) .nil)) (.done [] (some (.op (.bin .geq) (.cons (.inp 3) (.cons (.op .lenL (.cons (.inp 1) .nil)) .nil))))))) h42_8 .skip) h42_7) Q env w := rfl
def h42_10 : HC := (.seq (.reg (.chk none (.idxL 1) (.cons (.inp 7) (.cons (.inp 9) .nil)) (.eff (.ld false 1) (.cons (.op (.idxL 1) (.cons (.inp 7) (.cons (.inp 9) .nil))) .nil) (.done [(3, (.inp 9)), (4, (.bv 0))] none)))) h42_9)
@[simp] theorem h42_10_wp {P : Program} {F : PF P} {Q : EX → List Value → World → Prop} {env : List Value} {w : World} : h42_10.wp F Q env w = HC.wp F (.seq (.reg (.chk none (.idxL 1) (.cons (.inp 7) (.cons (.inp 9) .nil)) (.eff (.ld false 1) (.cons (.op (.idxL 1) (.cons (.inp 7) (.cons (.inp 9) .nil))) .nil) (.done [(3, (.inp 9)), (4, (.bv 0))] none)))) h42_9) Q env w := rfl
def h42_11 : HC := (.seq (.block 1 h42_10) h42_3)
@[simp] theorem h42_11_wp {P : Program} {F : PF P} {Q : EX → List Value → World → Prop} {env : List Value} {w : World} : h42_11.wp F Q env w = HC.wp F (.seq (.block 1 h42_10) h42_3) Q env w := rfl
def h42_12 : HC := (.seq (.br (.chk none (.bin .lss) (.cons (.inp 9) (.cons (.inp 8) .nil)) (.done [] (some (.op (.bin .lss) (.cons (.inp 9) (.cons (.inp 8) .nil)))))) .skip (.exit 0)) h42_11)
@[simp] theorem h42_12_wp {P : Program} {F : PF P} {Q : EX → List Value → World → Prop} {env : List Value} {w : World} : h42_12.wp F Q env w = HC.wp F (.seq (.br (.chk none (.bin .lss) (.cons (.inp 9) (.cons (.inp 8) .nil)) (.done [] (some (.op (.bin .lss) (.cons (.inp 9) (.cons (.inp 8) .nil)))))) .skip (.exit 0)) h42_11) Q env w := rfl
def h42_13 : HC := (.loop h42_12)
@[simp] theorem h42_13_wp {P : Program} {F : PF P} {Q : EX → List Value → World → Prop} {env : List Value} {w : World} : h42_13.wp F Q env w = HC.wp F (.loop h42_12) Q env w := rfl
def h42_14 : HC := (.seq (.block 0 h42_13) h42_2)
@[simp] theorem h42_14_wp {P : Program} {F : PF P} {Q : EX → List Value → World → Prop} {env : List Value} {w : World} : h42_14.wp F Q env w = HC.wp F (.seq (.block 0 h42_13) h42_2) Q env w := rfl
def h42_15 : HC := (.seq (.reg (.chk none .lenL (.cons (.inp 0) .nil) (.done [(7, (.inp 0)), (8, (.op .lenL (.cons (.inp 0) .nil))), (9, (.cst (.int .i64 0)))] none))) h42_14)
@[simp] theorem h42_15_wp {P : Program} {F : PF P} {Q : EX → List Value → World → Prop} {env : List Value} {w : World} : h42_15.wp F Q env w = HC.wp F (.seq (.reg (.chk none .lenL (.cons (.inp 0) .nil) (.done [(7, (.inp 0)), (8, (.op .lenL (.cons (.inp 0) .nil))), (9, (.cst (.int .i64 0)))] none))) h42_14) Q env w := rfl
def l42 : Lifted := ⟨[0, 1, 4, 5, 6, 7, 8, 9, 10, 11], 36, [.slot 2], (.seq (.reg (.done [(2, (.cst (.int .i64 0)))] none)) h42_15)⟩
theorem l42_ok : liftFn F4 42 400 = some l42 := by kernel_rfl


theorem isNaN_spec (u : Int) (w : World) : CallW Try.prog 55 [.int .i32 u] (fun r w' => r = .bool false ∧ w' = w) w := by
  refine callW_of_lift l55_ok (by simp [l55]) ?_
  simp [l55]
theorem ccmp_spec (a b : Int) (w : World) : CallW Try.prog 51 [.int .i32 a, .int .i32 b] (fun r w' => r = .int .i64 (if a < b then -1 else if b < a then 1 else 0) ∧ w' = w) w := by
  refine callW_of_lift l51_ok (by simp [l51]) ?_
  simp [l51]
  refine eff_call ((isNaN_spec a w).mono ?_)
  rintro r w1 ⟨rfl, rfl⟩
  simp
  refine eff_call ((isNaN_spec b w1).mono ?_)
  rintro r w2 ⟨rfl, rfl⟩
  simp
  refine cndI (fun h => ?_) (fun h => ?_)
  · simp at h
    simp [h]
  simp at h
  simp
  refine cndI (fun h2 => ?_) (fun h2 => ?_)
  · simp at h2
    simp [h2, show ¬ a < b by omega]
  · simp at h2
    simp [show ¬ a < b by omega, show ¬ b < a by omega]
theorem scmp_spec (us ps : List Int) (v1 v2 : Value) (w0 w : World) (B : Asn) (hl : us.length ≤ 4194304) (hm : ps.length ≤ 4194304) (h1 : View w0 B .i32 v1 us) (h2 : View w0 B .i32 v2 ps) (s : St w0 B w) :
    CallW Try.prog 42 [v1, v2] (fun r w' => r = .int .i64 (cmpL us ps) ∧ St w0 B w') w := by
  obtain ⟨a1, c1, rfl, hc1, hv1⟩ := h1
  obtain ⟨a2, c2, rfl, hc2, hv2⟩ := h2
  refine callW_of_lift l42_ok (by simp [l42]) ?_
  simp [l42]
  refine loopI (fun env w' => ∃ (i : Nat) (o1 o2 o3 o4 : Value), env = [.slice a1 us.length c1, .slice a2 ps.length c2, .int .i64 0, o1, o2, o3, o4, .slice a1 us.length c1, .int .i64 us.length, .int .i64 i] ∧ i ≤ us.length ∧ i ≤ ps.length ∧ us.take i = ps.take i ∧ St w0 B w')
    (fun env _ => us.length + 2 - slotN env 9) ⟨0, _, _, _, _, rfl, by omega, by omega, by simp, s⟩ ?_
  rintro LQ env w' ⟨i, o1, o2, o3, o4, rfl, hi, hi2, ht, s'⟩ hN hE hR
  have hcm := cmpL_drop us ps i hi hi2 ht
  simp
  refine cndI (fun h2 => ?_) (fun h2 => ?_)
  · simp at h2
    obtain ⟨g1, q1, rfl, hw1⟩ := hv1 (by omega)
    have hx1 : us[i]? = some us[i] := by simp [h2]
    simp
    refine ⟨h2, eff_ldc (hw1 _ s' _ _ hx1) ?_⟩
    simp
    refine cndI (fun h3 => ?_) (fun h3 => ?_)
    · simp at h3
      rw [cmpL_end us ps i hi hi2 (by omega), if_neg (by omega), if_pos (by omega)] at hcm
      simp
      refine hR _ _ ?_
      rw [hcm]
      simp
      exact s'
    simp at h3
    obtain ⟨g2, q2, rfl, hw2⟩ := hv2 (by omega)
    have hy1 : ps[i]? = some ps[i] := by simp [show i < ps.length by omega]
    rw [List.drop_eq_getElem_cons h2, List.drop_eq_getElem_cons (show i < ps.length by omega), cmpL] at hcm
    have htx : us.take (i + 1) = us.take i ++ [us[i]] := by rw [List.take_succ_eq_append_getElem h2]
    have hty : ps.take (i + 1) = ps.take i ++ [ps[i]] := by rw [List.take_succ_eq_append_getElem (by omega)]
    generalize us[i] = u1 at *
    generalize ps[i] = u2 at *
    simp
    refine ⟨by omega, eff_ldc (hw2 _ s' _ _ hy1) ?_⟩
    simp
    refine eff_call ((ccmp_spec u1 u2 w').mono ?_)
    rintro r w3 ⟨rfl, rfl⟩
    simp
    by_cases h4 : u1 < u2
    · rw [if_pos h4] at hcm
      simp [h4]
      refine hR _ _ ?_
      rw [hcm]
      simp
      exact s'
    · by_cases h5 : u2 < u1
      · rw [if_neg h4, if_pos h5] at hcm
        simp [h4, h5]
        refine hR _ _ ?_
        rw [hcm]
        simp
        exact s'
      · simp [h4, h5]
        try simp (disch := omega) only [wrap64]
        have e : u1 = u2 := by omega
        exact hN _ _ ⟨i + 1, _, _, _, _, by simp; exact ⟨rfl, rfl, rfl, rfl⟩, h2, by omega, by rw [htx, hty, ht, e], s'⟩ (by simp [slotN]; omega)
  · simp at h2
    simp
    refine hE _ _ _ ?_
    rw [cmpL_end us ps i hi hi2 (by omega)] at hcm
    rw [hcm]
    simp
    refine cndI (fun h3 => ?_) (fun h3 => ?_)
    · simp at h3
      simp [h3]
      exact s'
    · simp at h3
      have : us.length = ps.length := by omega
      simp [this]
      exact s'
end Go.HL.Nm
