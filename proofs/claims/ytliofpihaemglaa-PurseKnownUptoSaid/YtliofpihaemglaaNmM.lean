/-
  Fold and Look of bazaarref04 and of name. Conditions: texts within the bound.
-/
import Derived.Test.YtliofpihaemglaaNmL
namespace Go.HL.Nm
open Go.HL Go.Proofs
set_option maxRecDepth 4000
set_option linter.unusedSimpArgs false
set_option linter.unusedVariables false
theorem chkF_ok (b : Int) (r : List UInt8) (v : Int) (n : Nat) (least : Int) (hb : 0 ≤ b ∧ b < 256) (hv : 0 ≤ v) : okU (chkF b r v n least).1 := by
  unfold chkF okU
  split
  · rename_i u hu
    have := tailF_bd n r v u hv hu
    split
    · simp only; omega
    · simp only; omega
  · simp only; omega
theorem oneF_okU {l : List UInt8} (h : l ≠ []) : okU (oneF l).1 := by
  cases l with
  | nil => exact absurd rfl h
  | cons c r =>
    have hc := c.toNat_lt
    rw [oneF_cons]
    split
    · unfold okU; simp only; omega
    split
    · exact chkF_ok c.toNat r (c.toNat - 192) 1 128 (by omega) (by omega)
    split
    · exact chkF_ok c.toNat r (c.toNat - 224) 2 2048 (by omega) (by omega)
    split
    · exact chkF_ok c.toNat r (c.toNat - 240) 3 65536 (by omega) (by omega)
    · unfold okU; simp only; omega
theorem okU_foldF {u : Int} (h : okU u) : okU (foldF u) := by unfold okU at h ⊢; unfold foldF; repeat' split
                                                              all_goals omega
theorem okU_looksF {u : Int} (h : okU u) : okU (looksF u) := by
  have : looksF u = u ∨ (45 ≤ looksF u ∧ looksF u ≤ 121) := by unfold looksF; (repeat' split) <;> omega
  unfold okU at h ⊢
  omega
/-- two that look like one -/
def pairF : List Int → List Int
  | 114 :: 110 :: r => 109 :: pairF r
  | 118 :: 118 :: r => 119 :: pairF r
  | u :: r => u :: pairF r
  | [] => []
def lookF (l : List UInt8) : List Int := pairF ((foldedF l).map looksF)
theorem units_ok : ∀ (n : Nat) (l : List UInt8), l.length ≤ n → ∀ u ∈ units l, okU u.1
  | 0, l, h => by
    have : l = [] := List.eq_nil_of_length_eq_zero (by omega)
    subst this
    simp [units_nil]
  | n + 1, l, h => by
    by_cases he : l = []
    · subst he; simp [units_nil]
    · have hb := oneF_bd he
      rw [units_cons he]
      intro u hu
      rcases List.mem_cons.1 hu with rfl | hu
      · exact oneF_okU he
      · exact units_ok n _ (by simp; omega) u hu
theorem folded_ok (l : List UInt8) : ∀ u ∈ foldedF l, okU u := by
  intro u hu
  simp only [foldedF, foldAll, List.mem_flatMap] at hu
  obtain ⟨x, hx, hu⟩ := hu
  have hk := units_ok _ l (Nat.le_refl _) x hx
  unfold foldU at hu
  split at hu
  · have : u = 115 := by simpa using hu
    subst this
    exact .inl (by omega)
  · have : u = foldF x.1 := by simpa using hu
    subst this
    exact okU_foldF hk
theorem folded_len (l : List UInt8) : (foldedF l).length ≤ 2 * l.length := by
  have h1 := foldAll_len (units l)
  have h2 := units_len l
  unfold foldedF
  omega
-- bazaar/bazaarref04.Fold
def h83_0 : HC := (.seq (.reg (.eff (.call 92) (.cons (.inp 0) .nil) (.eff (.call 91) (.cons (.bv 0) .nil) (.done [(1, (.bv 1))] none)))) .ret)
@[simp] theorem h83_0_wp {P : Program} {F : PF P} {Q : EX → List Value → World → Prop} {env : List Value} {w : World} : h83_0.wp F Q env w = HC.wp F (.seq (.reg (.eff (.call 92) (.cons (.inp 0) .nil) (.eff (.call 91) (.cons (.bv 0) .nil) (.done [(1, (.bv 1))] none)))) .ret) Q env w := rfl
def l83 : Lifted := ⟨[0, 2], 6, [.slot 1], (.seq (.reg (.done [(1, (.cst (.string ⟨#[]⟩)))] none)) h83_0)⟩
theorem l83_ok : liftFn F4 83 400 = some l83 := by kernel_rfl

-- bazaar/name.Fold
def h15_0 : HC := (.seq (.reg (.eff (.call 50) (.cons (.inp 0) .nil) (.eff (.call 49) (.cons (.bv 0) .nil) (.done [(1, (.bv 1))] none)))) .ret)
@[simp] theorem h15_0_wp {P : Program} {F : PF P} {Q : EX → List Value → World → Prop} {env : List Value} {w : World} : h15_0.wp F Q env w = HC.wp F (.seq (.reg (.eff (.call 50) (.cons (.inp 0) .nil) (.eff (.call 49) (.cons (.bv 0) .nil) (.done [(1, (.bv 1))] none)))) .ret) Q env w := rfl
def l15 : Lifted := ⟨[0, 2], 6, [.slot 1], (.seq (.reg (.done [(1, (.cst (.string ⟨#[]⟩)))] none)) h15_0)⟩
theorem l15_ok : liftFn F4 15 400 = some l15 := by kernel_rfl

-- bazaar/bazaarref04.Look
def h86_0 : HC := (.seq (.reg (.eff (.call 91) (.cons (.inp 4) .nil) (.done [(1, (.bv 0))] none))) .ret)
@[simp] theorem h86_0_wp {P : Program} {F : PF P} {Q : EX → List Value → World → Prop} {env : List Value} {w : World} : h86_0.wp F Q env w = HC.wp F (.seq (.reg (.eff (.call 91) (.cons (.inp 4) .nil) (.done [(1, (.bv 0))] none))) .ret) Q env w := rfl
def h86_1 : HC := (.reg (.chk none (.bin .add) (.cons (.inp 5) (.cons (.cst (.int .i64 1)) .nil)) (.done [(5, (.op (.bin .add) (.cons (.inp 5) (.cons (.cst (.int .i64 1)) .nil))))] none)))
@[simp] theorem h86_1_wp {P : Program} {F : PF P} {Q : EX → List Value → World → Prop} {env : List Value} {w : World} : h86_1.wp F Q env w = HC.wp F (.reg (.chk none (.bin .add) (.cons (.inp 5) (.cons (.cst (.int .i64 1)) .nil)) (.done [(5, (.op (.bin .add) (.cons (.inp 5) (.cons (.cst (.int .i64 1)) .nil))))] none))) Q env w := rfl
def h86_2 : HC := (.reg (.chk none (.idxL 1) (.cons (.inp 2) (.cons (.inp 5) .nil)) (.eff (.ld false 1) (.cons (.op (.idxL 1) (.cons (.inp 2) (.cons (.inp 5) .nil))) .nil) (.eff (.bsl 3 1 1 #[(.int .i64 0)] [0]) (.cons (.bv 0) .nil) (.eff (.app 35 35 3 1 8 (.int .i64 0)) (.cons (.inp 4) (.cons (.bv 1) .nil)) (.done [(4, (.bv 2))] none))))))
@[simp] theorem h86_2_wp {P : Program} {F : PF P} {Q : EX → List Value → World → Prop} {env : List Value} {w : World} : h86_2.wp F Q env w = HC.wp F (.reg (.chk none (.idxL 1) (.cons (.inp 2) (.cons (.inp 5) .nil)) (.eff (.ld false 1) (.cons (.op (.idxL 1) (.cons (.inp 2) (.cons (.inp 5) .nil))) .nil) (.eff (.bsl 3 1 1 #[(.int .i64 0)] [0]) (.cons (.bv 0) .nil) (.eff (.app 35 35 3 1 8 (.int .i64 0)) (.cons (.inp 4) (.cons (.bv 1) .nil)) (.done [(4, (.bv 2))] none)))))) Q env w := rfl
def h86_3 : HC := (.reg (.chk none (.bin .add) (.cons (.inp 5) (.cons (.cst (.int .i64 1)) .nil)) (.done [(5, (.op (.bin .add) (.cons (.inp 5) (.cons (.cst (.int .i64 1)) .nil))))] none)))
@[simp] theorem h86_3_wp {P : Program} {F : PF P} {Q : EX → List Value → World → Prop} {env : List Value} {w : World} : h86_3.wp F Q env w = HC.wp F (.reg (.chk none (.bin .add) (.cons (.inp 5) (.cons (.cst (.int .i64 1)) .nil)) (.done [(5, (.op (.bin .add) (.cons (.inp 5) (.cons (.cst (.int .i64 1)) .nil))))] none))) Q env w := rfl
def h86_4 : HC := (.seq (.reg (.eff (.bsl 3 1 1 #[(.int .i64 0)] [0]) (.cons (.inp 6) .nil) (.eff (.app 35 35 3 1 8 (.int .i64 0)) (.cons (.inp 4) (.cons (.bv 0) .nil)) (.done [(4, (.bv 1))] none)))) h86_3)
@[simp] theorem h86_4_wp {P : Program} {F : PF P} {Q : EX → List Value → World → Prop} {env : List Value} {w : World} : h86_4.wp F Q env w = HC.wp F (.seq (.reg (.eff (.bsl 3 1 1 #[(.int .i64 0)] [0]) (.cons (.inp 6) .nil) (.eff (.app 35 35 3 1 8 (.int .i64 0)) (.cons (.inp 4) (.cons (.bv 0) .nil)) (.done [(4, (.bv 1))] none)))) h86_3) Q env w := rfl
def h86_5 : HC := (.br (.chk none (.bin .eql) (.cons (.inp 6) (.cons (.cst (.int .i64 0)) .nil)) (.done [] (some (.op (.bin .eql) (.cons (.inp 6) (.cons (.cst (.int .i64 0)) .nil)))))) h86_2 h86_4)
@[simp] theorem h86_5_wp {P : Program} {F : PF P} {Q : EX → List Value → World → Prop} {env : List Value} {w : World} : h86_5.wp F Q env w = HC.wp F (.br (.chk none (.bin .eql) (.cons (.inp 6) (.cons (.cst (.int .i64 0)) .nil)) (.done [] (some (.op (.bin .eql) (.cons (.inp 6) (.cons (.cst (.int .i64 0)) .nil)))))) h86_2 h86_4) Q env w := rfl
def h86_6 : HC := (.reg (.done [(6, (.cst (.int .i64 119)))] none))
@[simp] theorem h86_6_wp {P : Program} {F : PF P} {Q : EX → List Value → World → Prop} {env : List Value} {w : World} : h86_6.wp F Q env w = HC.wp F (.reg (.done [(6, (.cst (.int .i64 119)))] none)) Q env w := rfl
def h86_7 : HC := (.seq (.br (.chk none (.bin .add) (.cons (.inp 5) (.cons (.cst (.int .i64 1)) .nil)) (.chk none .lenL (.cons (.inp 2) .nil) (.chk none (.bin .lss) (.cons (.op (.bin .add) (.cons (.inp 5) (.cons (.cst (.int .i64 1)) .nil))) (.cons (.op .lenL (.cons (.inp 2) .nil)) .nil)) (.bnd (.op (.bin .lss) (.cons (.op (.bin .add) (.cons (.inp 5) (.cons (.cst (.int .i64 1)) .nil))) (.cons (.op .lenL (.cons (.inp 2) .nil)) .nil))) (.chk (some ((.bv 0), true)) (.idxL 1) (.cons (.inp 2) (.cons (.inp 5) .nil)) (.ite (.bv 0) true (.eff (.ld false 1) (.cons (.ite (.bv 0) true (.op (.idxL 1) (.cons (.inp 2) (.cons (.inp 5) .nil))) (.cst (.tuple #[]))) .nil) (.chk none (.bin .eql) (.cons (.bv 1) (.cons (.cst (.int .i64 118)) .nil)) (.isb none (.bv 0) (.bnd (.op (.bin .eql) (.cons (.bv 1) (.cons (.cst (.int .i64 118)) .nil))) (.chk (some ((.bv 2), true)) (.bin .add) (.cons (.inp 5) (.cons (.cst (.int .i64 1)) .nil)) (.chk (some ((.bv 2), true)) (.idxL 1) (.cons (.inp 2) (.cons (.op (.bin .add) (.cons (.inp 5) (.cons (.cst (.int .i64 1)) .nil))) .nil)) (.ite (.bv 2) true (.eff (.ld false 1) (.cons (.ite (.bv 2) true (.op (.idxL 1) (.cons (.inp 2) (.cons (.op (.bin .add) (.cons (.inp 5) (.cons (.cst (.int .i64 1)) .nil))) .nil))) (.cst (.tuple #[]))) .nil) (.chk none (.bin .eql) (.cons (.bv 3) (.cons (.cst (.int .i64 118)) .nil)) (.isb none (.bv 2) (.done [] (some (.op (.bin .eql) (.cons (.bv 3) (.cons (.cst (.int .i64 118)) .nil)))))))) (.isb none (.bv 2) (.done [] (some (.cst (.bool false)))))))))))) (.isb none (.bv 0) (.isb none (.cst (.bool false)) (.done [] (some (.cst (.bool false)))))))))))) h86_6 .skip) h86_5)
@[simp] theorem h86_7_wp {P : Program} {F : PF P} {Q : EX → List Value → World → Prop} {env : List Value} {w : World} : h86_7.wp F Q env w = HC.wp F (.seq (.br (.chk none (.bin .add) (.cons (.inp 5) (.cons (.cst (.int .i64 1)) .nil)) (.chk none .lenL (.cons (.inp 2) .nil) (.chk none (.bin .lss) (.cons (.op (.bin .add) (.cons (.inp 5) (.cons (.cst (.int .i64 1)) .nil))) (.cons (.op .lenL (.cons (.inp 2) .nil)) .nil)) (.bnd (.op (.bin .lss) (.cons (.op (.bin .add) (.cons (.inp 5) (.cons (.cst (.int .i64 1)) .nil))) (.cons (.op .lenL (.cons (.inp 2) .nil)) .nil))) (.chk (some ((.bv 0), true)) (.idxL 1) (.cons (.inp 2) (.cons (.inp 5) .nil)) (.ite (.bv 0) true (.eff (.ld false 1) (.cons (.ite (.bv 0) true (.op (.idxL 1) (.cons (.inp 2) (.cons (.inp 5) .nil))) (.cst (.tuple #[]))) .nil) (.chk none (.bin .eql) (.cons (.bv 1) (.cons (.cst (.int .i64 118)) .nil)) (.isb none (.bv 0) (.bnd (.op (.bin .eql) (.cons (.bv 1) (.cons (.cst (.int .i64 118)) .nil))) (.chk (some ((.bv 2), true)) (.bin .add) (.cons (.inp 5) (.cons (.cst (.int .i64 1)) .nil)) (.chk (some ((.bv 2), true)) (.idxL 1) (.cons (.inp 2) (.cons (.op (.bin .add) (.cons (.inp 5) (.cons (.cst (.int .i64 1)) .nil))) .nil)) (.ite (.bv 2) true (.eff (.ld false 1) (.cons (.ite (.bv 2) true (.op (.idxL 1) (.cons (.inp 2) (.cons (.op (.bin .add) (.cons (.inp 5) (.cons (.cst (.int .i64 1)) .nil))) .nil))) (.cst (.tuple #[]))) .nil) (.chk none (.bin .eql) (.cons (.bv 3) (.cons (.cst (.int .i64 118)) .nil)) (.isb none (.bv 2) (.done [] (some (.op (.bin .eql) (.cons (.bv 3) (.cons (.cst (.int .i64 118)) .nil)))))))) (.isb none (.bv 2) (.done [] (some (.cst (.bool false)))))))))))) (.isb none (.bv 0) (.isb none (.cst (.bool false)) (.done [] (some (.cst (.bool false)))))))))))) h86_6 .skip) h86_5) Q env w := rfl
def h86_8 : HC := (.reg (.done [(6, (.cst (.int .i64 109)))] none))
@[simp] theorem h86_8_wp {P : Program} {F : PF P} {Q : EX → List Value → World → Prop} {env : List Value} {w : World} : h86_8.wp F Q env w = HC.wp F (.reg (.done [(6, (.cst (.int .i64 109)))] none)) Q env w := rfl
def h86_9 : HC := (.seq (.br (.chk none (.bin .add) (.cons (.inp 5) (.cons (.cst (.int .i64 1)) .nil)) (.chk none .lenL (.cons (.inp 2) .nil) (.chk none (.bin .lss) (.cons (.op (.bin .add) (.cons (.inp 5) (.cons (.cst (.int .i64 1)) .nil))) (.cons (.op .lenL (.cons (.inp 2) .nil)) .nil)) (.bnd (.op (.bin .lss) (.cons (.op (.bin .add) (.cons (.inp 5) (.cons (.cst (.int .i64 1)) .nil))) (.cons (.op .lenL (.cons (.inp 2) .nil)) .nil))) (.chk (some ((.bv 0), true)) (.idxL 1) (.cons (.inp 2) (.cons (.inp 5) .nil)) (.ite (.bv 0) true (.eff (.ld false 1) (.cons (.ite (.bv 0) true (.op (.idxL 1) (.cons (.inp 2) (.cons (.inp 5) .nil))) (.cst (.tuple #[]))) .nil) (.chk none (.bin .eql) (.cons (.bv 1) (.cons (.cst (.int .i64 114)) .nil)) (.isb none (.bv 0) (.bnd (.op (.bin .eql) (.cons (.bv 1) (.cons (.cst (.int .i64 114)) .nil))) (.chk (some ((.bv 2), true)) (.bin .add) (.cons (.inp 5) (.cons (.cst (.int .i64 1)) .nil)) (.chk (some ((.bv 2), true)) (.idxL 1) (.cons (.inp 2) (.cons (.op (.bin .add) (.cons (.inp 5) (.cons (.cst (.int .i64 1)) .nil))) .nil)) (.ite (.bv 2) true (.eff (.ld false 1) (.cons (.ite (.bv 2) true (.op (.idxL 1) (.cons (.inp 2) (.cons (.op (.bin .add) (.cons (.inp 5) (.cons (.cst (.int .i64 1)) .nil))) .nil))) (.cst (.tuple #[]))) .nil) (.chk none (.bin .eql) (.cons (.bv 3) (.cons (.cst (.int .i64 110)) .nil)) (.isb none (.bv 2) (.done [] (some (.op (.bin .eql) (.cons (.bv 3) (.cons (.cst (.int .i64 110)) .nil)))))))) (.isb none (.bv 2) (.done [] (some (.cst (.bool false)))))))))))) (.isb none (.bv 0) (.isb none (.cst (.bool false)) (.done [] (some (.cst (.bool false)))))))))))) h86_8 .skip) h86_7)
@[simp] theorem h86_9_wp {P : Program} {F : PF P} {Q : EX → List Value → World → Prop} {env : List Value} {w : World} : h86_9.wp F Q env w = HC.wp F (.seq (.br (.chk none (.bin .add) (.cons (.inp 5) (.cons (.cst (.int .i64 1)) .nil)) (.chk none .lenL (.cons (.inp 2) .nil) (.chk none (.bin .lss) (.cons (.op (.bin .add) (.cons (.inp 5) (.cons (.cst (.int .i64 1)) .nil))) (.cons (.op .lenL (.cons (.inp 2) .nil)) .nil)) (.bnd (.op (.bin .lss) (.cons (.op (.bin .add) (.cons (.inp 5) (.cons (.cst (.int .i64 1)) .nil))) (.cons (.op .lenL (.cons (.inp 2) .nil)) .nil))) (.chk (some ((.bv 0), true)) (.idxL 1) (.cons (.inp 2) (.cons (.inp 5) .nil)) (.ite (.bv 0) true (.eff (.ld false 1) (.cons (.ite (.bv 0) true (.op (.idxL 1) (.cons (.inp 2) (.cons (.inp 5) .nil))) (.cst (.tuple #[]))) .nil) (.chk none (.bin .eql) (.cons (.bv 1) (.cons (.cst (.int .i64 114)) .nil)) (.isb none (.bv 0) (.bnd (.op (.bin .eql) (.cons (.bv 1) (.cons (.cst (.int .i64 114)) .nil))) (.chk (some ((.bv 2), true)) (.bin .add) (.cons (.inp 5) (.cons (.cst (.int .i64 1)) .nil)) (.chk (some ((.bv 2), true)) (.idxL 1) (.cons (.inp 2) (.cons (.op (.bin .add) (.cons (.inp 5) (.cons (.cst (.int .i64 1)) .nil))) .nil)) (.ite (.bv 2) true (.eff (.ld false 1) (.cons (.ite (.bv 2) true (.op (.idxL 1) (.cons (.inp 2) (.cons (.op (.bin .add) (.cons (.inp 5) (.cons (.cst (.int .i64 1)) .nil))) .nil))) (.cst (.tuple #[]))) .nil) (.chk none (.bin .eql) (.cons (.bv 3) (.cons (.cst (.int .i64 110)) .nil)) (.isb none (.bv 2) (.done [] (some (.op (.bin .eql) (.cons (.bv 3) (.cons (.cst (.int .i64 110)) .nil)))))))) (.isb none (.bv 2) (.done [] (some (.cst (.bool false)))))))))))) (.isb none (.bv 0) (.isb none (.cst (.bool false)) (.done [] (some (.cst (.bool false)))))))))))) h86_8 .skip) h86_7) Q env w := rfl
def h86_10 : HC := (.seq (.reg (.done [(6, (.cst (.int .i64 0)))] none)) h86_9)
@[simp] theorem h86_10_wp {P : Program} {F : PF P} {Q : EX → List Value → World → Prop} {env : List Value} {w : World} : h86_10.wp F Q env w = HC.wp F (.seq (.reg (.done [(6, (.cst (.int .i64 0)))] none)) h86_9) Q env w := rfl
def h86_11 : HC := (.seq (.block 3 h86_10) h86_1)
@[simp] theorem h86_11_wp {P : Program} {F : PF P} {Q : EX → List Value → World → Prop} {env : List Value} {w : World} : h86_11.wp F Q env w = HC.wp F (.seq (.block 3 h86_10) h86_1) Q env w := rfl
def h86_12 : HC := (.seq (.br (.chk none .lenL (.cons (.inp 2) .nil) (.chk none (.bin .lss) (.cons (.inp 5) (.cons (.op .lenL (.cons (.inp 2) .nil)) .nil)) (.done [] (some (.op (.bin .lss) (.cons (.inp 5) (.cons (.op .lenL (.cons (.inp 2) .nil)) .nil))))))) .skip (.exit 2)) h86_11)
@[simp] theorem h86_12_wp {P : Program} {F : PF P} {Q : EX → List Value → World → Prop} {env : List Value} {w : World} : h86_12.wp F Q env w = HC.wp F (.seq (.br (.chk none .lenL (.cons (.inp 2) .nil) (.chk none (.bin .lss) (.cons (.inp 5) (.cons (.op .lenL (.cons (.inp 2) .nil)) .nil)) (.done [] (some (.op (.bin .lss) (.cons (.inp 5) (.cons (.op .lenL (.cons (.inp 2) .nil)) .nil))))))) .skip (.exit 2)) h86_11) Q env w := rfl
def h86_13 : HC := (.loop h86_12)
@[simp] theorem h86_13_wp {P : Program} {F : PF P} {Q : EX → List Value → World → Prop} {env : List Value} {w : World} : h86_13.wp F Q env w = HC.wp F (.loop h86_12) Q env w := rfl
def h86_14 : HC := (.seq (.block 2 h86_13) h86_0)
@[simp] theorem h86_14_wp {P : Program} {F : PF P} {Q : EX → List Value → World → Prop} {env : List Value} {w : World} : h86_14.wp F Q env w = HC.wp F (.seq (.block 2 h86_13) h86_0) Q env w := rfl
def h86_15 : HC := (.seq (.reg (.done [(5, (.cst (.int .i64 0)))] none)) h86_14)
@[simp] theorem h86_15_wp {P : Program} {F : PF P} {Q : EX → List Value → World → Prop} {env : List Value} {w : World} : h86_15.wp F Q env w = HC.wp F (.seq (.reg (.done [(5, (.cst (.int .i64 0)))] none)) h86_14) Q env w := rfl
def h86_16 : HC := (.seq (.reg (.done [(4, (.cst (.slice none 0 0)))] none)) h86_15)
@[simp] theorem h86_16_wp {P : Program} {F : PF P} {Q : EX → List Value → World → Prop} {env : List Value} {w : World} : h86_16.wp F Q env w = HC.wp F (.seq (.reg (.done [(4, (.cst (.slice none 0 0)))] none)) h86_15) Q env w := rfl
def h86_17 : HC := (.reg (.chk none (.bin .add) (.cons (.inp 3) (.cons (.cst (.int .i64 1)) .nil)) (.done [(3, (.op (.bin .add) (.cons (.inp 3) (.cons (.cst (.int .i64 1)) .nil))))] none)))
@[simp] theorem h86_17_wp {P : Program} {F : PF P} {Q : EX → List Value → World → Prop} {env : List Value} {w : World} : h86_17.wp F Q env w = HC.wp F (.reg (.chk none (.bin .add) (.cons (.inp 3) (.cons (.cst (.int .i64 1)) .nil)) (.done [(3, (.op (.bin .add) (.cons (.inp 3) (.cons (.cst (.int .i64 1)) .nil))))] none))) Q env w := rfl
def h86_18 : HC := (.reg (.chk none (.idxL 1) (.cons (.inp 2) (.cons (.inp 3) .nil)) (.eff (.ld false 1) (.cons (.op (.idxL 1) (.cons (.inp 2) (.cons (.inp 3) .nil))) .nil) (.chk none (.cal 93) (.cons (.bv 0) .nil) (.chk none (.idxL 1) (.cons (.inp 2) (.cons (.inp 3) .nil)) (.eff (.st 1) (.cons (.op (.idxL 1) (.cons (.inp 2) (.cons (.inp 3) .nil))) (.cons (.op (.cal 93) (.cons (.bv 0) .nil)) .nil)) (.done [] none)))))))
@[simp] theorem h86_18_wp {P : Program} {F : PF P} {Q : EX → List Value → World → Prop} {env : List Value} {w : World} : h86_18.wp F Q env w = HC.wp F (.reg (.chk none (.idxL 1) (.cons (.inp 2) (.cons (.inp 3) .nil)) (.eff (.ld false 1) (.cons (.op (.idxL 1) (.cons (.inp 2) (.cons (.inp 3) .nil))) .nil) (.chk none (.cal 93) (.cons (.bv 0) .nil) (.chk none (.idxL 1) (.cons (.inp 2) (.cons (.inp 3) .nil)) (.eff (.st 1) (.cons (.op (.idxL 1) (.cons (.inp 2) (.cons (.inp 3) .nil))) (.cons (.op (.cal 93) (.cons (.bv 0) .nil)) .nil)) (.done [] none))))))) Q env w := rfl
def h86_19 : HC := (.seq (.block 1 h86_18) h86_17)
@[simp] theorem h86_19_wp {P : Program} {F : PF P} {Q : EX → List Value → World → Prop} {env : List Value} {w : World} : h86_19.wp F Q env w = HC.wp F (.seq (.block 1 h86_18) h86_17) Q env w := rfl
def h86_20 : HC := (.seq (.br (.chk none .lenL (.cons (.inp 2) .nil) (.chk none (.bin .lss) (.cons (.inp 3) (.cons (.op .lenL (.cons (.inp 2) .nil)) .nil)) (.done [] (some (.op (.bin .lss) (.cons (.inp 3) (.cons (.op .lenL (.cons (.inp 2) .nil)) .nil))))))) .skip (.exit 0)) h86_19)
@[simp] theorem h86_20_wp {P : Program} {F : PF P} {Q : EX → List Value → World → Prop} {env : List Value} {w : World} : h86_20.wp F Q env w = HC.wp F (.seq (.br (.chk none .lenL (.cons (.inp 2) .nil) (.chk none (.bin .lss) (.cons (.inp 3) (.cons (.op .lenL (.cons (.inp 2) .nil)) .nil)) (.done [] (some (.op (.bin .lss) (.cons (.inp 3) (.cons (.op .lenL (.cons (.inp 2) .nil)) .nil))))))) .skip (.exit 0)) h86_19) Q env w := rfl
def h86_21 : HC := (.loop h86_20)
@[simp] theorem h86_21_wp {P : Program} {F : PF P} {Q : EX → List Value → World → Prop} {env : List Value} {w : World} : h86_21.wp F Q env w = HC.wp F (.loop h86_20) Q env w := rfl
def h86_22 : HC := (.seq (.block 0 h86_21) h86_16)
@[simp] theorem h86_22_wp {P : Program} {F : PF P} {Q : EX → List Value → World → Prop} {env : List Value} {w : World} : h86_22.wp F Q env w = HC.wp F (.seq (.block 0 h86_21) h86_16) Q env w := rfl
def h86_23 : HC := (.seq (.reg (.done [(3, (.cst (.int .i64 0)))] none)) h86_22)
@[simp] theorem h86_23_wp {P : Program} {F : PF P} {Q : EX → List Value → World → Prop} {env : List Value} {w : World} : h86_23.wp F Q env w = HC.wp F (.seq (.reg (.done [(3, (.cst (.int .i64 0)))] none)) h86_22) Q env w := rfl
def h86_24 : HC := (.seq (.reg (.eff (.call 92) (.cons (.inp 0) .nil) (.done [(2, (.bv 0))] none))) h86_23)
@[simp] theorem h86_24_wp {P : Program} {F : PF P} {Q : EX → List Value → World → Prop} {env : List Value} {w : World} : h86_24.wp F Q env w = HC.wp F (.seq (.reg (.eff (.call 92) (.cons (.inp 0) .nil) (.done [(2, (.bv 0))] none))) h86_23) Q env w := rfl
def l86 : Lifted := ⟨[0, 2, 3, 4, 5, 6, 7], 87, [.slot 1], (.seq (.reg (.done [(1, (.cst (.string ⟨#[]⟩)))] none)) h86_24)⟩
theorem l86_ok : liftFn F4 86 400 = some l86 := by kernel_rfl

-- bazaar/name.Look
def h51_0 : HC := (.seq (.reg (.eff (.call 49) (.cons (.inp 5) .nil) (.done [(1, (.bv 0))] none))) .ret)
@[simp] theorem h51_0_wp {P : Program} {F : PF P} {Q : EX → List Value → World → Prop} {env : List Value} {w : World} : h51_0.wp F Q env w = HC.wp F (.seq (.reg (.eff (.call 49) (.cons (.inp 5) .nil) (.done [(1, (.bv 0))] none))) .ret) Q env w := rfl
def h51_1 : HC := (.reg (.chk none (.bin .add) (.cons (.inp 6) (.cons (.cst (.int .i64 1)) .nil)) (.done [(6, (.op (.bin .add) (.cons (.inp 6) (.cons (.cst (.int .i64 1)) .nil))))] none)))
@[simp] theorem h51_1_wp {P : Program} {F : PF P} {Q : EX → List Value → World → Prop} {env : List Value} {w : World} : h51_1.wp F Q env w = HC.wp F (.reg (.chk none (.bin .add) (.cons (.inp 6) (.cons (.cst (.int .i64 1)) .nil)) (.done [(6, (.op (.bin .add) (.cons (.inp 6) (.cons (.cst (.int .i64 1)) .nil))))] none))) Q env w := rfl
def h51_2 : HC := (.reg (.eff (.bsl 21 1 1 #[(.int .i32 0)] [0]) (.cons (.inp 7) .nil) (.eff (.app 84 84 21 1 4 (.int .i32 0)) (.cons (.inp 5) (.cons (.bv 0) .nil)) (.done [(5, (.bv 1))] none))))
@[simp] theorem h51_2_wp {P : Program} {F : PF P} {Q : EX → List Value → World → Prop} {env : List Value} {w : World} : h51_2.wp F Q env w = HC.wp F (.reg (.eff (.bsl 21 1 1 #[(.int .i32 0)] [0]) (.cons (.inp 7) .nil) (.eff (.app 84 84 21 1 4 (.int .i32 0)) (.cons (.inp 5) (.cons (.bv 0) .nil)) (.done [(5, (.bv 1))] none)))) Q env w := rfl
def h51_3 : HC := (.reg (.chk none (.bin .add) (.cons (.inp 6) (.cons (.cst (.int .i64 1)) .nil)) (.done [(6, (.op (.bin .add) (.cons (.inp 6) (.cons (.cst (.int .i64 1)) .nil))))] none)))
@[simp] theorem h51_3_wp {P : Program} {F : PF P} {Q : EX → List Value → World → Prop} {env : List Value} {w : World} : h51_3.wp F Q env w = HC.wp F (.reg (.chk none (.bin .add) (.cons (.inp 6) (.cons (.cst (.int .i64 1)) .nil)) (.done [(6, (.op (.bin .add) (.cons (.inp 6) (.cons (.cst (.int .i64 1)) .nil))))] none))) Q env w := rfl
def h51_4 : HC := (.seq (.reg (.done [(7, (.cst (.int .i32 109)))] none)) h51_3)
@[simp] theorem h51_4_wp {P : Program} {F : PF P} {Q : EX → List Value → World → Prop} {env : List Value} {w : World} : h51_4.wp F Q env w = HC.wp F (.seq (.reg (.done [(7, (.cst (.int .i32 109)))] none)) h51_3) Q env w := rfl
def h51_5 : HC := (.reg (.chk none (.bin .add) (.cons (.inp 6) (.cons (.cst (.int .i64 1)) .nil)) (.done [(6, (.op (.bin .add) (.cons (.inp 6) (.cons (.cst (.int .i64 1)) .nil))))] none)))
@[simp] theorem h51_5_wp {P : Program} {F : PF P} {Q : EX → List Value → World → Prop} {env : List Value} {w : World} : h51_5.wp F Q env w = HC.wp F (.reg (.chk none (.bin .add) (.cons (.inp 6) (.cons (.cst (.int .i64 1)) .nil)) (.done [(6, (.op (.bin .add) (.cons (.inp 6) (.cons (.cst (.int .i64 1)) .nil))))] none))) Q env w := rfl
def h51_6 : HC := (.seq (.reg (.done [(7, (.cst (.int .i32 119)))] none)) h51_5)
@[simp] theorem h51_6_wp {P : Program} {F : PF P} {Q : EX → List Value → World → Prop} {env : List Value} {w : World} : h51_6.wp F Q env w = HC.wp F (.seq (.reg (.done [(7, (.cst (.int .i32 119)))] none)) h51_5) Q env w := rfl
def h51_7 : HC := (.br (.chk none (.bin .add) (.cons (.inp 6) (.cons (.cst (.int .i64 1)) .nil)) (.chk none .lenL (.cons (.inp 2) .nil) (.chk none (.bin .lss) (.cons (.op (.bin .add) (.cons (.inp 6) (.cons (.cst (.int .i64 1)) .nil))) (.cons (.op .lenL (.cons (.inp 2) .nil)) .nil)) (.bnd (.op (.bin .lss) (.cons (.op (.bin .add) (.cons (.inp 6) (.cons (.cst (.int .i64 1)) .nil))) (.cons (.op .lenL (.cons (.inp 2) .nil)) .nil))) (.chk (some ((.bv 0), true)) (.bin .eql) (.cons (.inp 7) (.cons (.cst (.int .i32 118)) .nil)) (.isb none (.bv 0) (.bnd (.ite (.bv 0) true (.op (.bin .eql) (.cons (.inp 7) (.cons (.cst (.int .i32 118)) .nil))) (.cst (.bool false))) (.chk (some ((.bv 1), true)) (.bin .add) (.cons (.inp 6) (.cons (.cst (.int .i64 1)) .nil)) (.chk (some ((.bv 1), true)) (.idxL 1) (.cons (.inp 2) (.cons (.op (.bin .add) (.cons (.inp 6) (.cons (.cst (.int .i64 1)) .nil))) .nil)) (.ite (.bv 1) true (.eff (.ld false 1) (.cons (.ite (.bv 1) true (.op (.idxL 1) (.cons (.inp 2) (.cons (.op (.bin .add) (.cons (.inp 6) (.cons (.cst (.int .i64 1)) .nil))) .nil))) (.cst (.tuple #[]))) .nil) (.chk none (.bin .eql) (.cons (.bv 2) (.cons (.cst (.int .i32 118)) .nil)) (.isb none (.bv 1) (.done [] (some (.op (.bin .eql) (.cons (.bv 2) (.cons (.cst (.int .i32 118)) .nil)))))))) (.isb none (.bv 1) (.done [] (some (.cst (.bool false))))))))))))))) h51_6 .skip)
@[simp] theorem h51_7_wp {P : Program} {F : PF P} {Q : EX → List Value → World → Prop} {env : List Value} {w : World} : h51_7.wp F Q env w = HC.wp F (.br (.chk none (.bin .add) (.cons (.inp 6) (.cons (.cst (.int .i64 1)) .nil)) (.chk none .lenL (.cons (.inp 2) .nil) (.chk none (.bin .lss) (.cons (.op (.bin .add) (.cons (.inp 6) (.cons (.cst (.int .i64 1)) .nil))) (.cons (.op .lenL (.cons (.inp 2) .nil)) .nil)) (.bnd (.op (.bin .lss) (.cons (.op (.bin .add) (.cons (.inp 6) (.cons (.cst (.int .i64 1)) .nil))) (.cons (.op .lenL (.cons (.inp 2) .nil)) .nil))) (.chk (some ((.bv 0), true)) (.bin .eql) (.cons (.inp 7) (.cons (.cst (.int .i32 118)) .nil)) (.isb none (.bv 0) (.bnd (.ite (.bv 0) true (.op (.bin .eql) (.cons (.inp 7) (.cons (.cst (.int .i32 118)) .nil))) (.cst (.bool false))) (.chk (some ((.bv 1), true)) (.bin .add) (.cons (.inp 6) (.cons (.cst (.int .i64 1)) .nil)) (.chk (some ((.bv 1), true)) (.idxL 1) (.cons (.inp 2) (.cons (.op (.bin .add) (.cons (.inp 6) (.cons (.cst (.int .i64 1)) .nil))) .nil)) (.ite (.bv 1) true (.eff (.ld false 1) (.cons (.ite (.bv 1) true (.op (.idxL 1) (.cons (.inp 2) (.cons (.op (.bin .add) (.cons (.inp 6) (.cons (.cst (.int .i64 1)) .nil))) .nil))) (.cst (.tuple #[]))) .nil) (.chk none (.bin .eql) (.cons (.bv 2) (.cons (.cst (.int .i32 118)) .nil)) (.isb none (.bv 1) (.done [] (some (.op (.bin .eql) (.cons (.bv 2) (.cons (.cst (.int .i32 118)) .nil)))))))) (.isb none (.bv 1) (.done [] (some (.cst (.bool false))))))))))))))) h51_6 .skip) Q env w := rfl
def h51_8 : HC := (.br (.chk none (.bin .add) (.cons (.inp 6) (.cons (.cst (.int .i64 1)) .nil)) (.chk none .lenL (.cons (.inp 2) .nil) (.chk none (.bin .lss) (.cons (.op (.bin .add) (.cons (.inp 6) (.cons (.cst (.int .i64 1)) .nil))) (.cons (.op .lenL (.cons (.inp 2) .nil)) .nil)) (.bnd (.op (.bin .lss) (.cons (.op (.bin .add) (.cons (.inp 6) (.cons (.cst (.int .i64 1)) .nil))) (.cons (.op .lenL (.cons (.inp 2) .nil)) .nil))) (.chk (some ((.bv 0), true)) (.bin .eql) (.cons (.inp 7) (.cons (.cst (.int .i32 114)) .nil)) (.isb none (.bv 0) (.bnd (.ite (.bv 0) true (.op (.bin .eql) (.cons (.inp 7) (.cons (.cst (.int .i32 114)) .nil))) (.cst (.bool false))) (.chk (some ((.bv 1), true)) (.bin .add) (.cons (.inp 6) (.cons (.cst (.int .i64 1)) .nil)) (.chk (some ((.bv 1), true)) (.idxL 1) (.cons (.inp 2) (.cons (.op (.bin .add) (.cons (.inp 6) (.cons (.cst (.int .i64 1)) .nil))) .nil)) (.ite (.bv 1) true (.eff (.ld false 1) (.cons (.ite (.bv 1) true (.op (.idxL 1) (.cons (.inp 2) (.cons (.op (.bin .add) (.cons (.inp 6) (.cons (.cst (.int .i64 1)) .nil))) .nil))) (.cst (.tuple #[]))) .nil) (.chk none (.bin .eql) (.cons (.bv 2) (.cons (.cst (.int .i32 110)) .nil)) (.isb none (.bv 1) (.done [] (some (.op (.bin .eql) (.cons (.bv 2) (.cons (.cst (.int .i32 110)) .nil)))))))) (.isb none (.bv 1) (.done [] (some (.cst (.bool false))))))))))))))) h51_4 h51_7)
@[simp] theorem h51_8_wp {P : Program} {F : PF P} {Q : EX → List Value → World → Prop} {env : List Value} {w : World} : h51_8.wp F Q env w = HC.wp F (.br (.chk none (.bin .add) (.cons (.inp 6) (.cons (.cst (.int .i64 1)) .nil)) (.chk none .lenL (.cons (.inp 2) .nil) (.chk none (.bin .lss) (.cons (.op (.bin .add) (.cons (.inp 6) (.cons (.cst (.int .i64 1)) .nil))) (.cons (.op .lenL (.cons (.inp 2) .nil)) .nil)) (.bnd (.op (.bin .lss) (.cons (.op (.bin .add) (.cons (.inp 6) (.cons (.cst (.int .i64 1)) .nil))) (.cons (.op .lenL (.cons (.inp 2) .nil)) .nil))) (.chk (some ((.bv 0), true)) (.bin .eql) (.cons (.inp 7) (.cons (.cst (.int .i32 114)) .nil)) (.isb none (.bv 0) (.bnd (.ite (.bv 0) true (.op (.bin .eql) (.cons (.inp 7) (.cons (.cst (.int .i32 114)) .nil))) (.cst (.bool false))) (.chk (some ((.bv 1), true)) (.bin .add) (.cons (.inp 6) (.cons (.cst (.int .i64 1)) .nil)) (.chk (some ((.bv 1), true)) (.idxL 1) (.cons (.inp 2) (.cons (.op (.bin .add) (.cons (.inp 6) (.cons (.cst (.int .i64 1)) .nil))) .nil)) (.ite (.bv 1) true (.eff (.ld false 1) (.cons (.ite (.bv 1) true (.op (.idxL 1) (.cons (.inp 2) (.cons (.op (.bin .add) (.cons (.inp 6) (.cons (.cst (.int .i64 1)) .nil))) .nil))) (.cst (.tuple #[]))) .nil) (.chk none (.bin .eql) (.cons (.bv 2) (.cons (.cst (.int .i32 110)) .nil)) (.isb none (.bv 1) (.done [] (some (.op (.bin .eql) (.cons (.bv 2) (.cons (.cst (.int .i32 110)) .nil)))))))) (.isb none (.bv 1) (.done [] (some (.cst (.bool false))))))))))))))) h51_4 h51_7) Q env w := rfl
def h51_9 : HC := (.seq (.block 4 h51_8) h51_2)
@[simp] theorem h51_9_wp {P : Program} {F : PF P} {Q : EX → List Value → World → Prop} {env : List Value} {w : World} : h51_9.wp F Q env w = HC.wp F (.seq (.block 4 h51_8) h51_2) Q env w := rfl
def h51_10 : HC := (.seq (.reg (.chk none (.idxL 1) (.cons (.inp 2) (.cons (.inp 6) .nil)) (.eff (.ld false 1) (.cons (.op (.idxL 1) (.cons (.inp 2) (.cons (.inp 6) .nil))) .nil) (.done [(7, (.bv 0))] none)))) h51_9)
@[simp] theorem h51_10_wp {P : Program} {F : PF P} {Q : EX → List Value → World → Prop} {env : List Value} {w : World} : h51_10.wp F Q env w = HC.wp F (.seq (.reg (.chk none (.idxL 1) (.cons (.inp 2) (.cons (.inp 6) .nil)) (.eff (.ld false 1) (.cons (.op (.idxL 1) (.cons (.inp 2) (.cons (.inp 6) .nil))) .nil) (.done [(7, (.bv 0))] none)))) h51_9) Q env w := rfl
def h51_11 : HC := (.seq (.block 3 h51_10) h51_1)
@[simp] theorem h51_11_wp {P : Program} {F : PF P} {Q : EX → List Value → World → Prop} {env : List Value} {w : World} : h51_11.wp F Q env w = HC.wp F (.seq (.block 3 h51_10) h51_1) Q env w := rfl
def h51_12 : HC := (.seq (.br (.chk none .lenL (.cons (.inp 2) .nil) (.chk none (.bin .lss) (.cons (.inp 6) (.cons (.op .lenL (.cons (.inp 2) .nil)) .nil)) (.done [] (some (.op (.bin .lss) (.cons (.inp 6) (.cons (.op .lenL (.cons (.inp 2) .nil)) .nil))))))) .skip (.exit 2)) h51_11)
@[simp] theorem h51_12_wp {P : Program} {F : PF P} {Q : EX → List Value → World → Prop} {env : List Value} {w : World} : h51_12.wp F Q env w = HC.wp F (.seq (.br (.chk none .lenL (.cons (.inp 2) .nil) (.chk none (.bin .lss) (.cons (.inp 6) (.cons (.op .lenL (.cons (.inp 2) .nil)) .nil)) (.done [] (some (.op (.bin .lss) (.cons (.inp 6) (.cons (.op .lenL (.cons (.inp 2) .nil)) .nil))))))) .skip (.exit 2)) h51_11) Q env w := rfl
def h51_13 : HC := (.loop h51_12)
@[simp] theorem h51_13_wp {P : Program} {F : PF P} {Q : EX → List Value → World → Prop} {env : List Value} {w : World} : h51_13.wp F Q env w = HC.wp F (.loop h51_12) Q env w := rfl
def h51_14 : HC := (.seq (.block 2 h51_13) h51_0)
@[simp] theorem h51_14_wp {P : Program} {F : PF P} {Q : EX → List Value → World → Prop} {env : List Value} {w : World} : h51_14.wp F Q env w = HC.wp F (.seq (.block 2 h51_13) h51_0) Q env w := rfl
def h51_15 : HC := (.seq (.reg (.done [(6, (.cst (.int .i64 0)))] none)) h51_14)
@[simp] theorem h51_15_wp {P : Program} {F : PF P} {Q : EX → List Value → World → Prop} {env : List Value} {w : World} : h51_15.wp F Q env w = HC.wp F (.seq (.reg (.done [(6, (.cst (.int .i64 0)))] none)) h51_14) Q env w := rfl
def h51_16 : HC := (.seq (.reg (.chk none (.slL 1 false true false) (.cons (.inp 2) (.cons (.cst (.int .i64 0)) .nil)) (.done [(5, (.op (.slL 1 false true false) (.cons (.inp 2) (.cons (.cst (.int .i64 0)) .nil))))] none))) h51_15)
@[simp] theorem h51_16_wp {P : Program} {F : PF P} {Q : EX → List Value → World → Prop} {env : List Value} {w : World} : h51_16.wp F Q env w = HC.wp F (.seq (.reg (.chk none (.slL 1 false true false) (.cons (.inp 2) (.cons (.cst (.int .i64 0)) .nil)) (.done [(5, (.op (.slL 1 false true false) (.cons (.inp 2) (.cons (.cst (.int .i64 0)) .nil))))] none))) h51_15) Q env w := rfl
def h51_17 : HC := (.reg (.chk none (.bin .add) (.cons (.inp 10) (.cons (.cst (.int .i64 1)) .nil)) (.done [(10, (.op (.bin .add) (.cons (.inp 10) (.cons (.cst (.int .i64 1)) .nil))))] none)))
@[simp] theorem h51_17_wp {P : Program} {F : PF P} {Q : EX → List Value → World → Prop} {env : List Value} {w : World} : h51_17.wp F Q env w = HC.wp F (.reg (.chk none (.bin .add) (.cons (.inp 10) (.cons (.cst (.int .i64 1)) .nil)) (.done [(10, (.op (.bin .add) (.cons (.inp 10) (.cons (.cst (.int .i64 1)) .nil))))] none))) Q env w := rfl
def h51_18 : HC := (.reg (.eff (.call 79) (.cons (.inp 4) .nil) (.chk none (.idxL 1) (.cons (.inp 2) (.cons (.inp 3) .nil)) (.eff (.st 1) (.cons (.op (.idxL 1) (.cons (.inp 2) (.cons (.inp 3) .nil))) (.cons (.bv 0) .nil)) (.done [] none)))))
@[simp] theorem h51_18_wp {P : Program} {F : PF P} {Q : EX → List Value → World → Prop} {env : List Value} {w : World} : h51_18.wp F Q env w = HC.wp F (.reg (.eff (.call 79) (.cons (.inp 4) .nil) (.chk none (.idxL 1) (.cons (.inp 2) (.cons (.inp 3) .nil)) (.eff (.st 1) (.cons (.op (.idxL 1) (.cons (.inp 2) (.cons (.inp 3) .nil))) (.cons (.bv 0) .nil)) (.done [] none))))) Q env w := rfl
def h51_19 : HC := (.seq (.reg (.chk none (.idxL 1) (.cons (.inp 8) (.cons (.inp 10) .nil)) (.eff (.ld false 1) (.cons (.op (.idxL 1) (.cons (.inp 8) (.cons (.inp 10) .nil))) .nil) (.done [(3, (.inp 10)), (4, (.bv 0))] none)))) h51_18)
@[simp] theorem h51_19_wp {P : Program} {F : PF P} {Q : EX → List Value → World → Prop} {env : List Value} {w : World} : h51_19.wp F Q env w = HC.wp F (.seq (.reg (.chk none (.idxL 1) (.cons (.inp 8) (.cons (.inp 10) .nil)) (.eff (.ld false 1) (.cons (.op (.idxL 1) (.cons (.inp 8) (.cons (.inp 10) .nil))) .nil) (.done [(3, (.inp 10)), (4, (.bv 0))] none)))) h51_18) Q env w := rfl
def h51_20 : HC := (.seq (.block 1 h51_19) h51_17)
@[simp] theorem h51_20_wp {P : Program} {F : PF P} {Q : EX → List Value → World → Prop} {env : List Value} {w : World} : h51_20.wp F Q env w = HC.wp F (.seq (.block 1 h51_19) h51_17) Q env w := rfl
def h51_21 : HC := (.seq (.br (.chk none (.bin .lss) (.cons (.inp 10) (.cons (.inp 9) .nil)) (.done [] (some (.op (.bin .lss) (.cons (.inp 10) (.cons (.inp 9) .nil)))))) .skip (.exit 0)) h51_20)
@[simp] theorem h51_21_wp {P : Program} {F : PF P} {Q : EX → List Value → World → Prop} {env : List Value} {w : World} : h51_21.wp F Q env w = HC.wp F (.seq (.br (.chk none (.bin .lss) (.cons (.inp 10) (.cons (.inp 9) .nil)) (.done [] (some (.op (.bin .lss) (.cons (.inp 10) (.cons (.inp 9) .nil)))))) .skip (.exit 0)) h51_20) Q env w := rfl
def h51_22 : HC := (.loop h51_21)
@[simp] theorem h51_22_wp {P : Program} {F : PF P} {Q : EX → List Value → World → Prop} {env : List Value} {w : World} : h51_22.wp F Q env w = HC.wp F (.loop h51_21) Q env w := rfl
def h51_23 : HC := (.seq (.block 0 h51_22) h51_16)
@[simp] theorem h51_23_wp {P : Program} {F : PF P} {Q : EX → List Value → World → Prop} {env : List Value} {w : World} : h51_23.wp F Q env w = HC.wp F (.seq (.block 0 h51_22) h51_16) Q env w := rfl
def h51_24 : HC := (.seq (.reg (.chk none .lenL (.cons (.inp 2) .nil) (.done [(8, (.inp 2)), (9, (.op .lenL (.cons (.inp 2) .nil))), (10, (.cst (.int .i64 0)))] none))) h51_23)
@[simp] theorem h51_24_wp {P : Program} {F : PF P} {Q : EX → List Value → World → Prop} {env : List Value} {w : World} : h51_24.wp F Q env w = HC.wp F (.seq (.reg (.chk none .lenL (.cons (.inp 2) .nil) (.done [(8, (.inp 2)), (9, (.op .lenL (.cons (.inp 2) .nil))), (10, (.cst (.int .i64 0)))] none))) h51_23) Q env w := rfl
def h51_25 : HC := (.seq (.reg (.eff (.call 50) (.cons (.inp 0) .nil) (.done [(2, (.bv 0))] none))) h51_24)
@[simp] theorem h51_25_wp {P : Program} {F : PF P} {Q : EX → List Value → World → Prop} {env : List Value} {w : World} : h51_25.wp F Q env w = HC.wp F (.seq (.reg (.eff (.call 50) (.cons (.inp 0) .nil) (.done [(2, (.bv 0))] none))) h51_24) Q env w := rfl
def l51 : Lifted := ⟨[0, 2, 3, 4, 5, 6, 7, 8, 11, 12, 13], 82, [.slot 1], (.seq (.reg (.done [(1, (.cst (.string ⟨#[]⟩)))] none)) h51_25)⟩
theorem l51_ok : liftFn F4 51 400 = some l51 := by kernel_rfl


theorem rFold_spec (l : List UInt8) (w0 w : World) (A : Asn) (hl : l.length ≤ 1048576) (s : St w0 A w) :
    CallW Try.prog 83 [.string (mk l)] (fun r w' => r = .string (mk (encAll (foldedF l))) ∧ St w0 A w') w := by
  have hfl := folded_len l
  refine callW_of_lift l83_ok (by simp [l83]) ?_
  simp [l83]
  refine eff_call ((rfolded_spec l w0 w A hl s).mono ?_)
  intro v w1 s1
  simp
  refine eff_call ((rtext_spec _ v w0 w1 A (by omega) (folded_ok l) s1).mono ?_)
  rintro r w2 ⟨rfl, s2⟩
  simp
  exact s2.drop
theorem Fold_spec (l : List UInt8) (w0 w : World) (A : Asn) (hl : l.length ≤ 1048576) (s : St w0 A w) :
    CallW Try.prog 15 [.string (mk l)] (fun r w' => r = .string (mk (encAll (foldedF l))) ∧ St w0 A w') w := by
  have hfl := folded_len l
  refine callW_of_lift l15_ok (by simp [l15]) ?_
  simp [l15]
  refine eff_call ((folded_spec l w0 w A hl s).mono ?_)
  intro v w1 s1
  simp
  refine eff_call ((text_spec _ v w0 w1 A (by omega) (folded_ok l) s1).mono ?_)
  rintro r w2 ⟨rfl, s2⟩
  simp
  exact s2.drop
end Go.HL.Nm
