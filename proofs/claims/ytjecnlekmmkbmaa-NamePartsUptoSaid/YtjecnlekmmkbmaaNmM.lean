/-
  Fold and Look of bazaarref04 and of name. Conditions: texts within the bound.
-/
import Derived.Test.YtjecnlekmmkbmaaNmL
namespace Go.HL.Nm
open Go.HL Go.Proofs
set_option maxRecDepth 4000
set_option linter.unusedSimpArgs false
set_option linter.unusedVariables false
theorem chkF_ok (b : Int) (r : List UInt8) (v : Int) (n : Nat) (least : Int) (hb : 0 ≤ b ∧ b < 256) (hv : 0 ≤ v) : okU (chkF b r v n least).1 := by
  unfold chkF okU
  split
  · rename_i u hu
    have := tailF_bd n r v u hv hu
    split
    · simp only; omega
    · simp only; omega
  · simp only; omega
theorem oneF_okU {l : List UInt8} (h : l ≠ []) : okU (oneF l).1 := by
  cases l with
  | nil => exact absurd rfl h
  | cons c r =>
    have hc := c.toNat_lt
    rw [oneF_cons]
    split
    · unfold okU; simp only; omega
    split
    · exact chkF_ok c.toNat r (c.toNat - 192) 1 128 (by omega) (by omega)
    split
    · exact chkF_ok c.toNat r (c.toNat - 224) 2 2048 (by omega) (by omega)
    split
    · exact chkF_ok c.toNat r (c.toNat - 240) 3 65536 (by omega) (by omega)
    · unfold okU; simp only; omega
theorem okU_foldF {u : Int} (h : okU u) : okU (foldF u) := by unfold okU at h ⊢; unfold foldF; repeat' split
                                                              all_goals omega
theorem okU_looksF {u : Int} (h : okU u) : okU (looksF u) := by
  have : looksF u = u ∨ (45 ≤ looksF u ∧ looksF u ≤ 121) := by unfold looksF; (repeat' split) <;> omega
  unfold okU at h ⊢
  omega
/-- two that look like one -/
def pairF : List Int → List Int
  | 114 :: 110 :: r => 109 :: pairF r
  | 118 :: 118 :: r => 119 :: pairF r
  | u :: r => u :: pairF r
  | [] => []
def lookF (l : List UInt8) : List Int := pairF ((foldedF l).map looksF)
theorem units_ok : ∀ (n : Nat) (l : List UInt8), l.length ≤ n → ∀ u ∈ units l, okU u.1
  | 0, l, h => by
    have : l = [] := List.eq_nil_of_length_eq_zero (by omega)
    subst this
    simp [units_nil]
  | n + 1, l, h => by
    by_cases he : l = []
    · subst he; simp [units_nil]
    · have hb := oneF_bd he
      rw [units_cons he]
      intro u hu
      rcases List.mem_cons.1 hu with rfl | hu
      · exact oneF_okU he
      · exact units_ok n _ (by simp; omega) u hu
theorem folded_ok (l : List UInt8) : ∀ u ∈ foldedF l, okU u := by
  intro u hu
  simp only [foldedF, foldAll, List.mem_flatMap] at hu
  obtain ⟨x, hx, hu⟩ := hu
  have hk := units_ok _ l (Nat.le_refl _) x hx
  unfold foldU at hu
  split at hu
  · have : u = 115 := by simpa using hu
    subst this
    exact .inl (by omega)
  · have : u = foldF x.1 := by simpa using hu
    subst this
    exact okU_foldF hk
theorem folded_len (l : List UInt8) : (foldedF l).length ≤ 2 * l.length := by
  have h1 := foldAll_len (units l)
  have h2 := units_len l
  unfold foldedF
  omega
-- bazaar/bazaarref04.Fold
def h17_0 : HC := (.seq (.reg (.eff (.call 37) (.cons (.inp 0) .nil) (.eff (.call 36) (.cons (.bv 0) .nil) (.done [(1, (.bv 1))] none)))) .ret)
@[simp] theorem h17_0_wp {P : Program} {F : PF P} {Q : EX → List Value → World → Prop} {env : List Value} {w : World} : h17_0.wp F Q env w = HC.wp F (.seq (.reg (.eff (.call 37) (.cons (.inp 0) .nil) (.eff (.call 36) (.cons (.bv 0) .nil) (.done [(1, (.bv 1))] none)))) .ret) Q env w := rfl
def l17 : Lifted := ⟨[0, 2], 6, [.slot 1], (.seq (.reg (.done [(1, (.cst (.string ⟨#[]⟩)))] none)) h17_0)⟩
theorem l17_ok : liftFn F4 17 400 = some l17 := by kernel_rfl

-- bazaar/name.Fold
def h16_0 : HC := (.seq (.reg (.eff (.call 35) (.cons (.inp 0) .nil) (.eff (.call 34) (.cons (.bv 0) .nil) (.done [(1, (.bv 1))] none)))) .ret)
@[simp] theorem h16_0_wp {P : Program} {F : PF P} {Q : EX → List Value → World → Prop} {env : List Value} {w : World} : h16_0.wp F Q env w = HC.wp F (.seq (.reg (.eff (.call 35) (.cons (.inp 0) .nil) (.eff (.call 34) (.cons (.bv 0) .nil) (.done [(1, (.bv 1))] none)))) .ret) Q env w := rfl
def l16 : Lifted := ⟨[0, 2], 6, [.slot 1], (.seq (.reg (.done [(1, (.cst (.string ⟨#[]⟩)))] none)) h16_0)⟩
theorem l16_ok : liftFn F4 16 400 = some l16 := by kernel_rfl

-- bazaar/bazaarref04.Look
def h19_0 : HC := (.seq (.reg (.eff (.call 36) (.cons (.inp 4) .nil) (.done [(1, (.bv 0))] none))) .ret)
@[simp] theorem h19_0_wp {P : Program} {F : PF P} {Q : EX → List Value → World → Prop} {env : List Value} {w : World} : h19_0.wp F Q env w = HC.wp F (.seq (.reg (.eff (.call 36) (.cons (.inp 4) .nil) (.done [(1, (.bv 0))] none))) .ret) Q env w := rfl
def h19_1 : HC := (.reg (.chk none (.bin .add) (.cons (.inp 5) (.cons (.cst (.int .i64 1)) .nil)) (.done [(5, (.op (.bin .add) (.cons (.inp 5) (.cons (.cst (.int .i64 1)) .nil))))] none)))
@[simp] theorem h19_1_wp {P : Program} {F : PF P} {Q : EX → List Value → World → Prop} {env : List Value} {w : World} : h19_1.wp F Q env w = HC.wp F (.reg (.chk none (.bin .add) (.cons (.inp 5) (.cons (.cst (.int .i64 1)) .nil)) (.done [(5, (.op (.bin .add) (.cons (.inp 5) (.cons (.cst (.int .i64 1)) .nil))))] none))) Q env w := rfl
def h19_2 : HC := (.reg (.chk none (.idxL 1) (.cons (.inp 2) (.cons (.inp 5) .nil)) (.eff (.ld false 1) (.cons (.op (.idxL 1) (.cons (.inp 2) (.cons (.inp 5) .nil))) .nil) (.eff (.bsl 3 1 1 #[(.int .i64 0)] [0]) (.cons (.bv 0) .nil) (.eff (.app 22 22 3 1 8 (.int .i64 0)) (.cons (.inp 4) (.cons (.bv 1) .nil)) (.done [(4, (.bv 2))] none))))))
@[simp] theorem h19_2_wp {P : Program} {F : PF P} {Q : EX → List Value → World → Prop} {env : List Value} {w : World} : h19_2.wp F Q env w = HC.wp F (.reg (.chk none (.idxL 1) (.cons (.inp 2) (.cons (.inp 5) .nil)) (.eff (.ld false 1) (.cons (.op (.idxL 1) (.cons (.inp 2) (.cons (.inp 5) .nil))) .nil) (.eff (.bsl 3 1 1 #[(.int .i64 0)] [0]) (.cons (.bv 0) .nil) (.eff (.app 22 22 3 1 8 (.int .i64 0)) (.cons (.inp 4) (.cons (.bv 1) .nil)) (.done [(4, (.bv 2))] none)))))) Q env w := rfl
def h19_3 : HC := (.reg (.chk none (.bin .add) (.cons (.inp 5) (.cons (.cst (.int .i64 1)) .nil)) (.done [(5, (.op (.bin .add) (.cons (.inp 5) (.cons (.cst (.int .i64 1)) .nil))))] none)))
@[simp] theorem h19_3_wp {P : Program} {F : PF P} {Q : EX → List Value → World → Prop} {env : List Value} {w : World} : h19_3.wp F Q env w = HC.wp F (.reg (.chk none (.bin .add) (.cons (.inp 5) (.cons (.cst (.int .i64 1)) .nil)) (.done [(5, (.op (.bin .add) (.cons (.inp 5) (.cons (.cst (.int .i64 1)) .nil))))] none))) Q env w := rfl
def h19_4 : HC := (.seq (.reg (.eff (.bsl 3 1 1 #[(.int .i64 0)] [0]) (.cons (.inp 6) .nil) (.eff (.app 22 22 3 1 8 (.int .i64 0)) (.cons (.inp 4) (.cons (.bv 0) .nil)) (.done [(4, (.bv 1))] none)))) h19_3)
@[simp] theorem h19_4_wp {P : Program} {F : PF P} {Q : EX → List Value → World → Prop} {env : List Value} {w : World} : h19_4.wp F Q env w = HC.wp F (.seq (.reg (.eff (.bsl 3 1 1 #[(.int .i64 0)] [0]) (.cons (.inp 6) .nil) (.eff (.app 22 22 3 1 8 (.int .i64 0)) (.cons (.inp 4) (.cons (.bv 0) .nil)) (.done [(4, (.bv 1))] none)))) h19_3) Q env w := rfl
def h19_5 : HC := (.br (.chk none (.bin .eql) (.cons (.inp 6) (.cons (.cst (.int .i64 0)) .nil)) (.done [] (some (.op (.bin .eql) (.cons (.inp 6) (.cons (.cst (.int .i64 0)) .nil)))))) h19_2 h19_4)
@[simp] theorem h19_5_wp {P : Program} {F : PF P} {Q : EX → List Value → World → Prop} {env : List Value} {w : World} : h19_5.wp F Q env w = HC.wp F (.br (.chk none (.bin .eql) (.cons (.inp 6) (.cons (.cst (.int .i64 0)) .nil)) (.done [] (some (.op (.bin .eql) (.cons (.inp 6) (.cons (.cst (.int .i64 0)) .nil)))))) h19_2 h19_4) Q env w := rfl
def h19_6 : HC := (.reg (.done [(6, (.cst (.int .i64 119)))] none))
@[simp] theorem h19_6_wp {P : Program} {F : PF P} {Q : EX → List Value → World → Prop} {env : List Value} {w : World} : h19_6.wp F Q env w = HC.wp F (.reg (.done [(6, (.cst (.int .i64 119)))] none)) Q env w := rfl
def h19_7 : HC := (.seq (.br (.chk none (.bin .add) (.cons (.inp 5) (.cons (.cst (.int .i64 1)) .nil)) (.chk none .lenL (.cons (.inp 2) .nil) (.chk none (.bin .lss) (.cons (.op (.bin .add) (.cons (.inp 5) (.cons (.cst (.int .i64 1)) .nil))) (.cons (.op .lenL (.cons (.inp 2) .nil)) .nil)) (.bnd (.op (.bin .lss) (.cons (.op (.bin .add) (.cons (.inp 5) (.cons (.cst (.int .i64 1)) .nil))) (.cons (.op .lenL (.cons (.inp 2) .nil)) .nil))) (.chk (some ((.bv 0), true)) (.idxL 1) (.cons (.inp 2) (.cons (.inp 5) .nil)) (.ite (.bv 0) true (.eff (.ld false 1) (.cons (.ite (.bv 0) true (.op (.idxL 1) (.cons (.inp 2) (.cons (.inp 5) .nil))) (.cst (.tuple #[]))) .nil) (.chk none (.bin .eql) (.cons (.bv 1) (.cons (.cst (.int .i64 118)) .nil)) (.isb none (.bv 0) (.bnd (.op (.bin .eql) (.cons (.bv 1) (.cons (.cst (.int .i64 118)) .nil))) (.chk (some ((.bv 2), true)) (.bin .add) (.cons (.inp 5) (.cons (.cst (.int .i64 1)) .nil)) (.chk (some ((.bv 2), true)) (.idxL 1) (.cons (.inp 2) (.cons (.op (.bin .add) (.cons (.inp 5) (.cons (.cst (.int .i64 1)) .nil))) .nil)) (.ite (.bv 2) true (.eff (.ld false 1) (.cons (.ite (.bv 2) true (.op (.idxL 1) (.cons (.inp 2) (.cons (.op (.bin .add) (.cons (.inp 5) (.cons (.cst (.int .i64 1)) .nil))) .nil))) (.cst (.tuple #[]))) .nil) (.chk none (.bin .eql) (.cons (.bv 3) (.cons (.cst (.int .i64 118)) .nil)) (.isb none (.bv 2) (.done [] (some (.op (.bin .eql) (.cons (.bv 3) (.cons (.cst (.int .i64 118)) .nil)))))))) (.isb none (.bv 2) (.done [] (some (.cst (.bool false)))))))))))) (.isb none (.bv 0) (.isb none (.cst (.bool false)) (.done [] (some (.cst (.bool false)))))))))))) h19_6 .skip) h19_5)
@[simp] theorem h19_7_wp {P : Program} {F : PF P} {Q : EX → List Value → World → Prop} {env : List Value} {w : World} : h19_7.wp F Q env w = HC.wp F (.seq (.br (.chk none (.bin .add) (.cons (.inp 5) (.cons (.cst (.int .i64 1)) .nil)) (.chk none .lenL (.cons (.inp 2) .nil) (.chk none (.bin .lss) (.cons (.op (.bin .add) (.cons (.inp 5) (.cons (.cst (.int .i64 1)) .nil))) (.cons (.op .lenL (.cons (.inp 2) .nil)) .nil)) (.bnd (.op (.bin .lss) (.cons (.op (.bin .add) (.cons (.inp 5) (.cons (.cst (.int .i64 1)) .nil))) (.cons (.op .lenL (.cons (.inp 2) .nil)) .nil))) (.chk (some ((.bv 0), true)) (.idxL 1) (.cons (.inp 2) (.cons (.inp 5) .nil)) (.ite (.bv 0) true (.eff (.ld false 1) (.cons (.ite (.bv 0) true (.op (.idxL 1) (.cons (.inp 2) (.cons (.inp 5) .nil))) (.cst (.tuple #[]))) .nil) (.chk none (.bin .eql) (.cons (.bv 1) (.cons (.cst (.int .i64 118)) .nil)) (.isb none (.bv 0) (.bnd (.op (.bin .eql) (.cons (.bv 1) (.cons (.cst (.int .i64 118)) .nil))) (.chk (some ((.bv 2), true)) (.bin .add) (.cons (.inp 5) (.cons (.cst (.int .i64 1)) .nil)) (.chk (some ((.bv 2), true)) (.idxL 1) (.cons (.inp 2) (.cons (.op (.bin .add) (.cons (.inp 5) (.cons (.cst (.int .i64 1)) .nil))) .nil)) (.ite (.bv 2) true (.eff (.ld false 1) (.cons (.ite (.bv 2) true (.op (.idxL 1) (.cons (.inp 2) (.cons (.op (.bin .add) (.cons (.inp 5) (.cons (.cst (.int .i64 1)) .nil))) .nil))) (.cst (.tuple #[]))) .nil) (.chk none (.bin .eql) (.cons (.bv 3) (.cons (.cst (.int .i64 118)) .nil)) (.isb none (.bv 2) (.done [] (some (.op (.bin .eql) (.cons (.bv 3) (.cons (.cst (.int .i64 118)) .nil)))))))) (.isb none (.bv 2) (.done [] (some (.cst (.bool false)))))))))))) (.isb none (.bv 0) (.isb none (.cst (.bool false)) (.done [] (some (.cst (.bool false)))))))))))) h19_6 .skip) h19_5) Q env w := rfl
def h19_8 : HC := (.reg (.done [(6, (.cst (.int .i64 109)))] none))
@[simp] theorem h19_8_wp {P : Program} {F : PF P} {Q : EX → List Value → World → Prop} {env : List Value} {w : World} : h19_8.wp F Q env w = HC.wp F (.reg (.done [(6, (.cst (.int .i64 109)))] none)) Q env w := rfl
def h19_9 : HC := (.seq (.br (.chk none (.bin .add) (.cons (.inp 5) (.cons (.cst (.int .i64 1)) .nil)) (.chk none .lenL (.cons (.inp 2) .nil) (.chk none (.bin .lss) (.cons (.op (.bin .add) (.cons (.inp 5) (.cons (.cst (.int .i64 1)) .nil))) (.cons (.op .lenL (.cons (.inp 2) .nil)) .nil)) (.bnd (.op (.bin .lss) (.cons (.op (.bin .add) (.cons (.inp 5) (.cons (.cst (.int .i64 1)) .nil))) (.cons (.op .lenL (.cons (.inp 2) .nil)) .nil))) (.chk (some ((.bv 0), true)) (.idxL 1) (.cons (.inp 2) (.cons (.inp 5) .nil)) (.ite (.bv 0) true (.eff (.ld false 1) (.cons (.ite (.bv 0) true (.op (.idxL 1) (.cons (.inp 2) (.cons (.inp 5) .nil))) (.cst (.tuple #[]))) .nil) (.chk none (.bin .eql) (.cons (.bv 1) (.cons (.cst (.int .i64 114)) .nil)) (.isb none (.bv 0) (.bnd (.op (.bin .eql) (.cons (.bv 1) (.cons (.cst (.int .i64 114)) .nil))) (.chk (some ((.bv 2), true)) (.bin .add) (.cons (.inp 5) (.cons (.cst (.int .i64 1)) .nil)) (.chk (some ((.bv 2), true)) (.idxL 1) (.cons (.inp 2) (.cons (.op (.bin .add) (.cons (.inp 5) (.cons (.cst (.int .i64 1)) .nil))) .nil)) (.ite (.bv 2) true (.eff (.ld false 1) (.cons (.ite (.bv 2) true (.op (.idxL 1) (.cons (.inp 2) (.cons (.op (.bin .add) (.cons (.inp 5) (.cons (.cst (.int .i64 1)) .nil))) .nil))) (.cst (.tuple #[]))) .nil) (.chk none (.bin .eql) (.cons (.bv 3) (.cons (.cst (.int .i64 110)) .nil)) (.isb none (.bv 2) (.done [] (some (.op (.bin .eql) (.cons (.bv 3) (.cons (.cst (.int .i64 110)) .nil)))))))) (.isb none (.bv 2) (.done [] (some (.cst (.bool false)))))))))))) (.isb none (.bv 0) (.isb none (.cst (.bool false)) (.done [] (some (.cst (.bool false)))))))))))) h19_8 .skip) h19_7)
@[simp] theorem h19_9_wp {P : Program} {F : PF P} {Q : EX → List Value → World → Prop} {env : List Value} {w : World} : h19_9.wp F Q env w = HC.wp F (.seq (.br (.chk none (.bin .add) (.cons (.inp 5) (.cons (.cst (.int .i64 1)) .nil)) (.chk none .lenL (.cons (.inp 2) .nil) (.chk none (.bin .lss) (.cons (.op (.bin .add) (.cons (.inp 5) (.cons (.cst (.int .i64 1)) .nil))) (.cons (.op .lenL (.cons (.inp 2) .nil)) .nil)) (.bnd (.op (.bin .lss) (.cons (.op (.bin .add) (.cons (.inp 5) (.cons (.cst (.int .i64 1)) .nil))) (.cons (.op .lenL (.cons (.inp 2) .nil)) .nil))) (.chk (some ((.bv 0), true)) (.idxL 1) (.cons (.inp 2) (.cons (.inp 5) .nil)) (.ite (.bv 0) true (.eff (.ld false 1) (.cons (.ite (.bv 0) true (.op (.idxL 1) (.cons (.inp 2) (.cons (.inp 5) .nil))) (.cst (.tuple #[]))) .nil) (.chk none (.bin .eql) (.cons (.bv 1) (.cons (.cst (.int .i64 114)) .nil)) (.isb none (.bv 0) (.bnd (.op (.bin .eql) (.cons (.bv 1) (.cons (.cst (.int .i64 114)) .nil))) (.chk (some ((.bv 2), true)) (.bin .add) (.cons (.inp 5) (.cons (.cst (.int .i64 1)) .nil)) (.chk (some ((.bv 2), true)) (.idxL 1) (.cons (.inp 2) (.cons (.op (.bin .add) (.cons (.inp 5) (.cons (.cst (.int .i64 1)) .nil))) .nil)) (.ite (.bv 2) true (.eff (.ld false 1) (.cons (.ite (.bv 2) true (.op (.idxL 1) (.cons (.inp 2) (.cons (.op (.bin .add) (.cons (.inp 5) (.cons (.cst (.int .i64 1)) .nil))) .nil))) (.cst (.tuple #[]))) .nil) (.chk none (.bin .eql) (.cons (.bv 3) (.cons (.cst (.int .i64 110)) .nil)) (.isb none (.bv 2) (.done [] (some (.op (.bin .eql) (.cons (.bv 3) (.cons (.cst (.int .i64 110)) .nil)))))))) (.isb none (.bv 2) (.done [] (some (.cst (.bool false)))))))))))) (.isb none (.bv 0) (.isb none (.cst (.bool false)) (.done [] (some (.cst (.bool false)))))))))))) h19_8 .skip) h19_7) Q env w := rfl
def h19_10 : HC := (.seq (.reg (.done [(6, (.cst (.int .i64 0)))] none)) h19_9)
@[simp] theorem h19_10_wp {P : Program} {F : PF P} {Q : EX → List Value → World → Prop} {env : List Value} {w : World} : h19_10.wp F Q env w = HC.wp F (.seq (.reg (.done [(6, (.cst (.int .i64 0)))] none)) h19_9) Q env w := rfl
def h19_11 : HC := (.seq (.block 3 h19_10) h19_1)
@[simp] theorem h19_11_wp {P : Program} {F : PF P} {Q : EX → List Value → World → Prop} {env : List Value} {w : World} : h19_11.wp F Q env w = HC.wp F (.seq (.block 3 h19_10) h19_1) Q env w := rfl
def h19_12 : HC := (.seq (.br (.chk none .lenL (.cons (.inp 2) .nil) (.chk none (.bin .lss) (.cons (.inp 5) (.cons (.op .lenL (.cons (.inp 2) .nil)) .nil)) (.done [] (some (.op (.bin .lss) (.cons (.inp 5) (.cons (.op .lenL (.cons (.inp 2) .nil)) .nil))))))) .skip (.exit 2)) h19_11)
@[simp] theorem h19_12_wp {P : Program} {F : PF P} {Q : EX → List Value → World → Prop} {env : List Value} {w : World} : h19_12.wp F Q env w = HC.wp F (.seq (.br (.chk none .lenL (.cons (.inp 2) .nil) (.chk none (.bin .lss) (.cons (.inp 5) (.cons (.op .lenL (.cons (.inp 2) .nil)) .nil)) (.done [] (some (.op (.bin .lss) (.cons (.inp 5) (.cons (.op .lenL (.cons (.inp 2) .nil)) .nil))))))) .skip (.exit 2)) h19_11) Q env w := rfl
def h19_13 : HC := (.loop h19_12)
@[simp] theorem h19_13_wp {P : Program} {F : PF P} {Q : EX → List Value → World → Prop} {env : List Value} {w : World} : h19_13.wp F Q env w = HC.wp F (.loop h19_12) Q env w := rfl
def h19_14 : HC := (.seq (.block 2 h19_13) h19_0)
@[simp] theorem h19_14_wp {P : Program} {F : PF P} {Q : EX → List Value → World → Prop} {env : List Value} {w : World} : h19_14.wp F Q env w = HC.wp F (.seq (.block 2 h19_13) h19_0) Q env w := rfl
def h19_15 : HC := (.seq (.reg (.done [(5, (.cst (.int .i64 0)))] none)) h19_14)
@[simp] theorem h19_15_wp {P : Program} {F : PF P} {Q : EX → List Value → World → Prop} {env : List Value} {w : World} : h19_15.wp F Q env w = HC.wp F (.seq (.reg (.done [(5, (.cst (.int .i64 0)))] none)) h19_14) Q env w := rfl
def h19_16 : HC := (.seq (.reg (.done [(4, (.cst (.slice none 0 0)))] none)) h19_15)
@[simp] theorem h19_16_wp {P : Program} {F : PF P} {Q : EX → List Value → World → Prop} {env : List Value} {w : World} : h19_16.wp F Q env w = HC.wp F (.seq (.reg (.done [(4, (.cst (.slice none 0 0)))] none)) h19_15) Q env w := rfl
def h19_17 : HC := (.reg (.chk none (.bin .add) (.cons (.inp 3) (.cons (.cst (.int .i64 1)) .nil)) (.done [(3, (.op (.bin .add) (.cons (.inp 3) (.cons (.cst (.int .i64 1)) .nil))))] none)))
@[simp] theorem h19_17_wp {P : Program} {F : PF P} {Q : EX → List Value → World → Prop} {env : List Value} {w : World} : h19_17.wp F Q env w = HC.wp F (.reg (.chk none (.bin .add) (.cons (.inp 3) (.cons (.cst (.int .i64 1)) .nil)) (.done [(3, (.op (.bin .add) (.cons (.inp 3) (.cons (.cst (.int .i64 1)) .nil))))] none))) Q env w := rfl
def h19_18 : HC := (.reg (.chk none (.idxL 1) (.cons (.inp 2) (.cons (.inp 3) .nil)) (.eff (.ld false 1) (.cons (.op (.idxL 1) (.cons (.inp 2) (.cons (.inp 3) .nil))) .nil) (.chk none (.cal 39) (.cons (.bv 0) .nil) (.chk none (.idxL 1) (.cons (.inp 2) (.cons (.inp 3) .nil)) (.eff (.st 1) (.cons (.op (.idxL 1) (.cons (.inp 2) (.cons (.inp 3) .nil))) (.cons (.op (.cal 39) (.cons (.bv 0) .nil)) .nil)) (.done [] none)))))))
@[simp] theorem h19_18_wp {P : Program} {F : PF P} {Q : EX → List Value → World → Prop} {env : List Value} {w : World} : h19_18.wp F Q env w = HC.wp F (.reg (.chk none (.idxL 1) (.cons (.inp 2) (.cons (.inp 3) .nil)) (.eff (.ld false 1) (.cons (.op (.idxL 1) (.cons (.inp 2) (.cons (.inp 3) .nil))) .nil) (.chk none (.cal 39) (.cons (.bv 0) .nil) (.chk none (.idxL 1) (.cons (.inp 2) (.cons (.inp 3) .nil)) (.eff (.st 1) (.cons (.op (.idxL 1) (.cons (.inp 2) (.cons (.inp 3) .nil))) (.cons (.op (.cal 39) (.cons (.bv 0) .nil)) .nil)) (.done [] none))))))) Q env w := rfl
def h19_19 : HC := (.seq (.block 1 h19_18) h19_17)
@[simp] theorem h19_19_wp {P : Program} {F : PF P} {Q : EX → List Value → World → Prop} {env : List Value} {w : World} : h19_19.wp F Q env w = HC.wp F (.seq (.block 1 h19_18) h19_17) Q env w := rfl
def h19_20 : HC := (.seq (.br (.chk none .lenL (.cons (.inp 2) .nil) (.chk none (.bin .lss) (.cons (.inp 3) (.cons (.op .lenL (.cons (.inp 2) .nil)) .nil)) (.done [] (some (.op (.bin .lss) (.cons (.inp 3) (.cons (.op .lenL (.cons (.inp 2) .nil)) .nil))))))) .skip (.exit 0)) h19_19)
@[simp] theorem h19_20_wp {P : Program} {F : PF P} {Q : EX → List Value → World → Prop} {env : List Value} {w : World} : h19_20.wp F Q env w = HC.wp F (.seq (.br (.chk none .lenL (.cons (.inp 2) .nil) (.chk none (.bin .lss) (.cons (.inp 3) (.cons (.op .lenL (.cons (.inp 2) .nil)) .nil)) (.done [] (some (.op (.bin .lss) (.cons (.inp 3) (.cons (.op .lenL (.cons (.inp 2) .nil)) .nil))))))) .skip (.exit 0)) h19_19) Q env w := rfl
def h19_21 : HC := (.loop h19_20)
@[simp] theorem h19_21_wp {P : Program} {F : PF P} {Q : EX → List Value → World → Prop} {env : List Value} {w : World} : h19_21.wp F Q env w = HC.wp F (.loop h19_20) Q env w := rfl
def h19_22 : HC := (.seq (.block 0 h19_21) h19_16)
@[simp] theorem h19_22_wp {P : Program} {F : PF P} {Q : EX → List Value → World → Prop} {env : List Value} {w : World} : h19_22.wp F Q env w = HC.wp F (.seq (.block 0 h19_21) h19_16) Q env w := rfl
def h19_23 : HC := (.seq (.reg (.done [(3, (.cst (.int .i64 0)))] none)) h19_22)
@[simp] theorem h19_23_wp {P : Program} {F : PF P} {Q : EX → List Value → World → Prop} {env : List Value} {w : World} : h19_23.wp F Q env w = HC.wp F (.seq (.reg (.done [(3, (.cst (.int .i64 0)))] none)) h19_22) Q env w := rfl
def h19_24 : HC := (.seq (.reg (.eff (.call 37) (.cons (.inp 0) .nil) (.done [(2, (.bv 0))] none))) h19_23)
@[simp] theorem h19_24_wp {P : Program} {F : PF P} {Q : EX → List Value → World → Prop} {env : List Value} {w : World} : h19_24.wp F Q env w = HC.wp F (.seq (.reg (.eff (.call 37) (.cons (.inp 0) .nil) (.done [(2, (.bv 0))] none))) h19_23) Q env w := rfl
def l19 : Lifted := ⟨[0, 2, 3, 4, 5, 6, 7], 87, [.slot 1], (.seq (.reg (.done [(1, (.cst (.string ⟨#[]⟩)))] none)) h19_24)⟩
theorem l19_ok : liftFn F4 19 400 = some l19 := by kernel_rfl

-- bazaar/name.Look
def h18_0 : HC := (.seq (.reg (.eff (.call 34) (.cons (.inp 5) .nil) (.done [(1, (.bv 0))] none))) .ret)
@[simp] theorem h18_0_wp {P : Program} {F : PF P} {Q : EX → List Value → World → Prop} {env : List Value} {w : World} : h18_0.wp F Q env w = HC.wp F (.seq (.reg (.eff (.call 34) (.cons (.inp 5) .nil) (.done [(1, (.bv 0))] none))) .ret) Q env w := rfl
def h18_1 : HC := (.reg (.chk none (.bin .add) (.cons (.inp 6) (.cons (.cst (.int .i64 1)) .nil)) (.done [(6, (.op (.bin .add) (.cons (.inp 6) (.cons (.cst (.int .i64 1)) .nil))))] none)))
@[simp] theorem h18_1_wp {P : Program} {F : PF P} {Q : EX → List Value → World → Prop} {env : List Value} {w : World} : h18_1.wp F Q env w = HC.wp F (.reg (.chk none (.bin .add) (.cons (.inp 6) (.cons (.cst (.int .i64 1)) .nil)) (.done [(6, (.op (.bin .add) (.cons (.inp 6) (.cons (.cst (.int .i64 1)) .nil))))] none))) Q env w := rfl
def h18_2 : HC := (.reg (.eff (.bsl 21 1 1 #[(.int .i32 0)] [0]) (.cons (.inp 7) .nil) (.eff (.app 44 44 21 1 4 (.int .i32 0)) (.cons (.inp 5) (.cons (.bv 0) .nil)) (.done [(5, (.bv 1))] none))))
@[simp] theorem h18_2_wp {P : Program} {F : PF P} {Q : EX → List Value → World → Prop} {env : List Value} {w : World} : h18_2.wp F Q env w = HC.wp F (.reg (.eff (.bsl 21 1 1 #[(.int .i32 0)] [0]) (.cons (.inp 7) .nil) (.eff (.app 44 44 21 1 4 (.int .i32 0)) (.cons (.inp 5) (.cons (.bv 0) .nil)) (.done [(5, (.bv 1))] none)))) Q env w := rfl
def h18_3 : HC := (.reg (.chk none (.bin .add) (.cons (.inp 6) (.cons (.cst (.int .i64 1)) .nil)) (.done [(6, (.op (.bin .add) (.cons (.inp 6) (.cons (.cst (.int .i64 1)) .nil))))] none)))
@[simp] theorem h18_3_wp {P : Program} {F : PF P} {Q : EX → List Value → World → Prop} {env : List Value} {w : World} : h18_3.wp F Q env w = HC.wp F (.reg (.chk none (.bin .add) (.cons (.inp 6) (.cons (.cst (.int .i64 1)) .nil)) (.done [(6, (.op (.bin .add) (.cons (.inp 6) (.cons (.cst (.int .i64 1)) .nil))))] none))) Q env w := rfl
def h18_4 : HC := (.seq (.reg (.done [(7, (.cst (.int .i32 109)))] none)) h18_3)
@[simp] theorem h18_4_wp {P : Program} {F : PF P} {Q : EX → List Value → World → Prop} {env : List Value} {w : World} : h18_4.wp F Q env w = HC.wp F (.seq (.reg (.done [(7, (.cst (.int .i32 109)))] none)) h18_3) Q env w := rfl
def h18_5 : HC := (.reg (.chk none (.bin .add) (.cons (.inp 6) (.cons (.cst (.int .i64 1)) .nil)) (.done [(6, (.op (.bin .add) (.cons (.inp 6) (.cons (.cst (.int .i64 1)) .nil))))] none)))
@[simp] theorem h18_5_wp {P : Program} {F : PF P} {Q : EX → List Value → World → Prop} {env : List Value} {w : World} : h18_5.wp F Q env w = HC.wp F (.reg (.chk none (.bin .add) (.cons (.inp 6) (.cons (.cst (.int .i64 1)) .nil)) (.done [(6, (.op (.bin .add) (.cons (.inp 6) (.cons (.cst (.int .i64 1)) .nil))))] none))) Q env w := rfl
def h18_6 : HC := (.seq (.reg (.done [(7, (.cst (.int .i32 119)))] none)) h18_5)
@[simp] theorem h18_6_wp {P : Program} {F : PF P} {Q : EX → List Value → World → Prop} {env : List Value} {w : World} : h18_6.wp F Q env w = HC.wp F (.seq (.reg (.done [(7, (.cst (.int .i32 119)))] none)) h18_5) Q env w := rfl
def h18_7 : HC := (.br (.chk none (.bin .add) (.cons (.inp 6) (.cons (.cst (.int .i64 1)) .nil)) (.chk none .lenL (.cons (.inp 2) .nil) (.chk none (.bin .lss) (.cons (.op (.bin .add) (.cons (.inp 6) (.cons (.cst (.int .i64 1)) .nil))) (.cons (.op .lenL (.cons (.inp 2) .nil)) .nil)) (.bnd (.op (.bin .lss) (.cons (.op (.bin .add) (.cons (.inp 6) (.cons (.cst (.int .i64 1)) .nil))) (.cons (.op .lenL (.cons (.inp 2) .nil)) .nil))) (.chk (some ((.bv 0), true)) (.bin .eql) (.cons (.inp 7) (.cons (.cst (.int .i32 118)) .nil)) (.isb none (.bv 0) (.bnd (.ite (.bv 0) true (.op (.bin .eql) (.cons (.inp 7) (.cons (.cst (.int .i32 118)) .nil))) (.cst (.bool false))) (.chk (some ((.bv 1), true)) (.bin .add) (.cons (.inp 6) (.cons (.cst (.int .i64 1)) .nil)) (.chk (some ((.bv 1), true)) (.idxL 1) (.cons (.inp 2) (.cons (.op (.bin .add) (.cons (.inp 6) (.cons (.cst (.int .i64 1)) .nil))) .nil)) (.ite (.bv 1) true (.eff (.ld false 1) (.cons (.ite (.bv 1) true (.op (.idxL 1) (.cons (.inp 2) (.cons (.op (.bin .add) (.cons (.inp 6) (.cons (.cst (.int .i64 1)) .nil))) .nil))) (.cst (.tuple #[]))) .nil) (.chk none (.bin .eql) (.cons (.bv 2) (.cons (.cst (.int .i32 118)) .nil)) (.isb none (.bv 1) (.done [] (some (.op (.bin .eql) (.cons (.bv 2) (.cons (.cst (.int .i32 118)) .nil)))))))) (.isb none (.bv 1) (.done [] (some (.cst (.bool false))))))))))))))) h18_6 .skip)
@[simp] theorem h18_7_wp {P : Program} {F : PF P} {Q : EX → List Value → World → Prop} {env : List Value} {w : World} : h18_7.wp F Q env w = HC.wp F (.br (.chk none (.bin .add) (.cons (.inp 6) (.cons (.cst (.int .i64 1)) .nil)) (.chk none .lenL (.cons (.inp 2) .nil) (.chk none (.bin .lss) (.cons (.op (.bin .add) (.cons (.inp 6) (.cons (.cst (.int .i64 1)) .nil))) (.cons (.op .lenL (.cons (.inp 2) .nil)) .nil)) (.bnd (.op (.bin .lss) (.cons (.op (.bin .add) (.cons (.inp 6) (.cons (.cst (.int .i64 1)) .nil))) (.cons (.op .lenL (.cons (.inp 2) .nil)) .nil))) (.chk (some ((.bv 0), true)) (.bin .eql) (.cons (.inp 7) (.cons (.cst (.int .i32 118)) .nil)) (.isb none (.bv 0) (.bnd (.ite (.bv 0) true (.op (.bin .eql) (.cons (.inp 7) (.cons (.cst (.int .i32 118)) .nil))) (.cst (.bool false))) (.chk (some ((.bv 1), true)) (.bin .add) (.cons (.inp 6) (.cons (.cst (.int .i64 1)) .nil)) (.chk (some ((.bv 1), true)) (.idxL 1) (.cons (.inp 2) (.cons (.op (.bin .add) (.cons (.inp 6) (.cons (.cst (.int .i64 1)) .nil))) .nil)) (.ite (.bv 1) true (.eff (.ld false 1) (.cons (.ite (.bv 1) true (.op (.idxL 1) (.cons (.inp 2) (.cons (.op (.bin .add) (.cons (.inp 6) (.cons (.cst (.int .i64 1)) .nil))) .nil))) (.cst (.tuple #[]))) .nil) (.chk none (.bin .eql) (.cons (.bv 2) (.cons (.cst (.int .i32 118)) .nil)) (.isb none (.bv 1) (.done [] (some (.op (.bin .eql) (.cons (.bv 2) (.cons (.cst (.int .i32 118)) .nil)))))))) (.isb none (.bv 1) (.done [] (some (.cst (.bool false))))))))))))))) h18_6 .skip) Q env w := rfl
def h18_8 : HC := (.br (.chk none (.bin .add) (.cons (.inp 6) (.cons (.cst (.int .i64 1)) .nil)) (.chk none .lenL (.cons (.inp 2) .nil) (.chk none (.bin .lss) (.cons (.op (.bin .add) (.cons (.inp 6) (.cons (.cst (.int .i64 1)) .nil))) (.cons (.op .lenL (.cons (.inp 2) .nil)) .nil)) (.bnd (.op (.bin .lss) (.cons (.op (.bin .add) (.cons (.inp 6) (.cons (.cst (.int .i64 1)) .nil))) (.cons (.op .lenL (.cons (.inp 2) .nil)) .nil))) (.chk (some ((.bv 0), true)) (.bin .eql) (.cons (.inp 7) (.cons (.cst (.int .i32 114)) .nil)) (.isb none (.bv 0) (.bnd (.ite (.bv 0) true (.op (.bin .eql) (.cons (.inp 7) (.cons (.cst (.int .i32 114)) .nil))) (.cst (.bool false))) (.chk (some ((.bv 1), true)) (.bin .add) (.cons (.inp 6) (.cons (.cst (.int .i64 1)) .nil)) (.chk (some ((.bv 1), true)) (.idxL 1) (.cons (.inp 2) (.cons (.op (.bin .add) (.cons (.inp 6) (.cons (.cst (.int .i64 1)) .nil))) .nil)) (.ite (.bv 1) true (.eff (.ld false 1) (.cons (.ite (.bv 1) true (.op (.idxL 1) (.cons (.inp 2) (.cons (.op (.bin .add) (.cons (.inp 6) (.cons (.cst (.int .i64 1)) .nil))) .nil))) (.cst (.tuple #[]))) .nil) (.chk none (.bin .eql) (.cons (.bv 2) (.cons (.cst (.int .i32 110)) .nil)) (.isb none (.bv 1) (.done [] (some (.op (.bin .eql) (.cons (.bv 2) (.cons (.cst (.int .i32 110)) .nil)))))))) (.isb none (.bv 1) (.done [] (some (.cst (.bool false))))))))))))))) h18_4 h18_7)
@[simp] theorem h18_8_wp {P : Program} {F : PF P} {Q : EX → List Value → World → Prop} {env : List Value} {w : World} : h18_8.wp F Q env w = HC.wp F (.br (.chk none (.bin .add) (.cons (.inp 6) (.cons (.cst (.int .i64 1)) .nil)) (.chk none .lenL (.cons (.inp 2) .nil) (.chk none (.bin .lss) (.cons (.op (.bin .add) (.cons (.inp 6) (.cons (.cst (.int .i64 1)) .nil))) (.cons (.op .lenL (.cons (.inp 2) .nil)) .nil)) (.bnd (.op (.bin .lss) (.cons (.op (.bin .add) (.cons (.inp 6) (.cons (.cst (.int .i64 1)) .nil))) (.cons (.op .lenL (.cons (.inp 2) .nil)) .nil))) (.chk (some ((.bv 0), true)) (.bin .eql) (.cons (.inp 7) (.cons (.cst (.int .i32 114)) .nil)) (.isb none (.bv 0) (.bnd (.ite (.bv 0) true (.op (.bin .eql) (.cons (.inp 7) (.cons (.cst (.int .i32 114)) .nil))) (.cst (.bool false))) (.chk (some ((.bv 1), true)) (.bin .add) (.cons (.inp 6) (.cons (.cst (.int .i64 1)) .nil)) (.chk (some ((.bv 1), true)) (.idxL 1) (.cons (.inp 2) (.cons (.op (.bin .add) (.cons (.inp 6) (.cons (.cst (.int .i64 1)) .nil))) .nil)) (.ite (.bv 1) true (.eff (.ld false 1) (.cons (.ite (.bv 1) true (.op (.idxL 1) (.cons (.inp 2) (.cons (.op (.bin .add) (.cons (.inp 6) (.cons (.cst (.int .i64 1)) .nil))) .nil))) (.cst (.tuple #[]))) .nil) (.chk none (.bin .eql) (.cons (.bv 2) (.cons (.cst (.int .i32 110)) .nil)) (.isb none (.bv 1) (.done [] (some (.op (.bin .eql) (.cons (.bv 2) (.cons (.cst (.int .i32 110)) .nil)))))))) (.isb none (.bv 1) (.done [] (some (.cst (.bool false))))))))))))))) h18_4 h18_7) Q env w := rfl
def h18_9 : HC := (.seq (.block 4 h18_8) h18_2)
@[simp] theorem h18_9_wp {P : Program} {F : PF P} {Q : EX → List Value → World → Prop} {env : List Value} {w : World} : h18_9.wp F Q env w = HC.wp F (.seq (.block 4 h18_8) h18_2) Q env w := rfl
def h18_10 : HC := (.seq (.reg (.chk none (.idxL 1) (.cons (.inp 2) (.cons (.inp 6) .nil)) (.eff (.ld false 1) (.cons (.op (.idxL 1) (.cons (.inp 2) (.cons (.inp 6) .nil))) .nil) (.done [(7, (.bv 0))] none)))) h18_9)
@[simp] theorem h18_10_wp {P : Program} {F : PF P} {Q : EX → List Value → World → Prop} {env : List Value} {w : World} : h18_10.wp F Q env w = HC.wp F (.seq (.reg (.chk none (.idxL 1) (.cons (.inp 2) (.cons (.inp 6) .nil)) (.eff (.ld false 1) (.cons (.op (.idxL 1) (.cons (.inp 2) (.cons (.inp 6) .nil))) .nil) (.done [(7, (.bv 0))] none)))) h18_9) Q env w := rfl
def h18_11 : HC := (.seq (.block 3 h18_10) h18_1)
@[simp] theorem h18_11_wp {P : Program} {F : PF P} {Q : EX → List Value → World → Prop} {env : List Value} {w : World} : h18_11.wp F Q env w = HC.wp F (.seq (.block 3 h18_10) h18_1) Q env w := rfl
def h18_12 : HC := (.seq (.br (.chk none .lenL (.cons (.inp 2) .nil) (.chk none (.bin .lss) (.cons (.inp 6) (.cons (.op .lenL (.cons (.inp 2) .nil)) .nil)) (.done [] (some (.op (.bin .lss) (.cons (.inp 6) (.cons (.op .lenL (.cons (.inp 2) .nil)) .nil))))))) .skip (.exit 2)) h18_11)
@[simp] theorem h18_12_wp {P : Program} {F : PF P} {Q : EX → List Value → World → Prop} {env : List Value} {w : World} : h18_12.wp F Q env w = HC.wp F (.seq (.br (.chk none .lenL (.cons (.inp 2) .nil) (.chk none (.bin .lss) (.cons (.inp 6) (.cons (.op .lenL (.cons (.inp 2) .nil)) .nil)) (.done [] (some (.op (.bin .lss) (.cons (.inp 6) (.cons (.op .lenL (.cons (.inp 2) .nil)) .nil))))))) .skip (.exit 2)) h18_11) Q env w := rfl
def h18_13 : HC := (.loop h18_12)
@[simp] theorem h18_13_wp {P : Program} {F : PF P} {Q : EX → List Value → World → Prop} {env : List Value} {w : World} : h18_13.wp F Q env w = HC.wp F (.loop h18_12) Q env w := rfl
def h18_14 : HC := (.seq (.block 2 h18_13) h18_0)
@[simp] theorem h18_14_wp {P : Program} {F : PF P} {Q : EX → List Value → World → Prop} {env : List Value} {w : World} : h18_14.wp F Q env w = HC.wp F (.seq (.block 2 h18_13) h18_0) Q env w := rfl
def h18_15 : HC := (.seq (.reg (.done [(6, (.cst (.int .i64 0)))] none)) h18_14)
@[simp] theorem h18_15_wp {P : Program} {F : PF P} {Q : EX → List Value → World → Prop} {env : List Value} {w : World} : h18_15.wp F Q env w = HC.wp F (.seq (.reg (.done [(6, (.cst (.int .i64 0)))] none)) h18_14) Q env w := rfl
def h18_16 : HC := (.seq (.reg (.chk none (.slL 1 false true false) (.cons (.inp 2) (.cons (.cst (.int .i64 0)) .nil)) (.done [(5, (.op (.slL 1 false true false) (.cons (.inp 2) (.cons (.cst (.int .i64 0)) .nil))))] none))) h18_15)
@[simp] theorem h18_16_wp {P : Program} {F : PF P} {Q : EX → List Value → World → Prop} {env : List Value} {w : World} : h18_16.wp F Q env w = HC.wp F (.seq (.reg (.chk none (.slL 1 false true false) (.cons (.inp 2) (.cons (.cst (.int .i64 0)) .nil)) (.done [(5, (.op (.slL 1 false true false) (.cons (.inp 2) (.cons (.cst (.int .i64 0)) .nil))))] none))) h18_15) Q env w := rfl
def h18_17 : HC := (.reg (.chk none (.bin .add) (.cons (.inp 10) (.cons (.cst (.int .i64 1)) .nil)) (.done [(10, (.op (.bin .add) (.cons (.inp 10) (.cons (.cst (.int .i64 1)) .nil))))] none)))
@[simp] theorem h18_17_wp {P : Program} {F : PF P} {Q : EX → List Value → World → Prop} {env : List Value} {w : World} : h18_17.wp F Q env w = HC.wp F (.reg (.chk none (.bin .add) (.cons (.inp 10) (.cons (.cst (.int .i64 1)) .nil)) (.done [(10, (.op (.bin .add) (.cons (.inp 10) (.cons (.cst (.int .i64 1)) .nil))))] none))) Q env w := rfl
def h18_18 : HC := (.reg (.eff (.call 38) (.cons (.inp 4) .nil) (.chk none (.idxL 1) (.cons (.inp 2) (.cons (.inp 3) .nil)) (.eff (.st 1) (.cons (.op (.idxL 1) (.cons (.inp 2) (.cons (.inp 3) .nil))) (.cons (.bv 0) .nil)) (.done [] none)))))
@[simp] theorem h18_18_wp {P : Program} {F : PF P} {Q : EX → List Value → World → Prop} {env : List Value} {w : World} : h18_18.wp F Q env w = HC.wp F (.reg (.eff (.call 38) (.cons (.inp 4) .nil) (.chk none (.idxL 1) (.cons (.inp 2) (.cons (.inp 3) .nil)) (.eff (.st 1) (.cons (.op (.idxL 1) (.cons (.inp 2) (.cons (.inp 3) .nil))) (.cons (.bv 0) .nil)) (.done [] none))))) Q env w := rfl
def h18_19 : HC := (.seq (.reg (.chk none (.idxL 1) (.cons (.inp 8) (.cons (.inp 10) .nil)) (.eff (.ld false 1) (.cons (.op (.idxL 1) (.cons (.inp 8) (.cons (.inp 10) .nil))) .nil) (.done [(3, (.inp 10)), (4, (.bv 0))] none)))) h18_18)
@[simp] theorem h18_19_wp {P : Program} {F : PF P} {Q : EX → List Value → World → Prop} {env : List Value} {w : World} : h18_19.wp F Q env w = HC.wp F (.seq (.reg (.chk none (.idxL 1) (.cons (.inp 8) (.cons (.inp 10) .nil)) (.eff (.ld false 1) (.cons (.op (.idxL 1) (.cons (.inp 8) (.cons (.inp 10) .nil))) .nil) (.done [(3, (.inp 10)), (4, (.bv 0))] none)))) h18_18) Q env w := rfl
def h18_20 : HC := (.seq (.block 1 h18_19) h18_17)
@[simp] theorem h18_20_wp {P : Program} {F : PF P} {Q : EX → List Value → World → Prop} {env : List Value} {w : World} : h18_20.wp F Q env w = HC.wp F (.seq (.block 1 h18_19) h18_17) Q env w := rfl
def h18_21 : HC := (.seq (.br (.chk none (.bin .lss) (.cons (.inp 10) (.cons (.inp 9) .nil)) (.done [] (some (.op (.bin .lss) (.cons (.inp 10) (.cons (.inp 9) .nil)))))) .skip (.exit 0)) h18_20)
@[simp] theorem h18_21_wp {P : Program} {F : PF P} {Q : EX → List Value → World → Prop} {env : List Value} {w : World} : h18_21.wp F Q env w = HC.wp F (.seq (.br (.chk none (.bin .lss) (.cons (.inp 10) (.cons (.inp 9) .nil)) (.done [] (some (.op (.bin .lss) (.cons (.inp 10) (.cons (.inp 9) .nil)))))) .skip (.exit 0)) h18_20) Q env w := rfl
def h18_22 : HC := (.loop h18_21)
@[simp] theorem h18_22_wp {P : Program} {F : PF P} {Q : EX → List Value → World → Prop} {env : List Value} {w : World} : h18_22.wp F Q env w = HC.wp F (.loop h18_21) Q env w := rfl
def h18_23 : HC := (.seq (.block 0 h18_22) h18_16)
@[simp] theorem h18_23_wp {P : Program} {F : PF P} {Q : EX → List Value → World → Prop} {env : List Value} {w : World} : h18_23.wp F Q env w = HC.wp F (.seq (.block 0 h18_22) h18_16) Q env w := rfl
def h18_24 : HC := (.seq (.reg (.chk none .lenL (.cons (.inp 2) .nil) (.done [(8, (.inp 2)), (9, (.op .lenL (.cons (.inp 2) .nil))), (10, (.cst (.int .i64 0)))] none))) h18_23)
@[simp] theorem h18_24_wp {P : Program} {F : PF P} {Q : EX → List Value → World → Prop} {env : List Value} {w : World} : h18_24.wp F Q env w = HC.wp F (.seq (.reg (.chk none .lenL (.cons (.inp 2) .nil) (.done [(8, (.inp 2)), (9, (.op .lenL (.cons (.inp 2) .nil))), (10, (.cst (.int .i64 0)))] none))) h18_23) Q env w := rfl
def h18_25 : HC := (.seq (.reg (.eff (.call 35) (.cons (.inp 0) .nil) (.done [(2, (.bv 0))] none))) h18_24)
@[simp] theorem h18_25_wp {P : Program} {F : PF P} {Q : EX → List Value → World → Prop} {env : List Value} {w : World} : h18_25.wp F Q env w = HC.wp F (.seq (.reg (.eff (.call 35) (.cons (.inp 0) .nil) (.done [(2, (.bv 0))] none))) h18_24) Q env w := rfl
def l18 : Lifted := ⟨[0, 2, 3, 4, 5, 6, 7, 8, 11, 12, 13], 82, [.slot 1], (.seq (.reg (.done [(1, (.cst (.string ⟨#[]⟩)))] none)) h18_25)⟩
theorem l18_ok : liftFn F4 18 400 = some l18 := by kernel_rfl


theorem rFold_spec (l : List UInt8) (w0 w : World) (A : Asn) (hl : l.length ≤ 1048576) (s : St w0 A w) :
    CallW Try.prog 17 [.string (mk l)] (fun r w' => r = .string (mk (encAll (foldedF l))) ∧ St w0 A w') w := by
  have hfl := folded_len l
  refine callW_of_lift l17_ok (by simp [l17]) ?_
  simp [l17]
  refine eff_call ((rfolded_spec l w0 w A hl s).mono ?_)
  intro v w1 s1
  simp
  refine eff_call ((rtext_spec _ v w0 w1 A (by omega) (folded_ok l) s1).mono ?_)
  rintro r w2 ⟨rfl, s2⟩
  simp
  exact s2.drop
theorem Fold_spec (l : List UInt8) (w0 w : World) (A : Asn) (hl : l.length ≤ 1048576) (s : St w0 A w) :
    CallW Try.prog 16 [.string (mk l)] (fun r w' => r = .string (mk (encAll (foldedF l))) ∧ St w0 A w') w := by
  have hfl := folded_len l
  refine callW_of_lift l16_ok (by simp [l16]) ?_
  simp [l16]
  refine eff_call ((folded_spec l w0 w A hl s).mono ?_)
  intro v w1 s1
  simp
  refine eff_call ((text_spec _ v w0 w1 A (by omega) (folded_ok l) s1).mono ?_)
  rintro r w2 ⟨rfl, s2⟩
  simp
  exact s2.drop
end Go.HL.Nm
