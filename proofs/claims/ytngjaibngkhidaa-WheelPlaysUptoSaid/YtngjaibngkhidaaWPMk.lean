/-
  What the claim leans on, part 11 of 12. Conditions: as each theorem says.
-/
import Derived.Test.YtngjaibngkhidaaWPMj
namespace Go.HL.Wh
open Go.HL Go.Proofs
set_option maxRecDepth 4000
set_option linter.unusedSimpArgs false
set_option linter.unusedVariables false
-- bazaar/bazaarref09.Lies
def h44_0 : HC := (.seq (.reg (.done [(2, (.inp 4)), (3, (.inp 5))] none)) .ret)
@[simp] theorem h44_0_wp {P : Program} {F : PF P} {Q : EX → List Value → World → Prop} {env : List Value} {w : World} : h44_0.wp F Q env w = HC.wp F (.seq (.reg (.done [(2, (.inp 4)), (3, (.inp 5))] none)) .ret) Q env w := rfl
def h44_1 : HC := (.reg (.chk none (.bin .add) (.cons (.inp 7) (.cons (.cst (.int .i64 1)) .nil)) (.done [(7, (.op (.bin .add) (.cons (.inp 7) (.cons (.cst (.int .i64 1)) .nil))))] none)))
@[simp] theorem h44_1_wp {P : Program} {F : PF P} {Q : EX → List Value → World → Prop} {env : List Value} {w : World} : h44_1.wp F Q env w = HC.wp F (.reg (.chk none (.bin .add) (.cons (.inp 7) (.cons (.cst (.int .i64 1)) .nil)) (.done [(7, (.op (.bin .add) (.cons (.inp 7) (.cons (.cst (.int .i64 1)) .nil))))] none))) Q env w := rfl
def h44_2 : HC := (.reg (.chk none (.bin .mul) (.cons (.inp 6) (.cons (.cst (.int .i64 64)) .nil)) (.done [(6, (.op (.bin .mul) (.cons (.inp 6) (.cons (.cst (.int .i64 64)) .nil))))] none)))
@[simp] theorem h44_2_wp {P : Program} {F : PF P} {Q : EX → List Value → World → Prop} {env : List Value} {w : World} : h44_2.wp F Q env w = HC.wp F (.reg (.chk none (.bin .mul) (.cons (.inp 6) (.cons (.cst (.int .i64 64)) .nil)) (.done [(6, (.op (.bin .mul) (.cons (.inp 6) (.cons (.cst (.int .i64 64)) .nil))))] none))) Q env w := rfl
def h44_3 : HC := (.reg (.chk none (.bin .quo) (.cons (.inp 0) (.cons (.inp 6) .nil)) (.chk none (.bin .rem) (.cons (.op (.bin .quo) (.cons (.inp 0) (.cons (.inp 6) .nil))) (.cons (.cst (.int .i64 64)) .nil)) (.done [(5, (.op (.bin .rem) (.cons (.op (.bin .quo) (.cons (.inp 0) (.cons (.inp 6) .nil))) (.cons (.cst (.int .i64 64)) .nil))))] none))))
@[simp] theorem h44_3_wp {P : Program} {F : PF P} {Q : EX → List Value → World → Prop} {env : List Value} {w : World} : h44_3.wp F Q env w = HC.wp F (.reg (.chk none (.bin .quo) (.cons (.inp 0) (.cons (.inp 6) .nil)) (.chk none (.bin .rem) (.cons (.op (.bin .quo) (.cons (.inp 0) (.cons (.inp 6) .nil))) (.cons (.cst (.int .i64 64)) .nil)) (.done [(5, (.op (.bin .rem) (.cons (.op (.bin .quo) (.cons (.inp 0) (.cons (.inp 6) .nil))) (.cons (.cst (.int .i64 64)) .nil))))] none)))) Q env w := rfl
def h44_4 : HC := (.seq (.reg (.done [(4, (.inp 7))] none)) h44_3)
@[simp] theorem h44_4_wp {P : Program} {F : PF P} {Q : EX → List Value → World → Prop} {env : List Value} {w : World} : h44_4.wp F Q env w = HC.wp F (.seq (.reg (.done [(4, (.inp 7))] none)) h44_3) Q env w := rfl
def h44_5 : HC := (.seq (.brq (some 0) (.chk none (.bin .quo) (.cons (.inp 0) (.cons (.inp 6) .nil)) (.chk none (.bin .rem) (.cons (.op (.bin .quo) (.cons (.inp 0) (.cons (.inp 6) .nil))) (.cons (.cst (.int .i64 64)) .nil)) (.chk none (.bin .quo) (.cons (.inp 1) (.cons (.inp 6) .nil)) (.chk none (.bin .rem) (.cons (.op (.bin .quo) (.cons (.inp 1) (.cons (.inp 6) .nil))) (.cons (.cst (.int .i64 64)) .nil)) (.chk none (.bin .neq) (.cons (.op (.bin .rem) (.cons (.op (.bin .quo) (.cons (.inp 0) (.cons (.inp 6) .nil))) (.cons (.cst (.int .i64 64)) .nil))) (.cons (.op (.bin .rem) (.cons (.op (.bin .quo) (.cons (.inp 1) (.cons (.inp 6) .nil))) (.cons (.cst (.int .i64 64)) .nil))) .nil)) (.done [] (some (.op (.bin .neq) (.cons (.op (.bin .rem) (.cons (.op (.bin .quo) (.cons (.inp 0) (.cons (.inp 6) .nil))) (.cons (.cst (.int .i64 64)) .nil))) (.cons (.op (.bin .rem) (.cons (.op (.bin .quo) (.cons (.inp 1) (.cons (.inp 6) .nil))) (.cons (.cst (.int .i64 64)) .nil))) .nil)))))))))) h44_4 .skip) h44_2)
@[simp] theorem h44_5_wp {P : Program} {F : PF P} {Q : EX → List Value → World → Prop} {env : List Value} {w : World} : h44_5.wp F Q env w = HC.wp F (.seq (.brq (some 0) (.chk none (.bin .quo) (.cons (.inp 0) (.cons (.inp 6) .nil)) (.chk none (.bin .rem) (.cons (.op (.bin .quo) (.cons (.inp 0) (.cons (.inp 6) .nil))) (.cons (.cst (.int .i64 64)) .nil)) (.chk none (.bin .quo) (.cons (.inp 1) (.cons (.inp 6) .nil)) (.chk none (.bin .rem) (.cons (.op (.bin .quo) (.cons (.inp 1) (.cons (.inp 6) .nil))) (.cons (.cst (.int .i64 64)) .nil)) (.chk none (.bin .neq) (.cons (.op (.bin .rem) (.cons (.op (.bin .quo) (.cons (.inp 0) (.cons (.inp 6) .nil))) (.cons (.cst (.int .i64 64)) .nil))) (.cons (.op (.bin .rem) (.cons (.op (.bin .quo) (.cons (.inp 1) (.cons (.inp 6) .nil))) (.cons (.cst (.int .i64 64)) .nil))) .nil)) (.done [] (some (.op (.bin .neq) (.cons (.op (.bin .rem) (.cons (.op (.bin .quo) (.cons (.inp 0) (.cons (.inp 6) .nil))) (.cons (.cst (.int .i64 64)) .nil))) (.cons (.op (.bin .rem) (.cons (.op (.bin .quo) (.cons (.inp 1) (.cons (.inp 6) .nil))) (.cons (.cst (.int .i64 64)) .nil))) .nil)))))))))) h44_4 .skip) h44_2) Q env w := rfl
def h44_6 : HC := (.seq (.block 1 h44_5) h44_1)
@[simp] theorem h44_6_wp {P : Program} {F : PF P} {Q : EX → List Value → World → Prop} {env : List Value} {w : World} : h44_6.wp F Q env w = HC.wp F (.seq (.block 1 h44_5) h44_1) Q env w := rfl
def h44_7 : HC := (.seq (.br (.chk none (.bin .lss) (.cons (.inp 7) (.cons (.cst (.int .i64 4)) .nil)) (.done [] (some (.op (.bin .lss) (.cons (.inp 7) (.cons (.cst (.int .i64 4)) .nil)))))) .skip (.exit 0)) h44_6)
@[simp] theorem h44_7_wp {P : Program} {F : PF P} {Q : EX → List Value → World → Prop} {env : List Value} {w : World} : h44_7.wp F Q env w = HC.wp F (.seq (.br (.chk none (.bin .lss) (.cons (.inp 7) (.cons (.cst (.int .i64 4)) .nil)) (.done [] (some (.op (.bin .lss) (.cons (.inp 7) (.cons (.cst (.int .i64 4)) .nil)))))) .skip (.exit 0)) h44_6) Q env w := rfl
def h44_8 : HC := (.loop h44_7)
@[simp] theorem h44_8_wp {P : Program} {F : PF P} {Q : EX → List Value → World → Prop} {env : List Value} {w : World} : h44_8.wp F Q env w = HC.wp F (.loop h44_7) Q env w := rfl
def h44_9 : HC := (.seq (.block 0 h44_8) h44_0)
@[simp] theorem h44_9_wp {P : Program} {F : PF P} {Q : EX → List Value → World → Prop} {env : List Value} {w : World} : h44_9.wp F Q env w = HC.wp F (.seq (.block 0 h44_8) h44_0) Q env w := rfl
def h44_10 : HC := (.seq (.reg (.done [(7, (.cst (.int .i64 0)))] none)) h44_9)
@[simp] theorem h44_10_wp {P : Program} {F : PF P} {Q : EX → List Value → World → Prop} {env : List Value} {w : World} : h44_10.wp F Q env w = HC.wp F (.seq (.reg (.done [(7, (.cst (.int .i64 0)))] none)) h44_9) Q env w := rfl
def h44_11 : HC := (.seq (.reg (.done [(6, (.cst (.int .i64 1)))] none)) h44_10)
@[simp] theorem h44_11_wp {P : Program} {F : PF P} {Q : EX → List Value → World → Prop} {env : List Value} {w : World} : h44_11.wp F Q env w = HC.wp F (.seq (.reg (.done [(6, (.cst (.int .i64 1)))] none)) h44_10) Q env w := rfl
def h44_12 : HC := (.seq (.reg (.chk none (.bin .rem) (.cons (.inp 0) (.cons (.cst (.int .i64 64)) .nil)) (.done [(5, (.op (.bin .rem) (.cons (.inp 0) (.cons (.cst (.int .i64 64)) .nil))))] none))) h44_11)
@[simp] theorem h44_12_wp {P : Program} {F : PF P} {Q : EX → List Value → World → Prop} {env : List Value} {w : World} : h44_12.wp F Q env w = HC.wp F (.seq (.reg (.chk none (.bin .rem) (.cons (.inp 0) (.cons (.cst (.int .i64 64)) .nil)) (.done [(5, (.op (.bin .rem) (.cons (.inp 0) (.cons (.cst (.int .i64 64)) .nil))))] none))) h44_11) Q env w := rfl
def h44_13 : HC := (.seq (.reg (.done [(4, (.cst (.int .i64 0)))] none)) h44_12)
@[simp] theorem h44_13_wp {P : Program} {F : PF P} {Q : EX → List Value → World → Prop} {env : List Value} {w : World} : h44_13.wp F Q env w = HC.wp F (.seq (.reg (.done [(4, (.cst (.int .i64 0)))] none)) h44_12) Q env w := rfl
def h44_14 : HC := (.seq (.reg (.done [(2, (.cst (.int .i64 4))), (3, (.cst (.int .i64 0)))] none)) .ret)
@[simp] theorem h44_14_wp {P : Program} {F : PF P} {Q : EX → List Value → World → Prop} {env : List Value} {w : World} : h44_14.wp F Q env w = HC.wp F (.seq (.reg (.done [(2, (.cst (.int .i64 4))), (3, (.cst (.int .i64 0)))] none)) .ret) Q env w := rfl
def h44_15 : HC := (.seq (.br (.chk none (.bin .quo) (.cons (.inp 0) (.cons (.cst (.int .i64 16777216)) .nil)) (.chk none (.bin .quo) (.cons (.inp 1) (.cons (.cst (.int .i64 16777216)) .nil)) (.chk none (.bin .neq) (.cons (.op (.bin .quo) (.cons (.inp 0) (.cons (.cst (.int .i64 16777216)) .nil))) (.cons (.op (.bin .quo) (.cons (.inp 1) (.cons (.cst (.int .i64 16777216)) .nil))) .nil)) (.done [] (some (.op (.bin .neq) (.cons (.op (.bin .quo) (.cons (.inp 0) (.cons (.cst (.int .i64 16777216)) .nil))) (.cons (.op (.bin .quo) (.cons (.inp 1) (.cons (.cst (.int .i64 16777216)) .nil))) .nil)))))))) h44_14 .skip) h44_13)
@[simp] theorem h44_15_wp {P : Program} {F : PF P} {Q : EX → List Value → World → Prop} {env : List Value} {w : World} : h44_15.wp F Q env w = HC.wp F (.seq (.br (.chk none (.bin .quo) (.cons (.inp 0) (.cons (.cst (.int .i64 16777216)) .nil)) (.chk none (.bin .quo) (.cons (.inp 1) (.cons (.cst (.int .i64 16777216)) .nil)) (.chk none (.bin .neq) (.cons (.op (.bin .quo) (.cons (.inp 0) (.cons (.cst (.int .i64 16777216)) .nil))) (.cons (.op (.bin .quo) (.cons (.inp 1) (.cons (.cst (.int .i64 16777216)) .nil))) .nil)) (.done [] (some (.op (.bin .neq) (.cons (.op (.bin .quo) (.cons (.inp 0) (.cons (.cst (.int .i64 16777216)) .nil))) (.cons (.op (.bin .quo) (.cons (.inp 1) (.cons (.cst (.int .i64 16777216)) .nil))) .nil)))))))) h44_14 .skip) h44_13) Q env w := rfl
def l44 : Lifted := ⟨[0, 1, 4, 5, 6, 7, 8, 9], 39, [.slot 2, .slot 3], (.seq (.reg (.done [(2, (.cst (.int .i64 0))), (3, (.cst (.int .i64 0)))] none)) h44_15)⟩
theorem l44_ok : liftFn U2 44 400 = some l44 := by kernel_rfl

-- bazaar/bazaarref09.ahead
def h51_0 : HC := (.seq (.reg (.chk none (.fld 1) (.cons (.inp 2) .nil) (.eff (.ld false 1) (.cons (.op (.fld 1) (.cons (.inp 2) .nil)) .nil) (.chk none (.fld 1) (.cons (.inp 3) .nil) (.eff (.ld false 1) (.cons (.op (.fld 1) (.cons (.inp 3) .nil)) .nil) (.chk none (.bin .lss) (.cons (.bv 0) (.cons (.bv 1) .nil)) (.bnd (.op (.bin .lss) (.cons (.bv 0) (.cons (.bv 1) .nil))) (.chk (some ((.bv 2), false)) (.fld 1) (.cons (.inp 2) .nil) (.ite (.bv 2) false (.eff (.ld false 1) (.cons (.ite (.bv 2) false (.op (.fld 1) (.cons (.inp 2) .nil)) (.cst (.tuple #[]))) .nil) (.chk none (.fld 1) (.cons (.inp 3) .nil) (.eff (.ld false 1) (.cons (.op (.fld 1) (.cons (.inp 3) .nil)) .nil) (.chk none (.bin .eql) (.cons (.bv 3) (.cons (.bv 4) .nil)) (.bnd (.op (.bin .eql) (.cons (.bv 3) (.cons (.bv 4) .nil))) (.chk (some ((.bv 5), true)) (.fld 0) (.cons (.inp 2) .nil) (.ite (.bv 5) true (.eff (.ld false 1) (.cons (.ite (.bv 5) true (.op (.fld 0) (.cons (.inp 2) .nil)) (.cst (.tuple #[]))) .nil) (.chk none (.fld 0) (.cons (.inp 3) .nil) (.eff (.ld false 1) (.cons (.op (.fld 0) (.cons (.inp 3) .nil)) .nil) (.chk none (.bin .lss) (.cons (.bv 6) (.cons (.bv 7) .nil)) (.isb none (.bv 5) (.isb none (.bv 2) (.done [(4, (.op (.bin .lss) (.cons (.bv 6) (.cons (.bv 7) .nil))))] none))))))) (.isb none (.bv 5) (.isb none (.bv 2) (.done [(4, (.cst (.bool false)))] none)))))))))) (.isb none (.bv 2) (.done [(4, (.cst (.bool true)))] none))))))))))) .ret)
@[simp] theorem h51_0_wp {P : Program} {F : PF P} {Q : EX → List Value → World → Prop} {env : List Value} {w : World} : h51_0.wp F Q env w = HC.wp F (.seq (.reg (.chk none (.fld 1) (.cons (.inp 2) .nil) (.eff (.ld false 1) (.cons (.op (.fld 1) (.cons (.inp 2) .nil)) .nil) (.chk none (.fld 1) (.cons (.inp 3) .nil) (.eff (.ld false 1) (.cons (.op (.fld 1) (.cons (.inp 3) .nil)) .nil) (.chk none (.bin .lss) (.cons (.bv 0) (.cons (.bv 1) .nil)) (.bnd (.op (.bin .lss) (.cons (.bv 0) (.cons (.bv 1) .nil))) (.chk (some ((.bv 2), false)) (.fld 1) (.cons (.inp 2) .nil) (.ite (.bv 2) false (.eff (.ld false 1) (.cons (.ite (.bv 2) false (.op (.fld 1) (.cons (.inp 2) .nil)) (.cst (.tuple #[]))) .nil) (.chk none (.fld 1) (.cons (.inp 3) .nil) (.eff (.ld false 1) (.cons (.op (.fld 1) (.cons (.inp 3) .nil)) .nil) (.chk none (.bin .eql) (.cons (.bv 3) (.cons (.bv 4) .nil)) (.bnd (.op (.bin .eql) (.cons (.bv 3) (.cons (.bv 4) .nil))) (.chk (some ((.bv 5), true)) (.fld 0) (.cons (.inp 2) .nil) (.ite (.bv 5) true (.eff (.ld false 1) (.cons (.ite (.bv 5) true (.op (.fld 0) (.cons (.inp 2) .nil)) (.cst (.tuple #[]))) .nil) (.chk none (.fld 0) (.cons (.inp 3) .nil) (.eff (.ld false 1) (.cons (.op (.fld 0) (.cons (.inp 3) .nil)) .nil) (.chk none (.bin .lss) (.cons (.bv 6) (.cons (.bv 7) .nil)) (.isb none (.bv 5) (.isb none (.bv 2) (.done [(4, (.op (.bin .lss) (.cons (.bv 6) (.cons (.bv 7) .nil))))] none))))))) (.isb none (.bv 5) (.isb none (.bv 2) (.done [(4, (.cst (.bool false)))] none)))))))))) (.isb none (.bv 2) (.done [(4, (.cst (.bool true)))] none))))))))))) .ret) Q env w := rfl
def l51 : Lifted := ⟨[0, 1, 2, 3, 4], 24, [.slot 4], (.seq (.reg (.eff (.box 100) (.cons (.inp 0) .nil) (.eff (.box 100) (.cons (.inp 1) .nil) (.done [(2, (.bv 0)), (3, (.bv 1)), (4, (.cst (.bool false)))] none)))) h51_0)⟩
theorem l51_ok : liftFn U2 51 400 = some l51 := by kernel_rfl

-- (*bazaar/bazaarref09.Wheel).find
def h50_0 : HC := (.seq (.reg (.done [(2, (.cst (.int .i64 (-1))))] none)) .ret)
@[simp] theorem h50_0_wp {P : Program} {F : PF P} {Q : EX → List Value → World → Prop} {env : List Value} {w : World} : h50_0.wp F Q env w = HC.wp F (.seq (.reg (.done [(2, (.cst (.int .i64 (-1))))] none)) .ret) Q env w := rfl
def h50_1 : HC := (.reg (.chk none (.bin .add) (.cons (.inp 3) (.cons (.cst (.int .i64 1)) .nil)) (.done [(3, (.op (.bin .add) (.cons (.inp 3) (.cons (.cst (.int .i64 1)) .nil))))] none)))
@[simp] theorem h50_1_wp {P : Program} {F : PF P} {Q : EX → List Value → World → Prop} {env : List Value} {w : World} : h50_1.wp F Q env w = HC.wp F (.reg (.chk none (.bin .add) (.cons (.inp 3) (.cons (.cst (.int .i64 1)) .nil)) (.done [(3, (.op (.bin .add) (.cons (.inp 3) (.cons (.cst (.int .i64 1)) .nil))))] none))) Q env w := rfl
def h50_2 : HC := (.seq (.reg (.done [(2, (.inp 3))] none)) .ret)
@[simp] theorem h50_2_wp {P : Program} {F : PF P} {Q : EX → List Value → World → Prop} {env : List Value} {w : World} : h50_2.wp F Q env w = HC.wp F (.seq (.reg (.done [(2, (.inp 3))] none)) .ret) Q env w := rfl
def h50_3 : HC := (.br (.chk none .chkp (.cons (.inp 0) .nil) (.chk none (.fld 1) (.cons (.op .chkp (.cons (.inp 0) .nil)) .nil) (.eff (.ld false 1) (.cons (.op (.fld 1) (.cons (.op .chkp (.cons (.inp 0) .nil)) .nil)) .nil) (.chk none (.idxL 2) (.cons (.bv 0) (.cons (.inp 3) .nil)) (.chk none (.fld 0) (.cons (.op (.idxL 2) (.cons (.bv 0) (.cons (.inp 3) .nil))) .nil) (.eff (.ld false 1) (.cons (.op (.fld 0) (.cons (.op (.idxL 2) (.cons (.bv 0) (.cons (.inp 3) .nil))) .nil)) .nil) (.chk none (.bin .eql) (.cons (.bv 1) (.cons (.inp 1) .nil)) (.done [] (some (.op (.bin .eql) (.cons (.bv 1) (.cons (.inp 1) .nil)))))))))))) h50_2 .skip)
@[simp] theorem h50_3_wp {P : Program} {F : PF P} {Q : EX → List Value → World → Prop} {env : List Value} {w : World} : h50_3.wp F Q env w = HC.wp F (.br (.chk none .chkp (.cons (.inp 0) .nil) (.chk none (.fld 1) (.cons (.op .chkp (.cons (.inp 0) .nil)) .nil) (.eff (.ld false 1) (.cons (.op (.fld 1) (.cons (.op .chkp (.cons (.inp 0) .nil)) .nil)) .nil) (.chk none (.idxL 2) (.cons (.bv 0) (.cons (.inp 3) .nil)) (.chk none (.fld 0) (.cons (.op (.idxL 2) (.cons (.bv 0) (.cons (.inp 3) .nil))) .nil) (.eff (.ld false 1) (.cons (.op (.fld 0) (.cons (.op (.idxL 2) (.cons (.bv 0) (.cons (.inp 3) .nil))) .nil)) .nil) (.chk none (.bin .eql) (.cons (.bv 1) (.cons (.inp 1) .nil)) (.done [] (some (.op (.bin .eql) (.cons (.bv 1) (.cons (.inp 1) .nil)))))))))))) h50_2 .skip) Q env w := rfl
def h50_4 : HC := (.seq (.block 1 h50_3) h50_1)
@[simp] theorem h50_4_wp {P : Program} {F : PF P} {Q : EX → List Value → World → Prop} {env : List Value} {w : World} : h50_4.wp F Q env w = HC.wp F (.seq (.block 1 h50_3) h50_1) Q env w := rfl
def h50_5 : HC := (.seq (.br (.chk none .chkp (.cons (.inp 0) .nil) (.chk none (.fld 1) (.cons (.op .chkp (.cons (.inp 0) .nil)) .nil) (.eff (.ld false 1) (.cons (.op (.fld 1) (.cons (.op .chkp (.cons (.inp 0) .nil)) .nil)) .nil) (.chk none .lenL (.cons (.bv 0) .nil) (.chk none (.bin .lss) (.cons (.inp 3) (.cons (.op .lenL (.cons (.bv 0) .nil)) .nil)) (.done [] (some (.op (.bin .lss) (.cons (.inp 3) (.cons (.op .lenL (.cons (.bv 0) .nil)) .nil)))))))))) .skip (.exit 0)) h50_4)
@[simp] theorem h50_5_wp {P : Program} {F : PF P} {Q : EX → List Value → World → Prop} {env : List Value} {w : World} : h50_5.wp F Q env w = HC.wp F (.seq (.br (.chk none .chkp (.cons (.inp 0) .nil) (.chk none (.fld 1) (.cons (.op .chkp (.cons (.inp 0) .nil)) .nil) (.eff (.ld false 1) (.cons (.op (.fld 1) (.cons (.op .chkp (.cons (.inp 0) .nil)) .nil)) .nil) (.chk none .lenL (.cons (.bv 0) .nil) (.chk none (.bin .lss) (.cons (.inp 3) (.cons (.op .lenL (.cons (.bv 0) .nil)) .nil)) (.done [] (some (.op (.bin .lss) (.cons (.inp 3) (.cons (.op .lenL (.cons (.bv 0) .nil)) .nil)))))))))) .skip (.exit 0)) h50_4) Q env w := rfl
def h50_6 : HC := (.loop h50_5)
@[simp] theorem h50_6_wp {P : Program} {F : PF P} {Q : EX → List Value → World → Prop} {env : List Value} {w : World} : h50_6.wp F Q env w = HC.wp F (.loop h50_5) Q env w := rfl
def h50_7 : HC := (.seq (.block 0 h50_6) h50_0)
@[simp] theorem h50_7_wp {P : Program} {F : PF P} {Q : EX → List Value → World → Prop} {env : List Value} {w : World} : h50_7.wp F Q env w = HC.wp F (.seq (.block 0 h50_6) h50_0) Q env w := rfl
def h50_8 : HC := (.seq (.reg (.done [(3, (.cst (.int .i64 0)))] none)) h50_7)
@[simp] theorem h50_8_wp {P : Program} {F : PF P} {Q : EX → List Value → World → Prop} {env : List Value} {w : World} : h50_8.wp F Q env w = HC.wp F (.seq (.reg (.done [(3, (.cst (.int .i64 0)))] none)) h50_7) Q env w := rfl
def l50 : Lifted := ⟨[0, 1, 4, 5], 26, [.slot 2], (.seq (.reg (.done [(2, (.cst (.int .i64 0)))] none)) h50_8)⟩
theorem l50_ok : liftFn U2 50 400 = some l50 := by kernel_rfl

-- bazaar/bazaarref09.New
def h26_0 : HC := (.seq (.reg (.chk none (.build #[(.int .i64 0), (.slice none 0 0), (.int .i64 0)] [(0, 1), (1, 1), (2, 1)] [0]) (.cons (.inp 0) .nil) (.eff (.box 91) (.cons (.op (.build #[(.int .i64 0), (.slice none 0 0), (.int .i64 0)] [(0, 1), (1, 1), (2, 1)] [0]) (.cons (.inp 0) .nil)) .nil) (.done [(1, (.bv 0)), (2, (.cst (.int .i64 0)))] none)))) .ret)
@[simp] theorem h26_0_wp {P : Program} {F : PF P} {Q : EX → List Value → World → Prop} {env : List Value} {w : World} : h26_0.wp F Q env w = HC.wp F (.seq (.reg (.chk none (.build #[(.int .i64 0), (.slice none 0 0), (.int .i64 0)] [(0, 1), (1, 1), (2, 1)] [0]) (.cons (.inp 0) .nil) (.eff (.box 91) (.cons (.op (.build #[(.int .i64 0), (.slice none 0 0), (.int .i64 0)] [(0, 1), (1, 1), (2, 1)] [0]) (.cons (.inp 0) .nil)) .nil) (.done [(1, (.bv 0)), (2, (.cst (.int .i64 0)))] none)))) .ret) Q env w := rfl
def h26_1 : HC := (.seq (.reg (.done [(1, (.cst (.pointer none))), (2, (.cst (.int .i64 90)))] none)) .ret)
@[simp] theorem h26_1_wp {P : Program} {F : PF P} {Q : EX → List Value → World → Prop} {env : List Value} {w : World} : h26_1.wp F Q env w = HC.wp F (.seq (.reg (.done [(1, (.cst (.pointer none))), (2, (.cst (.int .i64 90)))] none)) .ret) Q env w := rfl
def h26_2 : HC := (.seq (.br (.chk none (.bin .lss) (.cons (.inp 0) (.cons (.cst (.int .i64 0)) .nil)) (.bnd (.op (.bin .lss) (.cons (.inp 0) (.cons (.cst (.int .i64 0)) .nil))) (.chk (some ((.bv 0), false)) (.bin .gtr) (.cons (.inp 0) (.cons (.cst (.int .i64 1099511627776)) .nil)) (.isb none (.bv 0) (.done [] (some (.ite (.bv 0) true (.cst (.bool true)) (.op (.bin .gtr) (.cons (.inp 0) (.cons (.cst (.int .i64 1099511627776)) .nil)))))))))) h26_1 .skip) h26_0)
@[simp] theorem h26_2_wp {P : Program} {F : PF P} {Q : EX → List Value → World → Prop} {env : List Value} {w : World} : h26_2.wp F Q env w = HC.wp F (.seq (.br (.chk none (.bin .lss) (.cons (.inp 0) (.cons (.cst (.int .i64 0)) .nil)) (.bnd (.op (.bin .lss) (.cons (.inp 0) (.cons (.cst (.int .i64 0)) .nil))) (.chk (some ((.bv 0), false)) (.bin .gtr) (.cons (.inp 0) (.cons (.cst (.int .i64 1099511627776)) .nil)) (.isb none (.bv 0) (.done [] (some (.ite (.bv 0) true (.cst (.bool true)) (.op (.bin .gtr) (.cons (.inp 0) (.cons (.cst (.int .i64 1099511627776)) .nil)))))))))) h26_1 .skip) h26_0) Q env w := rfl
def l26 : Lifted := ⟨[0, 2, 3], 13, [.slot 1, .slot 2], (.seq (.reg (.done [(1, (.cst (.pointer none))), (2, (.cst (.int .i64 0)))] none)) h26_2)⟩
theorem l26_ok : liftFn U2 26 400 = some l26 := by kernel_rfl


def lwF (a n : Nat) : Nat → Nat × Nat
  | 0 => (0, a % 64)
  | k + 1 => if digF a k ≠ digF n k then (k, digF a k) else lwF a n k
def pw (k : Nat) : Nat := 64 ^ k
theorem lwF_end {a n : Nat} (h : a / 16777216 = n / 16777216) : lwF a n 4 = lvF a n := by
  unfold lvF
  rw [if_neg (not_not_intro h)]
  simp only [lwF]
  split
  · rfl
  · split
    · rfl
    · split
      · rfl
      · split
        · rfl
        · simp [digF]
theorem Lies_spec (a n : Nat) (w0 w : World) (A : Asn) (ha : a ≤ 4611686018427387904) (hn : n ≤ 4611686018427387904) (s : St w0 A w) :
    CallW Try.prog 44 [.int .i64 a, .int .i64 n] (fun r w' => r = .tuple #[.int .i64 (lvF a n).1, .int .i64 (lvF a n).2] ∧ St w0 A w') w := by
  refine callW_of_lift l44_ok (by simp [l44]) ?_
  simp [l44]
  try simp (disch := omega) only [wrap64]
  refine cndI (fun h => ?_) (fun h => ?_)
  · have : lvF a n = (4, 0) := by
      unfold lvF
      rw [if_pos]
      intro e
      simp at h
      omega
    simp [this]
    exact s
  have hq : a / 16777216 = n / 16777216 := by
    simp at h
    omega
  simp
  have hm : (a : Int).tmod 64 = ((a % 64 : Nat) : Int) := rfl
  rw [hm]
  refine loopI (fun env w' => ∃ (k : Nat), env = [.int .i64 a, .int .i64 n, .int .i64 0, .int .i64 0, .int .i64 (lwF a n k).1, .int .i64 (lwF a n k).2, .int .i64 (pw k), .int .i64 k] ∧ k ≤ 4 ∧ St w0 A w')
    (fun env _ => 4 - slotN env 7) ⟨0, by simp [lwF, pw], by omega, s⟩ ?_
  clear s
  rintro LQ env w' ⟨k, rfl, hk, s⟩ hN hE hR
  simp
  refine cndI (fun h => ?_) (fun h => ?_)
  · have hk4 : k < 4 := by
      simp at h
      omega
    have hb1 : digF a k < 64 := Nat.mod_lt _ (by decide)
    have hb2 : digF n k < 64 := Nat.mod_lt _ (by decide)
    obtain ⟨c, hc⟩ : ∃ c : Nat, pw k = c := ⟨_, rfl⟩
    have hcb : 1 ≤ c ∧ c ≤ 262144 := by
      have hkk : k = 0 ∨ k = 1 ∨ k = 2 ∨ k = 3 := by omega
      rcases hkk with rfl | rfl | rfl | rfl <;> simp [pw] at hc <;> omega
    have hda : digF a k = a / c % 64 := by rw [← hc]; rfl
    have hdn : digF n k = n / c % 64 := by rw [← hc]; rfl
    have hc0 : ¬ (c : Int) = 0 := by omega
    have hc1 : ¬ c = 0 := by omega
    obtain ⟨ac, hac⟩ : ∃ x, a / c = x := ⟨_, rfl⟩
    obtain ⟨nc, hnc⟩ : ∃ x, n / c = x := ⟨_, rfl⟩
    have hd1 : ac ≤ a := hac ▸ Nat.div_le_self _ _
    have hd2 : nc ≤ n := hnc ▸ Nat.div_le_self _ _
    have hd3 : (a : Int) / (c : Int) = (ac : Int) := by rw [← hac]; rfl
    have hd4 : (n : Int) / (c : Int) = (nc : Int) := by rw [← hnc]; rfl
    have hd5 : (ac : Int).tmod 64 = ((digF a k : Nat) : Int) := by rw [hda, hac]; rfl
    have hd6 : (nc : Int).tmod 64 = ((digF n k : Nat) : Int) := by rw [hdn, hnc]; rfl
    rw [hc]
    simp
    refine brqI s ?_
    simp [hc0, hc1]
    simp only [hd3, hd4]
    try simp (disch := omega) only [wrap64]
    simp only [hd5, hd6]
    intro w2 s2
    refine cndI (fun h2 => ?_) (fun h2 => ?_)
    · have hne : digF a k ≠ digF n k := by
        simp at h2
        omega
      simp [hc0, hc1]
      simp only [hd3]
      try simp (disch := omega) only [wrap64]
      simp only [hd5]
      refine hN _ _ ⟨k + 1, ?_, by omega, s2⟩ (by simp [slotN]; omega)
      have hp : pw (k + 1) = c * 64 := by rw [← hc]; exact Nat.pow_succ ..
      simp [lwF, hne, hp]
    · have hne : digF a k = digF n k := by
        simp at h2
        omega
      simp
      try simp (disch := omega) only [wrap64]
      refine hN _ _ ⟨k + 1, ?_, by omega, s2⟩ (by simp [slotN]; omega)
      have hp : pw (k + 1) = c * 64 := by rw [← hc]; exact Nat.pow_succ ..
      simp [lwF, hne, hp]
  · have hk4 : k = 4 := by
      simp at h
      omega
    subst hk4
    simp
    refine hE _ _ _ ?_
    simp
    rw [lwF_end hq]
    exact ⟨⟨rfl, rfl⟩, s⟩
/-- the document's wheel in memory -/
abbrev rwc (q now mv : Nat) (v : Value) : Asn := pt q (.cells #[.int .i64 now, v, .int .i64 mv] 91 (0, 0))
abbrev routs (v : Value) (L : List (Int × Int)) : Asn := own 100 2 v L.length (L.flatMap encT)
def rwh (q now mv : Nat) (L : List (Int × Int)) : Asn := exA fun v => rwc q now mv v * routs v L
theorem ropen {w0 w : World} {A : Asn} {q now mv : Nat} {L : List (Int × Int)} (s : St w0 (A * rwh q now mv L) w) : ∃ v, St w0 (A * rwc q now mv v * routs v L) w := by
  obtain ⟨v, s⟩ := exA_open s
  exact ⟨v, s.to (sep_assoc _ _ _).symm⟩
theorem rclose {w0 w : World} {A : Asn} {q now mv : Nat} {L : List (Int × Int)} {v : Value} (s : St w0 (A * rwc q now mv v * routs v L) w) : St w0 (A * rwh q now mv L) w :=
  exA_mk (F := fun v => rwc q now mv v * routs v L) v (s.to (sep_assoc _ _ _))
theorem rNew_spec (now : Int) (w0 w : World) (A : Asn) {K : Value → World → Prop} (s : St w0 A w)
    (hk : ∀ r w', (if 0 ≤ now ∧ now ≤ 1099511627776 then ∃ q, r = .tuple #[.pointer (some ⟨q, 0, none⟩), .int .i64 0] ∧ St w0 (A * rwh q now.toNat 0 []) w' else r = .tuple #[.pointer none, .int .i64 90] ∧ St w0 A w') → K r w') :
    CallW Try.prog 26 [.int .i64 now] K w := by
  refine callW_of_lift l26_ok (by simp [l26]) ?_
  simp [l26]
  refine cndI (fun h => ?_) (fun h => ?_)
  · simp
    refine hk _ _ ?_
    rw [if_neg (by simp at h; omega)]
    exact ⟨rfl, s⟩
  · simp [Instr.fill, Value.cells]
    refine eff_box s ?_
    intro b w1 s1
    simp
    refine hk _ _ ?_
    have hb : 0 ≤ now ∧ now ≤ 1099511627776 := by simp at h; omega
    rw [if_pos hb]
    refine ⟨b, rfl, ?_⟩
    refine rclose (v := .slice none 0 0) (St.own_nil ?_ _ _)
    have e : ((now.toNat : Nat) : Int) = now := by omega
    show St w0 (A * pt b (.cells #[.int .i64 ((now.toNat : Nat) : Int), .slice none 0 0, .int .i64 ((0 : Nat) : Int)] _ _)) w1
    rw [e]
    exact s1
theorem find_spec' (q now mv : Nat) (L : List (Int × Int)) (n : Int) (w0 w : World) (A : Asn) (hl : L.length ≤ 1048576) (s : St w0 (A * rwh q now mv L) w) :
    CallW Try.prog 50 [.pointer (some ⟨q, 0, none⟩), .int .i64 n] (fun r w' => (∃ i : Int, r = .int .i64 i ∧ (0 ≤ i ↔ ∃ x ∈ L, x.1 = n)) ∧ St w0 (A * rwh q now mv L) w') w := by
  obtain ⟨v, s1⟩ := ropen s
  have hrow := row_own s1
  obtain ⟨a, c, rfl⟩ := hrow.val
  refine callW_of_lift l50_ok (by simp [l50]) ?_
  simp [l50]
  refine loopI (fun env w' => ∃ (i : Nat), env = [.pointer (some ⟨q, 0, none⟩), .int .i64 n, .int .i64 0, .int .i64 i] ∧ i ≤ L.length ∧ (∀ x ∈ L.take i, x.1 ≠ n) ∧ St w0 (A * rwc q now mv (.slice a L.length c) * routs (.slice a L.length c) L) w')
    (fun env _ => L.length - slotN env 3) ⟨0, rfl, by omega, by simp, s1⟩ ?_
  clear s s1
  rintro LQ env w' ⟨i, rfl, hi, hno, s⟩ hN hE hR
  simp
  refine eff_ldc (v := .slice a L.length c) (s.drop.row_cells 1 _ rfl) ?_
  simp
  refine cndI (fun h => ?_) (fun h => ?_)
  · have h0 := h
    simp at h0
    have hi' : i < L.length := by omega
    obtain ⟨g, o, cap, hv, hc⟩ := hrow.at (by omega)
    cases hv
    simp
    refine eff_ldc (v := .slice (some ⟨g, o, none⟩) L.length c) (s.drop.row_cells 1 _ rfl) ?_
    simp [h0]
    refine eff_ldc (v := .int .i64 L[i].1) (by
      have := hc _ s _ _ (flatT_at hi' 0 _ rfl)
      simpa using this) ?_
    simp
    refine cndI (fun h2 => ?_) (fun h2 => ?_)
    · simp at h2
      simp
      refine hR _ _ ?_
      simp
      exact ⟨⟨L[i].2, by rw [← h2]; exact List.getElem_mem hi'⟩, rclose s⟩
    · simp at h2
      simp
      try simp (disch := omega) only [wrap64]
      refine hN _ _ ⟨i + 1, by simp, by omega, fun x hx => ?_, s⟩ (by simp [slotN]; omega)
      rw [List.take_succ_eq_append_getElem hi'] at hx
      rcases List.mem_append.1 hx with hx | hx
      · exact hno x hx
      · rw [List.mem_singleton.1 hx]; exact h2
  · simp at h
    simp
    refine hE _ _ _ ?_
    simp
    rw [List.take_of_length_le (by omega)] at hno
    exact ⟨fun x hx => absurd rfl (hno _ hx), rclose s⟩
end Go.HL.Wh

namespace Go.HL.Wh
open Go.HL Go.Proofs
set_option maxRecDepth 4000
set_option linter.unusedSimpArgs false
set_option linter.unusedVariables false
-- (*bazaar/bazaarref09.Wheel).Schedule
def h36_0 : HC := (.seq (.reg (.done [(3, (.cst (.int .i64 0)))] none)) .ret)
@[simp] theorem h36_0_wp {P : Program} {F : PF P} {Q : EX → List Value → World → Prop} {env : List Value} {w : World} : h36_0.wp F Q env w = HC.wp F (.seq (.reg (.done [(3, (.cst (.int .i64 0)))] none)) .ret) Q env w := rfl
def h36_1 : HC := (.seq (.reg (.chk none .chkp (.cons (.inp 0) .nil) (.chk none (.fld 1) (.cons (.op .chkp (.cons (.inp 0) .nil)) .nil) (.eff (.st 1) (.cons (.op (.fld 1) (.cons (.op .chkp (.cons (.inp 0) .nil)) .nil)) (.cons (.inp 5) .nil)) (.done [] none))))) h36_0)
@[simp] theorem h36_1_wp {P : Program} {F : PF P} {Q : EX → List Value → World → Prop} {env : List Value} {w : World} : h36_1.wp F Q env w = HC.wp F (.seq (.reg (.chk none .chkp (.cons (.inp 0) .nil) (.chk none (.fld 1) (.cons (.op .chkp (.cons (.inp 0) .nil)) .nil) (.eff (.st 1) (.cons (.op (.fld 1) (.cons (.op .chkp (.cons (.inp 0) .nil)) .nil)) (.cons (.inp 5) .nil)) (.done [] none))))) h36_0) Q env w := rfl
def h36_2 : HC := (.reg (.chk none (.bin .add) (.cons (.inp 6) (.cons (.cst (.int .i64 1)) .nil)) (.done [(6, (.op (.bin .add) (.cons (.inp 6) (.cons (.cst (.int .i64 1)) .nil))))] none)))
@[simp] theorem h36_2_wp {P : Program} {F : PF P} {Q : EX → List Value → World → Prop} {env : List Value} {w : World} : h36_2.wp F Q env w = HC.wp F (.reg (.chk none (.bin .add) (.cons (.inp 6) (.cons (.cst (.int .i64 1)) .nil)) (.done [(6, (.op (.bin .add) (.cons (.inp 6) (.cons (.cst (.int .i64 1)) .nil))))] none))) Q env w := rfl
def h36_3 : HC := (.reg (.chk none .chkp (.cons (.inp 0) .nil) (.chk none (.fld 1) (.cons (.op .chkp (.cons (.inp 0) .nil)) .nil) (.eff (.ld false 1) (.cons (.op (.fld 1) (.cons (.op .chkp (.cons (.inp 0) .nil)) .nil)) .nil) (.chk none (.idxL 2) (.cons (.bv 0) (.cons (.inp 6) .nil)) (.eff (.ld true 2) (.cons (.op (.idxL 2) (.cons (.bv 0) (.cons (.inp 6) .nil))) .nil) (.eff (.bsl 100 1 2 #[(.int .i64 0), (.int .i64 0)] [0]) (.cons (.bv 1) .nil) (.eff (.app 89 89 100 2 16 (.agg #[(.int .i64 0), (.int .i64 0)])) (.cons (.inp 5) (.cons (.bv 2) .nil)) (.done [(5, (.bv 3))] none)))))))))
@[simp] theorem h36_3_wp {P : Program} {F : PF P} {Q : EX → List Value → World → Prop} {env : List Value} {w : World} : h36_3.wp F Q env w = HC.wp F (.reg (.chk none .chkp (.cons (.inp 0) .nil) (.chk none (.fld 1) (.cons (.op .chkp (.cons (.inp 0) .nil)) .nil) (.eff (.ld false 1) (.cons (.op (.fld 1) (.cons (.op .chkp (.cons (.inp 0) .nil)) .nil)) .nil) (.chk none (.idxL 2) (.cons (.bv 0) (.cons (.inp 6) .nil)) (.eff (.ld true 2) (.cons (.op (.idxL 2) (.cons (.bv 0) (.cons (.inp 6) .nil))) .nil) (.eff (.bsl 100 1 2 #[(.int .i64 0), (.int .i64 0)] [0]) (.cons (.bv 1) .nil) (.eff (.app 89 89 100 2 16 (.agg #[(.int .i64 0), (.int .i64 0)])) (.cons (.inp 5) (.cons (.bv 2) .nil)) (.done [(5, (.bv 3))] none))))))))) Q env w := rfl
def h36_4 : HC := (.seq (.block 3 h36_3) h36_2)
@[simp] theorem h36_4_wp {P : Program} {F : PF P} {Q : EX → List Value → World → Prop} {env : List Value} {w : World} : h36_4.wp F Q env w = HC.wp F (.seq (.block 3 h36_3) h36_2) Q env w := rfl
def h36_5 : HC := (.seq (.br (.chk none .chkp (.cons (.inp 0) .nil) (.chk none (.fld 1) (.cons (.op .chkp (.cons (.inp 0) .nil)) .nil) (.eff (.ld false 1) (.cons (.op (.fld 1) (.cons (.op .chkp (.cons (.inp 0) .nil)) .nil)) .nil) (.chk none .lenL (.cons (.bv 0) .nil) (.chk none (.bin .lss) (.cons (.inp 6) (.cons (.op .lenL (.cons (.bv 0) .nil)) .nil)) (.done [] (some (.op (.bin .lss) (.cons (.inp 6) (.cons (.op .lenL (.cons (.bv 0) .nil)) .nil)))))))))) .skip (.exit 2)) h36_4)
@[simp] theorem h36_5_wp {P : Program} {F : PF P} {Q : EX → List Value → World → Prop} {env : List Value} {w : World} : h36_5.wp F Q env w = HC.wp F (.seq (.br (.chk none .chkp (.cons (.inp 0) .nil) (.chk none (.fld 1) (.cons (.op .chkp (.cons (.inp 0) .nil)) .nil) (.eff (.ld false 1) (.cons (.op (.fld 1) (.cons (.op .chkp (.cons (.inp 0) .nil)) .nil)) .nil) (.chk none .lenL (.cons (.bv 0) .nil) (.chk none (.bin .lss) (.cons (.inp 6) (.cons (.op .lenL (.cons (.bv 0) .nil)) .nil)) (.done [] (some (.op (.bin .lss) (.cons (.inp 6) (.cons (.op .lenL (.cons (.bv 0) .nil)) .nil)))))))))) .skip (.exit 2)) h36_4) Q env w := rfl
def h36_6 : HC := (.loop h36_5)
@[simp] theorem h36_6_wp {P : Program} {F : PF P} {Q : EX → List Value → World → Prop} {env : List Value} {w : World} : h36_6.wp F Q env w = HC.wp F (.loop h36_5) Q env w := rfl
def h36_7 : HC := (.seq (.block 2 h36_6) h36_1)
@[simp] theorem h36_7_wp {P : Program} {F : PF P} {Q : EX → List Value → World → Prop} {env : List Value} {w : World} : h36_7.wp F Q env w = HC.wp F (.seq (.block 2 h36_6) h36_1) Q env w := rfl
def h36_8 : HC := (.seq (.reg (.eff (.ld true 2) (.cons (.inp 4) .nil) (.eff (.bsl 100 1 2 #[(.int .i64 0), (.int .i64 0)] [0]) (.cons (.bv 0) .nil) (.eff (.app 89 89 100 2 16 (.agg #[(.int .i64 0), (.int .i64 0)])) (.cons (.inp 5) (.cons (.bv 1) .nil)) (.done [(5, (.bv 2))] none))))) h36_7)
@[simp] theorem h36_8_wp {P : Program} {F : PF P} {Q : EX → List Value → World → Prop} {env : List Value} {w : World} : h36_8.wp F Q env w = HC.wp F (.seq (.reg (.eff (.ld true 2) (.cons (.inp 4) .nil) (.eff (.bsl 100 1 2 #[(.int .i64 0), (.int .i64 0)] [0]) (.cons (.bv 0) .nil) (.eff (.app 89 89 100 2 16 (.agg #[(.int .i64 0), (.int .i64 0)])) (.cons (.inp 5) (.cons (.bv 1) .nil)) (.done [(5, (.bv 2))] none))))) h36_7) Q env w := rfl
def h36_9 : HC := (.reg (.chk none (.bin .add) (.cons (.inp 6) (.cons (.cst (.int .i64 1)) .nil)) (.done [(6, (.op (.bin .add) (.cons (.inp 6) (.cons (.cst (.int .i64 1)) .nil))))] none)))
@[simp] theorem h36_9_wp {P : Program} {F : PF P} {Q : EX → List Value → World → Prop} {env : List Value} {w : World} : h36_9.wp F Q env w = HC.wp F (.reg (.chk none (.bin .add) (.cons (.inp 6) (.cons (.cst (.int .i64 1)) .nil)) (.done [(6, (.op (.bin .add) (.cons (.inp 6) (.cons (.cst (.int .i64 1)) .nil))))] none))) Q env w := rfl
def h36_10 : HC := (.seq (.reg (.chk none .chkp (.cons (.inp 0) .nil) (.chk none (.fld 1) (.cons (.op .chkp (.cons (.inp 0) .nil)) .nil) (.eff (.ld false 1) (.cons (.op (.fld 1) (.cons (.op .chkp (.cons (.inp 0) .nil)) .nil)) .nil) (.chk none (.idxL 2) (.cons (.bv 0) (.cons (.inp 6) .nil)) (.eff (.ld true 2) (.cons (.op (.idxL 2) (.cons (.bv 0) (.cons (.inp 6) .nil))) .nil) (.eff (.bsl 100 1 2 #[(.int .i64 0), (.int .i64 0)] [0]) (.cons (.bv 1) .nil) (.eff (.app 89 89 100 2 16 (.agg #[(.int .i64 0), (.int .i64 0)])) (.cons (.inp 5) (.cons (.bv 2) .nil)) (.done [(5, (.bv 3))] none))))))))) h36_9)
@[simp] theorem h36_10_wp {P : Program} {F : PF P} {Q : EX → List Value → World → Prop} {env : List Value} {w : World} : h36_10.wp F Q env w = HC.wp F (.seq (.reg (.chk none .chkp (.cons (.inp 0) .nil) (.chk none (.fld 1) (.cons (.op .chkp (.cons (.inp 0) .nil)) .nil) (.eff (.ld false 1) (.cons (.op (.fld 1) (.cons (.op .chkp (.cons (.inp 0) .nil)) .nil)) .nil) (.chk none (.idxL 2) (.cons (.bv 0) (.cons (.inp 6) .nil)) (.eff (.ld true 2) (.cons (.op (.idxL 2) (.cons (.bv 0) (.cons (.inp 6) .nil))) .nil) (.eff (.bsl 100 1 2 #[(.int .i64 0), (.int .i64 0)] [0]) (.cons (.bv 1) .nil) (.eff (.app 89 89 100 2 16 (.agg #[(.int .i64 0), (.int .i64 0)])) (.cons (.inp 5) (.cons (.bv 2) .nil)) (.done [(5, (.bv 3))] none))))))))) h36_9) Q env w := rfl
def h36_11 : HC := (.block 1 h36_10)
@[simp] theorem h36_11_wp {P : Program} {F : PF P} {Q : EX → List Value → World → Prop} {env : List Value} {w : World} : h36_11.wp F Q env w = HC.wp F (.block 1 h36_10) Q env w := rfl
def h36_12 : HC := (.seq (.brq (some 1) (.chk none .chkp (.cons (.inp 0) .nil) (.chk none (.fld 1) (.cons (.op .chkp (.cons (.inp 0) .nil)) .nil) (.eff (.ld false 1) (.cons (.op (.fld 1) (.cons (.op .chkp (.cons (.inp 0) .nil)) .nil)) .nil) (.chk none .lenL (.cons (.bv 0) .nil) (.chk none (.bin .lss) (.cons (.inp 6) (.cons (.op .lenL (.cons (.bv 0) .nil)) .nil)) (.bnd (.op (.bin .lss) (.cons (.inp 6) (.cons (.op .lenL (.cons (.bv 0) .nil)) .nil))) (.chk (some ((.bv 1), true)) .chkp (.cons (.inp 0) .nil) (.chk (some ((.bv 1), true)) (.fld 1) (.cons (.op .chkp (.cons (.inp 0) .nil)) .nil) (.ite (.bv 1) true (.eff (.ld false 1) (.cons (.ite (.bv 1) true (.op (.fld 1) (.cons (.op .chkp (.cons (.inp 0) .nil)) .nil)) (.cst (.tuple #[]))) .nil) (.chk none (.idxL 2) (.cons (.bv 2) (.cons (.inp 6) .nil)) (.eff (.ld true 2) (.cons (.op (.idxL 2) (.cons (.bv 2) (.cons (.inp 6) .nil))) .nil) (.eff (.ld true 2) (.cons (.inp 4) .nil) (.eff (.call 51) (.cons (.bv 3) (.cons (.bv 4) .nil)) (.isb none (.bv 1) (.done [] (some (.bv 5))))))))) (.isb none (.bv 1) (.done [] (some (.cst (.bool false)))))))))))))) .skip (.exit 0)) h36_11)
@[simp] theorem h36_12_wp {P : Program} {F : PF P} {Q : EX → List Value → World → Prop} {env : List Value} {w : World} : h36_12.wp F Q env w = HC.wp F (.seq (.brq (some 1) (.chk none .chkp (.cons (.inp 0) .nil) (.chk none (.fld 1) (.cons (.op .chkp (.cons (.inp 0) .nil)) .nil) (.eff (.ld false 1) (.cons (.op (.fld 1) (.cons (.op .chkp (.cons (.inp 0) .nil)) .nil)) .nil) (.chk none .lenL (.cons (.bv 0) .nil) (.chk none (.bin .lss) (.cons (.inp 6) (.cons (.op .lenL (.cons (.bv 0) .nil)) .nil)) (.bnd (.op (.bin .lss) (.cons (.inp 6) (.cons (.op .lenL (.cons (.bv 0) .nil)) .nil))) (.chk (some ((.bv 1), true)) .chkp (.cons (.inp 0) .nil) (.chk (some ((.bv 1), true)) (.fld 1) (.cons (.op .chkp (.cons (.inp 0) .nil)) .nil) (.ite (.bv 1) true (.eff (.ld false 1) (.cons (.ite (.bv 1) true (.op (.fld 1) (.cons (.op .chkp (.cons (.inp 0) .nil)) .nil)) (.cst (.tuple #[]))) .nil) (.chk none (.idxL 2) (.cons (.bv 2) (.cons (.inp 6) .nil)) (.eff (.ld true 2) (.cons (.op (.idxL 2) (.cons (.bv 2) (.cons (.inp 6) .nil))) .nil) (.eff (.ld true 2) (.cons (.inp 4) .nil) (.eff (.call 51) (.cons (.bv 3) (.cons (.bv 4) .nil)) (.isb none (.bv 1) (.done [] (some (.bv 5))))))))) (.isb none (.bv 1) (.done [] (some (.cst (.bool false)))))))))))))) .skip (.exit 0)) h36_11) Q env w := rfl
def h36_13 : HC := (.loop h36_12)
@[simp] theorem h36_13_wp {P : Program} {F : PF P} {Q : EX → List Value → World → Prop} {env : List Value} {w : World} : h36_13.wp F Q env w = HC.wp F (.loop h36_12) Q env w := rfl
def h36_14 : HC := (.seq (.block 0 h36_13) h36_8)
@[simp] theorem h36_14_wp {P : Program} {F : PF P} {Q : EX → List Value → World → Prop} {env : List Value} {w : World} : h36_14.wp F Q env w = HC.wp F (.seq (.block 0 h36_13) h36_8) Q env w := rfl
def h36_15 : HC := (.seq (.reg (.done [(6, (.cst (.int .i64 0)))] none)) h36_14)
@[simp] theorem h36_15_wp {P : Program} {F : PF P} {Q : EX → List Value → World → Prop} {env : List Value} {w : World} : h36_15.wp F Q env w = HC.wp F (.seq (.reg (.done [(6, (.cst (.int .i64 0)))] none)) h36_14) Q env w := rfl
def h36_16 : HC := (.seq (.reg (.done [(5, (.cst (.slice none 0 0)))] none)) h36_15)
@[simp] theorem h36_16_wp {P : Program} {F : PF P} {Q : EX → List Value → World → Prop} {env : List Value} {w : World} : h36_16.wp F Q env w = HC.wp F (.seq (.reg (.done [(5, (.cst (.slice none 0 0)))] none)) h36_15) Q env w := rfl
def h36_17 : HC := (.seq (.reg (.chk none (.build #[(.int .i64 0), (.int .i64 0)] [(0, 1), (1, 1)] [0, 1]) (.cons (.inp 1) (.cons (.inp 2) .nil)) (.eff (.new 100 (.agg #[(.int .i64 0), (.int .i64 0)])) .nil (.eff (.st 2) (.cons (.bv 0) (.cons (.op (.build #[(.int .i64 0), (.int .i64 0)] [(0, 1), (1, 1)] [0, 1]) (.cons (.inp 1) (.cons (.inp 2) .nil))) .nil)) (.done [(4, (.bv 0))] none))))) h36_16)
@[simp] theorem h36_17_wp {P : Program} {F : PF P} {Q : EX → List Value → World → Prop} {env : List Value} {w : World} : h36_17.wp F Q env w = HC.wp F (.seq (.reg (.chk none (.build #[(.int .i64 0), (.int .i64 0)] [(0, 1), (1, 1)] [0, 1]) (.cons (.inp 1) (.cons (.inp 2) .nil)) (.eff (.new 100 (.agg #[(.int .i64 0), (.int .i64 0)])) .nil (.eff (.st 2) (.cons (.bv 0) (.cons (.op (.build #[(.int .i64 0), (.int .i64 0)] [(0, 1), (1, 1)] [0, 1]) (.cons (.inp 1) (.cons (.inp 2) .nil))) .nil)) (.done [(4, (.bv 0))] none))))) h36_16) Q env w := rfl
def h36_18 : HC := (.seq (.reg (.done [(3, (.cst (.int .i64 91)))] none)) .ret)
@[simp] theorem h36_18_wp {P : Program} {F : PF P} {Q : EX → List Value → World → Prop} {env : List Value} {w : World} : h36_18.wp F Q env w = HC.wp F (.seq (.reg (.done [(3, (.cst (.int .i64 91)))] none)) .ret) Q env w := rfl
def h36_19 : HC := (.seq (.br (.chk none .chkp (.cons (.inp 0) .nil) (.chk none (.fld 1) (.cons (.op .chkp (.cons (.inp 0) .nil)) .nil) (.eff (.ld false 1) (.cons (.op (.fld 1) (.cons (.op .chkp (.cons (.inp 0) .nil)) .nil)) .nil) (.chk none .lenL (.cons (.bv 0) .nil) (.chk none (.bin .geq) (.cons (.op .lenL (.cons (.bv 0) .nil)) (.cons (.cst (.int .i64 65536)) .nil)) (.done [] (some (.op (.bin .geq) (.cons (.op .lenL (.cons (.bv 0) .nil)) (.cons (.cst (.int .i64 65536)) .nil)))))))))) h36_18 .skip) h36_17)
@[simp] theorem h36_19_wp {P : Program} {F : PF P} {Q : EX → List Value → World → Prop} {env : List Value} {w : World} : h36_19.wp F Q env w = HC.wp F (.seq (.br (.chk none .chkp (.cons (.inp 0) .nil) (.chk none (.fld 1) (.cons (.op .chkp (.cons (.inp 0) .nil)) .nil) (.eff (.ld false 1) (.cons (.op (.fld 1) (.cons (.op .chkp (.cons (.inp 0) .nil)) .nil)) .nil) (.chk none .lenL (.cons (.bv 0) .nil) (.chk none (.bin .geq) (.cons (.op .lenL (.cons (.bv 0) .nil)) (.cons (.cst (.int .i64 65536)) .nil)) (.done [] (some (.op (.bin .geq) (.cons (.op .lenL (.cons (.bv 0) .nil)) (.cons (.cst (.int .i64 65536)) .nil)))))))))) h36_18 .skip) h36_17) Q env w := rfl
def h36_20 : HC := (.seq (.reg (.done [(3, (.cst (.int .i64 92)))] none)) .ret)
@[simp] theorem h36_20_wp {P : Program} {F : PF P} {Q : EX → List Value → World → Prop} {env : List Value} {w : World} : h36_20.wp F Q env w = HC.wp F (.seq (.reg (.done [(3, (.cst (.int .i64 92)))] none)) .ret) Q env w := rfl
def h36_21 : HC := (.seq (.br (.eff (.call 50) (.cons (.inp 0) (.cons (.inp 1) .nil)) (.chk none (.bin .geq) (.cons (.bv 0) (.cons (.cst (.int .i64 0)) .nil)) (.done [] (some (.op (.bin .geq) (.cons (.bv 0) (.cons (.cst (.int .i64 0)) .nil))))))) h36_20 .skip) h36_19)
@[simp] theorem h36_21_wp {P : Program} {F : PF P} {Q : EX → List Value → World → Prop} {env : List Value} {w : World} : h36_21.wp F Q env w = HC.wp F (.seq (.br (.eff (.call 50) (.cons (.inp 0) (.cons (.inp 1) .nil)) (.chk none (.bin .geq) (.cons (.bv 0) (.cons (.cst (.int .i64 0)) .nil)) (.done [] (some (.op (.bin .geq) (.cons (.bv 0) (.cons (.cst (.int .i64 0)) .nil))))))) h36_20 .skip) h36_19) Q env w := rfl
def h36_22 : HC := (.seq (.reg (.done [(3, (.cst (.int .i64 90)))] none)) .ret)
@[simp] theorem h36_22_wp {P : Program} {F : PF P} {Q : EX → List Value → World → Prop} {env : List Value} {w : World} : h36_22.wp F Q env w = HC.wp F (.seq (.reg (.done [(3, (.cst (.int .i64 90)))] none)) .ret) Q env w := rfl
def h36_23 : HC := (.seq (.br (.chk none .chkp (.cons (.inp 0) .nil) (.chk none (.fld 0) (.cons (.op .chkp (.cons (.inp 0) .nil)) .nil) (.eff (.ld false 1) (.cons (.op (.fld 0) (.cons (.op .chkp (.cons (.inp 0) .nil)) .nil)) .nil) (.chk none (.bin .leq) (.cons (.inp 2) (.cons (.bv 0) .nil)) (.bnd (.op (.bin .leq) (.cons (.inp 2) (.cons (.bv 0) .nil))) (.chk (some ((.bv 1), false)) (.bin .gtr) (.cons (.inp 2) (.cons (.cst (.int .i64 1099511627776)) .nil)) (.isb none (.bv 1) (.done [] (some (.ite (.bv 1) true (.cst (.bool true)) (.op (.bin .gtr) (.cons (.inp 2) (.cons (.cst (.int .i64 1099511627776)) .nil))))))))))))) h36_22 .skip) h36_21)
@[simp] theorem h36_23_wp {P : Program} {F : PF P} {Q : EX → List Value → World → Prop} {env : List Value} {w : World} : h36_23.wp F Q env w = HC.wp F (.seq (.br (.chk none .chkp (.cons (.inp 0) .nil) (.chk none (.fld 0) (.cons (.op .chkp (.cons (.inp 0) .nil)) .nil) (.eff (.ld false 1) (.cons (.op (.fld 0) (.cons (.op .chkp (.cons (.inp 0) .nil)) .nil)) .nil) (.chk none (.bin .leq) (.cons (.inp 2) (.cons (.bv 0) .nil)) (.bnd (.op (.bin .leq) (.cons (.inp 2) (.cons (.bv 0) .nil))) (.chk (some ((.bv 1), false)) (.bin .gtr) (.cons (.inp 2) (.cons (.cst (.int .i64 1099511627776)) .nil)) (.isb none (.bv 1) (.done [] (some (.ite (.bv 1) true (.cst (.bool true)) (.op (.bin .gtr) (.cons (.inp 2) (.cons (.cst (.int .i64 1099511627776)) .nil))))))))))))) h36_22 .skip) h36_21) Q env w := rfl
def h36_24 : HC := (.seq (.reg (.done [(3, (.cst (.int .i64 2)))] none)) .ret)
@[simp] theorem h36_24_wp {P : Program} {F : PF P} {Q : EX → List Value → World → Prop} {env : List Value} {w : World} : h36_24.wp F Q env w = HC.wp F (.seq (.reg (.done [(3, (.cst (.int .i64 2)))] none)) .ret) Q env w := rfl
def h36_25 : HC := (.seq (.br (.chk none (.bin .lss) (.cons (.inp 1) (.cons (.cst (.int .i64 1)) .nil)) (.done [] (some (.op (.bin .lss) (.cons (.inp 1) (.cons (.cst (.int .i64 1)) .nil)))))) h36_24 .skip) h36_23)
@[simp] theorem h36_25_wp {P : Program} {F : PF P} {Q : EX → List Value → World → Prop} {env : List Value} {w : World} : h36_25.wp F Q env w = HC.wp F (.seq (.br (.chk none (.bin .lss) (.cons (.inp 1) (.cons (.cst (.int .i64 1)) .nil)) (.done [] (some (.op (.bin .lss) (.cons (.inp 1) (.cons (.cst (.int .i64 1)) .nil)))))) h36_24 .skip) h36_23) Q env w := rfl
def h36_26 : HC := (.seq (.reg (.done [(3, (.cst (.int .i64 1)))] none)) .ret)
@[simp] theorem h36_26_wp {P : Program} {F : PF P} {Q : EX → List Value → World → Prop} {env : List Value} {w : World} : h36_26.wp F Q env w = HC.wp F (.seq (.reg (.done [(3, (.cst (.int .i64 1)))] none)) .ret) Q env w := rfl
def h36_27 : HC := (.seq (.br (.chk none (.eqNil false (.pointer 91) (.pointer none)) (.cons (.inp 0) .nil) (.done [] (some (.op (.eqNil false (.pointer 91) (.pointer none)) (.cons (.inp 0) .nil))))) h36_26 .skip) h36_25)
@[simp] theorem h36_27_wp {P : Program} {F : PF P} {Q : EX → List Value → World → Prop} {env : List Value} {w : World} : h36_27.wp F Q env w = HC.wp F (.seq (.br (.chk none (.eqNil false (.pointer 91) (.pointer none)) (.cons (.inp 0) .nil) (.done [] (some (.op (.eqNil false (.pointer 91) (.pointer none)) (.cons (.inp 0) .nil))))) h36_26 .skip) h36_25) Q env w := rfl
def l36 : Lifted := ⟨[0, 1, 2, 6, 7, 8, 9], 94, [.slot 3], (.seq (.reg (.done [(3, (.cst (.int .i64 0)))] none)) h36_27)⟩
theorem l36_ok : liftFn U2 36 400 = some l36 := by kernel_rfl

-- (*bazaar/bazaarref09.Wheel).Cancel
def h37_0 : HC := (.seq (.reg (.done [(2, (.cst (.int .i64 0)))] none)) .ret)
@[simp] theorem h37_0_wp {P : Program} {F : PF P} {Q : EX → List Value → World → Prop} {env : List Value} {w : World} : h37_0.wp F Q env w = HC.wp F (.seq (.reg (.done [(2, (.cst (.int .i64 0)))] none)) .ret) Q env w := rfl
def h37_1 : HC := (.seq (.reg (.chk none .chkp (.cons (.inp 0) .nil) (.chk none (.fld 1) (.cons (.op .chkp (.cons (.inp 0) .nil)) .nil) (.eff (.st 1) (.cons (.op (.fld 1) (.cons (.op .chkp (.cons (.inp 0) .nil)) .nil)) (.cons (.inp 3) .nil)) (.done [] none))))) h37_0)
@[simp] theorem h37_1_wp {P : Program} {F : PF P} {Q : EX → List Value → World → Prop} {env : List Value} {w : World} : h37_1.wp F Q env w = HC.wp F (.seq (.reg (.chk none .chkp (.cons (.inp 0) .nil) (.chk none (.fld 1) (.cons (.op .chkp (.cons (.inp 0) .nil)) .nil) (.eff (.st 1) (.cons (.op (.fld 1) (.cons (.op .chkp (.cons (.inp 0) .nil)) .nil)) (.cons (.inp 3) .nil)) (.done [] none))))) h37_0) Q env w := rfl
def h37_2 : HC := (.reg (.chk none (.bin .add) (.cons (.inp 4) (.cons (.cst (.int .i64 1)) .nil)) (.done [(4, (.op (.bin .add) (.cons (.inp 4) (.cons (.cst (.int .i64 1)) .nil))))] none)))
@[simp] theorem h37_2_wp {P : Program} {F : PF P} {Q : EX → List Value → World → Prop} {env : List Value} {w : World} : h37_2.wp F Q env w = HC.wp F (.reg (.chk none (.bin .add) (.cons (.inp 4) (.cons (.cst (.int .i64 1)) .nil)) (.done [(4, (.op (.bin .add) (.cons (.inp 4) (.cons (.cst (.int .i64 1)) .nil))))] none))) Q env w := rfl
def h37_3 : HC := (.reg (.chk none .chkp (.cons (.inp 0) .nil) (.chk none (.fld 1) (.cons (.op .chkp (.cons (.inp 0) .nil)) .nil) (.eff (.ld false 1) (.cons (.op (.fld 1) (.cons (.op .chkp (.cons (.inp 0) .nil)) .nil)) .nil) (.chk none (.idxL 2) (.cons (.bv 0) (.cons (.inp 4) .nil)) (.eff (.ld true 2) (.cons (.op (.idxL 2) (.cons (.bv 0) (.cons (.inp 4) .nil))) .nil) (.eff (.bsl 100 1 2 #[(.int .i64 0), (.int .i64 0)] [0]) (.cons (.bv 1) .nil) (.eff (.app 89 89 100 2 16 (.agg #[(.int .i64 0), (.int .i64 0)])) (.cons (.inp 3) (.cons (.bv 2) .nil)) (.done [(3, (.bv 3))] none)))))))))
@[simp] theorem h37_3_wp {P : Program} {F : PF P} {Q : EX → List Value → World → Prop} {env : List Value} {w : World} : h37_3.wp F Q env w = HC.wp F (.reg (.chk none .chkp (.cons (.inp 0) .nil) (.chk none (.fld 1) (.cons (.op .chkp (.cons (.inp 0) .nil)) .nil) (.eff (.ld false 1) (.cons (.op (.fld 1) (.cons (.op .chkp (.cons (.inp 0) .nil)) .nil)) .nil) (.chk none (.idxL 2) (.cons (.bv 0) (.cons (.inp 4) .nil)) (.eff (.ld true 2) (.cons (.op (.idxL 2) (.cons (.bv 0) (.cons (.inp 4) .nil))) .nil) (.eff (.bsl 100 1 2 #[(.int .i64 0), (.int .i64 0)] [0]) (.cons (.bv 1) .nil) (.eff (.app 89 89 100 2 16 (.agg #[(.int .i64 0), (.int .i64 0)])) (.cons (.inp 3) (.cons (.bv 2) .nil)) (.done [(3, (.bv 3))] none))))))))) Q env w := rfl
def h37_4 : HC := (.br (.chk none .chkp (.cons (.inp 0) .nil) (.chk none (.fld 1) (.cons (.op .chkp (.cons (.inp 0) .nil)) .nil) (.eff (.ld false 1) (.cons (.op (.fld 1) (.cons (.op .chkp (.cons (.inp 0) .nil)) .nil)) .nil) (.chk none (.idxL 2) (.cons (.bv 0) (.cons (.inp 4) .nil)) (.chk none (.fld 0) (.cons (.op (.idxL 2) (.cons (.bv 0) (.cons (.inp 4) .nil))) .nil) (.eff (.ld false 1) (.cons (.op (.fld 0) (.cons (.op (.idxL 2) (.cons (.bv 0) (.cons (.inp 4) .nil))) .nil)) .nil) (.chk none (.bin .neq) (.cons (.bv 1) (.cons (.inp 1) .nil)) (.done [] (some (.op (.bin .neq) (.cons (.bv 1) (.cons (.inp 1) .nil)))))))))))) h37_3 .skip)
@[simp] theorem h37_4_wp {P : Program} {F : PF P} {Q : EX → List Value → World → Prop} {env : List Value} {w : World} : h37_4.wp F Q env w = HC.wp F (.br (.chk none .chkp (.cons (.inp 0) .nil) (.chk none (.fld 1) (.cons (.op .chkp (.cons (.inp 0) .nil)) .nil) (.eff (.ld false 1) (.cons (.op (.fld 1) (.cons (.op .chkp (.cons (.inp 0) .nil)) .nil)) .nil) (.chk none (.idxL 2) (.cons (.bv 0) (.cons (.inp 4) .nil)) (.chk none (.fld 0) (.cons (.op (.idxL 2) (.cons (.bv 0) (.cons (.inp 4) .nil))) .nil) (.eff (.ld false 1) (.cons (.op (.fld 0) (.cons (.op (.idxL 2) (.cons (.bv 0) (.cons (.inp 4) .nil))) .nil)) .nil) (.chk none (.bin .neq) (.cons (.bv 1) (.cons (.inp 1) .nil)) (.done [] (some (.op (.bin .neq) (.cons (.bv 1) (.cons (.inp 1) .nil)))))))))))) h37_3 .skip) Q env w := rfl
def h37_5 : HC := (.seq (.block 1 h37_4) h37_2)
@[simp] theorem h37_5_wp {P : Program} {F : PF P} {Q : EX → List Value → World → Prop} {env : List Value} {w : World} : h37_5.wp F Q env w = HC.wp F (.seq (.block 1 h37_4) h37_2) Q env w := rfl
def h37_6 : HC := (.seq (.br (.chk none .chkp (.cons (.inp 0) .nil) (.chk none (.fld 1) (.cons (.op .chkp (.cons (.inp 0) .nil)) .nil) (.eff (.ld false 1) (.cons (.op (.fld 1) (.cons (.op .chkp (.cons (.inp 0) .nil)) .nil)) .nil) (.chk none .lenL (.cons (.bv 0) .nil) (.chk none (.bin .lss) (.cons (.inp 4) (.cons (.op .lenL (.cons (.bv 0) .nil)) .nil)) (.done [] (some (.op (.bin .lss) (.cons (.inp 4) (.cons (.op .lenL (.cons (.bv 0) .nil)) .nil)))))))))) .skip (.exit 0)) h37_5)
@[simp] theorem h37_6_wp {P : Program} {F : PF P} {Q : EX → List Value → World → Prop} {env : List Value} {w : World} : h37_6.wp F Q env w = HC.wp F (.seq (.br (.chk none .chkp (.cons (.inp 0) .nil) (.chk none (.fld 1) (.cons (.op .chkp (.cons (.inp 0) .nil)) .nil) (.eff (.ld false 1) (.cons (.op (.fld 1) (.cons (.op .chkp (.cons (.inp 0) .nil)) .nil)) .nil) (.chk none .lenL (.cons (.bv 0) .nil) (.chk none (.bin .lss) (.cons (.inp 4) (.cons (.op .lenL (.cons (.bv 0) .nil)) .nil)) (.done [] (some (.op (.bin .lss) (.cons (.inp 4) (.cons (.op .lenL (.cons (.bv 0) .nil)) .nil)))))))))) .skip (.exit 0)) h37_5) Q env w := rfl
def h37_7 : HC := (.loop h37_6)
@[simp] theorem h37_7_wp {P : Program} {F : PF P} {Q : EX → List Value → World → Prop} {env : List Value} {w : World} : h37_7.wp F Q env w = HC.wp F (.loop h37_6) Q env w := rfl
def h37_8 : HC := (.seq (.block 0 h37_7) h37_1)
@[simp] theorem h37_8_wp {P : Program} {F : PF P} {Q : EX → List Value → World → Prop} {env : List Value} {w : World} : h37_8.wp F Q env w = HC.wp F (.seq (.block 0 h37_7) h37_1) Q env w := rfl
def h37_9 : HC := (.seq (.reg (.done [(4, (.cst (.int .i64 0)))] none)) h37_8)
@[simp] theorem h37_9_wp {P : Program} {F : PF P} {Q : EX → List Value → World → Prop} {env : List Value} {w : World} : h37_9.wp F Q env w = HC.wp F (.seq (.reg (.done [(4, (.cst (.int .i64 0)))] none)) h37_8) Q env w := rfl
def h37_10 : HC := (.seq (.reg (.done [(3, (.cst (.slice none 0 0)))] none)) h37_9)
@[simp] theorem h37_10_wp {P : Program} {F : PF P} {Q : EX → List Value → World → Prop} {env : List Value} {w : World} : h37_10.wp F Q env w = HC.wp F (.seq (.reg (.done [(3, (.cst (.slice none 0 0)))] none)) h37_9) Q env w := rfl
def h37_11 : HC := (.seq (.reg (.done [(2, (.cst (.int .i64 93)))] none)) .ret)
@[simp] theorem h37_11_wp {P : Program} {F : PF P} {Q : EX → List Value → World → Prop} {env : List Value} {w : World} : h37_11.wp F Q env w = HC.wp F (.seq (.reg (.done [(2, (.cst (.int .i64 93)))] none)) .ret) Q env w := rfl
def h37_12 : HC := (.seq (.br (.eff (.call 50) (.cons (.inp 0) (.cons (.inp 1) .nil)) (.chk none (.bin .lss) (.cons (.bv 0) (.cons (.cst (.int .i64 0)) .nil)) (.done [] (some (.op (.bin .lss) (.cons (.bv 0) (.cons (.cst (.int .i64 0)) .nil))))))) h37_11 .skip) h37_10)
@[simp] theorem h37_12_wp {P : Program} {F : PF P} {Q : EX → List Value → World → Prop} {env : List Value} {w : World} : h37_12.wp F Q env w = HC.wp F (.seq (.br (.eff (.call 50) (.cons (.inp 0) (.cons (.inp 1) .nil)) (.chk none (.bin .lss) (.cons (.bv 0) (.cons (.cst (.int .i64 0)) .nil)) (.done [] (some (.op (.bin .lss) (.cons (.bv 0) (.cons (.cst (.int .i64 0)) .nil))))))) h37_11 .skip) h37_10) Q env w := rfl
def h37_13 : HC := (.seq (.reg (.done [(2, (.cst (.int .i64 1)))] none)) .ret)
@[simp] theorem h37_13_wp {P : Program} {F : PF P} {Q : EX → List Value → World → Prop} {env : List Value} {w : World} : h37_13.wp F Q env w = HC.wp F (.seq (.reg (.done [(2, (.cst (.int .i64 1)))] none)) .ret) Q env w := rfl
def h37_14 : HC := (.seq (.br (.chk none (.eqNil false (.pointer 91) (.pointer none)) (.cons (.inp 0) .nil) (.done [] (some (.op (.eqNil false (.pointer 91) (.pointer none)) (.cons (.inp 0) .nil))))) h37_13 .skip) h37_12)
@[simp] theorem h37_14_wp {P : Program} {F : PF P} {Q : EX → List Value → World → Prop} {env : List Value} {w : World} : h37_14.wp F Q env w = HC.wp F (.seq (.br (.chk none (.eqNil false (.pointer 91) (.pointer none)) (.cons (.inp 0) .nil) (.done [] (some (.op (.eqNil false (.pointer 91) (.pointer none)) (.cons (.inp 0) .nil))))) h37_13 .skip) h37_12) Q env w := rfl
def l37 : Lifted := ⟨[0, 1, 4, 5, 6], 46, [.slot 2], (.seq (.reg (.done [(2, (.cst (.int .i64 0)))] none)) h37_14)⟩
theorem l37_ok : liftFn U2 37 400 = some l37 := by kernel_rfl


/-- in order -/
abbrev srt (L : List (Int × Int)) : Prop := L.Pairwise fun x y => ltOf ordF y x = false
def ahB (x y : Int × Int) : Bool := decide (x.2 < y.2) || (decide (x.2 = y.2) && decide (x.1 < y.1))
theorem ahB_lt (x y : Int × Int) : ahB x y = ltOf ordF x y := by
  rw [ltOrd]
  unfold ahB
  rw [Bool.eq_iff_iff]
  simp
theorem ahead_spec' (x y : Int × Int) (w0 w : World) (A : Asn) (s : St w0 A w) :
    CallW Try.prog 51 [.agg (encT x).toArray, .agg (encT y).toArray] (fun r w' => r = .bool (ahB x y) ∧ St w0 A w') w := by
  refine callW_of_lift l51_ok (by simp [l51]) ?_
  simp [l51]
  refine eff_box s ?_
  intro b1 w1 s1
  simp
  refine eff_box s1 ?_
  intro b2 w2 s2
  have c1 : ∀ j u, (encT x)[j]? = some u → w2.cell? ⟨b1, 0 + j, none⟩ = some u := s2.drop.row_cells |> fun h => by
    have := St.row_cells (F := A * pt b2 (.cells (encT y).toArray 100 (0, 0))) (vs := encT x) s2.swap
    exact this
  have c2 : ∀ j u, (encT y)[j]? = some u → w2.cell? ⟨b2, 0 + j, none⟩ = some u := St.row_cells (vs := encT y) s2
  simp
  refine eff_ldc (c1 1 _ rfl) ?_
  simp
  refine eff_ldc (c2 1 _ rfl) ?_
  simp
  by_cases h1 : x.2 < y.2
  · simp [h1, ahB]
    exact s2.drop.drop
  · simp [h1]
    refine eff_ldc (c1 1 _ rfl) ?_
    simp
    refine eff_ldc (c2 1 _ rfl) ?_
    simp
    by_cases h2 : x.2 = y.2
    · simp [h2]
      refine eff_ldc (c1 0 _ rfl) ?_
      simp
      refine eff_ldc (c2 0 _ rfl) ?_
      simp [ahB, h2]
      exact s2.drop.drop
    · simp [ahB, h1, h2]
      exact s2.drop.drop
theorem srt_at {L : List (Int × Int)} (h : srt L) {t : Int × Int} {i : Nat} (hi : i ≤ L.length) (h1 : ∀ x ∈ L.take i, ahB x t = true) (h2 : ∀ x, L[i]? = some x → ahB x t = false) (h3 : ∀ x ∈ L, x.1 ≠ t.1) : sortT (L ++ [t]) = L.take i ++ [t] ++ L.drop i := by
  have hs : srt (L.take i ++ [t] ++ L.drop i) := by
    have hd : srt (L.take i ++ L.drop i) := by rw [List.take_append_drop]; exact h
    obtain ⟨d1, d2, d3⟩ := List.pairwise_append.1 hd
    have hbig : ∀ x ∈ L.drop i, ltOf ordF x t = false := by
      intro x hx
      cases hL : L[i]? with
      | none =>
        rw [List.getElem?_eq_none_iff] at hL
        rw [List.drop_of_length_le hL] at hx
        cases hx
      | some y =>
        have hy := h2 y hL
        rw [ahB_lt] at hy
        have hlt := (List.getElem?_eq_some_iff.1 hL).1
        have ey : L[i] = y := (List.getElem?_eq_some_iff.1 hL).2
        rw [List.drop_eq_getElem_cons hlt, ey] at hx d2
        rcases List.mem_cons.1 hx with rfl | hx
        · exact hy
        · have := (List.pairwise_cons.1 d2).1 x hx
          rw [ltOrd] at *
          simp at *
          omega
    rw [List.append_assoc]
    refine List.pairwise_append.2 ⟨d1, ?_, fun x hx y hy => ?_⟩
    · exact List.pairwise_append.2 ⟨by simp, d2, fun x hx y hy => by rw [List.mem_singleton.1 hx]; exact hbig y hy⟩
    · rcases List.mem_append.1 hy with hy | hy
      · rw [List.mem_singleton.1 hy]
        have := h1 x hx
        rw [ahB_lt] at this
        rw [ltOrd] at *
        simp at *
        omega
      · exact d3 x hx y hy
  rw [← sortT_of hs]
  refine sortT_congr ?_
  have : (L.take i ++ [t] ++ L.drop i).Perm (L.take i ++ L.drop i ++ [t]) := by
    rw [List.append_assoc, List.append_assoc]
    exact List.Perm.append_left _ List.perm_append_comm
  rw [List.take_append_drop] at this
  exact this.symm
def oneO2 (S : World → Prop) (R : Value → Prop) : List Value → World → Prop
  | [], w => S w
  | [r], w => R r ∧ S w
  | _, _ => False
abbrev tmA2 (b : Nat) (x : Int × Int) : Asn := pt b (.cells (encT x).toArray 100 (0, 0))
theorem routs_app {v : Value} {L : List (Int × Int)} {x : Int × Int} : own 100 2 v (L.length + 1) (L.flatMap encT ++ encT x) = routs v (L ++ [x]) := by
  show _ = own _ 2 v (L ++ [x]).length ((L ++ [x]).flatMap encT)
  rw [List.length_append, List.flatMap_append]
  simp
set_option maxHeartbeats 1000000 in
theorem rSched_spec (q now mv : Nat) (L : List (Int × Int)) (n a : Int) (w0 w : World) (A : Asn) {K : Value → World → Prop} (hs : srt L) (hl : L.length ≤ 65536) (s : St w0 (A * rwh q now mv L) w)
    (hk : ∀ w', (if schP now L n a = 0 then St w0 (A * rwh q now mv (sortT (L ++ [(n, a)]))) w' else St w0 (A * rwh q now mv L) w') → K (.int .i64 (schP now L n a)) w') :
    CallW Try.prog 36 [.pointer (some ⟨q, 0, none⟩), .int .i64 n, .int .i64 a] K w := by
  have no : ∀ (e : Int) (w1 : World), schP now L n a = e → e ≠ 0 → St w0 (A * rwh q now mv L) w1 → K (.int .i64 e) w1 := fun e w1 he hne s1 => by
    have := hk w1 (by rw [he, if_neg hne]; exact s1)
    rw [he] at this
    exact this
  refine callW_of_lift l36_ok (by simp [l36]) ?_
  simp [l36]
  refine cndI (fun h => ?_) (fun h => ?_)
  · simp at h
    simp
    exact no 2 w (by unfold schP; rw [if_pos h]) (by decide) s
  simp at h
  simp
  obtain ⟨v, s1⟩ := ropen s
  refine eff_ldc (v := .int .i64 now) (s1.drop.row_cells 0 _ rfl) ?_
  simp
  refine cndI (fun h2 => ?_) (fun h2 => ?_)
  · simp at h2
    simp
    exact no 90 w (by unfold schP; rw [if_neg (by omega), if_pos (by omega)]) (by decide) s
  simp at h2
  simp
  refine eff_call ((find_spec' q now mv L n w0 w A (by omega) s).mono ?_)
  rintro r w1 ⟨⟨i, rfl, hi⟩, s2⟩
  clear s1
  simp
  refine cndI (fun h3 => ?_) (fun h3 => ?_)
  · simp at h3
    simp
    refine no 92 w1 ?_ (by decide) s2
    unfold schP
    rw [if_neg (by omega), if_neg (by omega), if_pos]
    intro hall
    obtain ⟨x, hx, e⟩ := hi.1 h3
    exact hall x hx e
  have hfree : ∀ u ∈ L, u.1 ≠ n := fun u hu e => by
    simp at h3
    have := hi.2 ⟨u, hu, e⟩
    omega
  simp
  obtain ⟨v, s3⟩ := ropen s2
  have hrow := row_own s3
  obtain ⟨va, vc, rfl⟩ := hrow.val
  refine eff_ldc (v := .slice va L.length vc) (s3.drop.row_cells 1 _ rfl) ?_
  simp
  refine cndI (fun h4 => ?_) (fun h4 => ?_)
  · simp at h4
    simp
    refine no 91 w1 ?_ (by decide) s2
    unfold schP
    rw [if_neg (by omega), if_neg (by omega), if_neg (not_not_intro hfree), if_pos (by omega)]
  have hlt : L.length < 65536 := by
    simp at h4
    omega
  have hz : schP now L n a = 0 := by
    unfold schP
    rw [if_neg (by omega), if_neg (by omega), if_neg (not_not_intro hfree), if_neg (by omega)]
  simp only [hz, if_true] at hk
  simp [Instr.fill, Value.cells]
  refine eff_new s3 ?_
  intro b w2 s4
  simp
  refine eff_stA (vs := encT (n, a)) s4 rfl rfl (encT_one _) (by simp) ?_
  intro w3 s5
  have s5 : St w0 (A * rwc q now mv (.slice va L.length vc) * routs (.slice va L.length vc) L * tmA2 b (n, a)) w3 := by simpa using s5
  clear s s2 s3 s4
  obtain ⟨B, hB⟩ : ∃ B, A * rwc q now mv (.slice va L.length vc) * routs (.slice va L.length vc) L * tmA2 b (n, a) = B := ⟨_, rfl⟩
  have toR : ∀ {w F}, St w0 (B * F) w → Row w0 (A * rwc q now mv (.slice va L.length vc) * routs (.slice va L.length vc) L) (.slice va L.length vc) L.length 2 (L.flatMap encT) ∧ St w0 (A * rwc q now mv (.slice va L.length vc) * routs (.slice va L.length vc) L) w := fun sw => by
    have := sw.drop
    rw [← hB] at this
    exact ⟨row_own this.drop, this.drop⟩
  have hdr : ∀ {w F}, St w0 (B * F) w → w.cell? ⟨q, 1, none⟩ = some (.slice va L.length vc) := fun sw => (toR sw).2.drop.row_cells 1 _ rfl
  have tcell : ∀ {w F}, St w0 (B * F) w → ∀ j u, (encT (n, a))[j]? = some u → w.cell? ⟨b, 0 + j, none⟩ = some u := fun sw => by
    have := sw.drop
    rw [← hB] at this
    exact St.row_cells (vs := encT (n, a)) this
  rw [hB] at s5
  simp
  refine loopI (fun env w' => ∃ (i : Nat) (v : Value), env = [.pointer (some ⟨q, 0, none⟩), .int .i64 n, .int .i64 a, .int .i64 0, .pointer (some ⟨b, 0, none⟩), v, .int .i64 i] ∧ i ≤ L.length ∧ (∀ x ∈ L.take i, ahB x (n, a) = true) ∧ St w0 (B * routs v (L.take i)) w')
    (fun env _ => L.length - slotN env 6) ⟨0, _, rfl, by omega, by simp, s5.own_nil _ _⟩ ?_
  clear s5
  rintro LQ env w' ⟨i, v, rfl, hi', hah, s'⟩ hN hE hR
  have stop : (∀ x, L[i]? = some x → ahB x (n, a) = false) → ∀ {w'}, St w0 (B * routs v (L.take i)) w' → HC.wp U2 h36_8 (endQ Try.prog [.slot 3] K) [.pointer (some ⟨q, 0, none⟩), .int .i64 n, .int .i64 a, .int .i64 0, .pointer (some ⟨b, 0, none⟩), v, .int .i64 i] w' := by
    intro hst w' s'
    have hsort := srt_at hs hi' hah hst hfree
    simp
    refine eff_ldcs (vs := encT (n, a)) (tcell s') rfl ?_
    simp
    refine eff_bslV s' rfl ?_
    intro c w4 s6
    simp
    refine eff_app (m := 1) (news := encT (n, a)) s6.swap rfl s6.cells_look (encT_one _) (by decide) rfl (by rw [List.length_take]; unfold maxLen; omega) (by rw [List.length_take]; omega) ?_
    intro v2 w5 s7
    rw [routs_app] at s7
    simp
    have s8 : St w0 (B * routs v2 (L.take i ++ [(n, a)] ++ (L.drop i).take 0)) w5 := by
      rw [List.take_zero, List.append_nil]
      exact St.cut (pt c (.cells (encT (n, a)).toArray 100 (0, 0))) s7 (by ac_rfl)
    clear s6 s7 s'
    refine loopI (fun env w' => ∃ (d : Nat) (v : Value), env = [.pointer (some ⟨q, 0, none⟩), .int .i64 n, .int .i64 a, .int .i64 0, .pointer (some ⟨b, 0, none⟩), v, .int .i64 (i + d : Nat)] ∧ i + d ≤ L.length ∧ St w0 (B * routs v (L.take i ++ [(n, a)] ++ (L.drop i).take d)) w')
      (fun env _ => L.length - slotN env 6) ⟨0, v2, rfl, by omega, s8⟩ ?_
    clear s8
    rintro LQ env w' ⟨d, v, rfl, hid, s'⟩ hN hE hR
    obtain ⟨j, hj⟩ : ∃ j, i + d = j := ⟨_, rfl⟩
    have hml : (L.take i ++ [(n, a)] ++ (L.drop i).take d).length ≤ 65536 + 65536 + 1 := by
      simp only [List.length_append, List.length_take, List.length_singleton]
      omega
    obtain ⟨M, hM⟩ : ∃ M, L.take i ++ [(n, a)] ++ (L.drop i).take d = M := ⟨_, rfl⟩
    rw [hM] at s' hml
    rw [hj]
    simp
    refine eff_ldc (v := .slice va L.length vc) (hdr s') ?_
    simp
    refine cndI (fun h5 => ?_) (fun h5 => ?_)
    · have h50 := h5
      simp at h50
      have hj' : j < L.length := by omega
      obtain ⟨hrow, srow⟩ := toR s'
      obtain ⟨g, o, cap, hv, hc⟩ := hrow.at (by omega)
      cases hv
      simp
      refine eff_ldc (hdr s') ?_
      simp [h50]
      refine eff_ldcs (vs := encT L[j]) (fun k u hu => by rw [Nat.add_assoc]; exact hc _ srow _ _ (flatT_at hj' k u hu)) rfl ?_
      simp
      refine eff_bslV s' rfl ?_
      intro c w4 s6
      simp
      refine eff_app (m := 1) (news := encT L[j]) s6.swap rfl s6.cells_look (encT_one _) (by decide) rfl (by unfold maxLen; omega) (by omega) ?_
      intro v2 w5 s7
      rw [routs_app] at s7
      simp
      try simp (disch := omega) only [wrap64]
      refine hN _ _ ⟨d + 1, v2, by simp; omega, by omega, ?_⟩ (by simp [slotN]; omega)
      have e : L.take i ++ [(n, a)] ++ (L.drop i).take (d + 1) = M ++ [L[j]] := by
        rw [← hM, List.take_succ_eq_append_getElem (by rw [List.length_drop]; omega)]
        simp [hj]
      rw [e]
      exact St.cut (pt c (.cells (encT L[j]).toArray 100 (0, 0))) s7 (by ac_rfl)
    · have : j = L.length := by
        simp at h5
        omega
      simp
      refine hE _ _ _ ?_
      simp
      have hMs : M = sortT (L ++ [(n, a)]) := by
        rw [hsort, ← hM, List.take_of_length_le (l := L.drop i) (by rw [List.length_drop]; omega)]
      rw [← hB] at s'
      have s9 := s'.to (B := A * routs (.slice va L.length vc) L * tmA2 b (n, a) * routs v M * rwc q now mv (.slice va L.length vc)) (by ac_rfl)
      obtain ⟨wa, wc', rfl, _⟩ := s'.own_val
      refine eff_st1 s9 rfl (by simp) ?_
      intro w6 s10
      simp
      refine hk w6 ?_
      rw [← hMs]
      refine rclose (v := .slice wa M.length wc') ?_
      refine St.cut (routs (.slice va L.length vc) L * tmA2 b (n, a)) (s10.to (B := A * routs (.slice va L.length vc) L * tmA2 b (n, a) * routs (.slice wa M.length wc') M * rwc q now mv (.slice wa M.length wc')) ?_) (by ac_rfl)
      rfl
  simp
  refine brmI (oneO2 (St w0 (B * routs v (L.take i))) (fun r => r = .bool (match L[i]? with
    | some x => ahB x (n, a)
    | none => false))) s'.drew ?_
  simp
  refine effm_ldc (v := .slice va L.length vc) (fun vs' w he hw => ?_) ?_
  · match vs', hw with
    | [], hw => exact hdr hw
    | [_], hw => simp [era] at he
  simp
  by_cases h5 : i < L.length
  · have h50 : (i : Int) < L.length := by omega
    obtain ⟨hrow, srow⟩ := toR s'
    obtain ⟨g, o, cap, hv, hc⟩ := hrow.at (by omega)
    cases hv
    simp [h5, h50]
    refine effm_ldc (v := .slice (some ⟨g, o, none⟩) L.length vc) (fun vs' w he hw => ?_) ?_
    · match vs', hw with
      | [], hw => exact hdr hw
      | [_], hw => simp [era] at he
    simp [h5, h50]
    refine effm_ldcs (us := encT L[i]) (fun vs' w he hw => ?_) rfl ?_
    · match vs', hw with
      | [], hw => exact fun k u hu => by rw [Nat.add_assoc]; exact hc _ (toR hw).2 _ _ (flatT_at h5 k u hu)
      | [_], hw => simp [era] at he
    simp
    refine effm_ldcs (us := encT (n, a)) (fun vs' w he hw => ?_) rfl ?_
    · match vs', hw with
      | [], hw => exact tcell hw
      | [_], hw => simp [era] at he
    simp
    refine effm_mv rfl (fun w hw => eff_call ((ahead_spec' L[i] (n, a) w0 w _ hw).mono fun r w' h => ?_)) (fun r hr => ?_)
    · obtain ⟨rfl, h⟩ := h
      exact ⟨by simp [h5], h⟩
    obtain ⟨_, hr, _⟩ := hr
    have hr : r = .bool (ahB L[i] (n, a)) := by simpa [h5] using hr
    subst hr
    simp
    intro w4 s4
    have s4 : St w0 (B * routs v (L.take i)) w4 := s4.2
    refine cndI (fun h6 => ?_) (fun h6 => ?_)
    · simp
      refine eff_ldc (hdr s4) ?_
      simp [h50]
      refine eff_ldcs (vs := encT L[i]) (fun k u hu => by rw [Nat.add_assoc]; exact hc _ (toR s4).2 _ _ (flatT_at h5 k u hu)) rfl ?_
      simp
      refine eff_bslV s4 rfl ?_
      intro c w5 s6
      simp
      refine eff_app (m := 1) (news := encT L[i]) s6.swap rfl s6.cells_look (encT_one _) (by decide) rfl (by rw [List.length_take]; unfold maxLen; omega) (by rw [List.length_take]; omega) ?_
      intro v2 w6 s7
      rw [routs_app] at s7
      simp
      try simp (disch := omega) only [wrap64]
      refine hN _ _ ⟨i + 1, v2, by simp, by omega, fun x hx => ?_, ?_⟩ (by simp [slotN]; omega)
      · rw [List.take_succ_eq_append_getElem h5] at hx
        rcases List.mem_append.1 hx with hx | hx
        · exact hah x hx
        · rw [List.mem_singleton.1 hx]; exact h6
      · rw [List.take_succ_eq_append_getElem h5]
        exact St.cut (pt c (.cells (encT L[i]).toArray 100 (0, 0))) s7 (by ac_rfl)
    · simp
      refine hE _ _ _ ?_
      refine stop (fun x hx => ?_) s4
      rw [List.getElem?_eq_getElem h5] at hx
      cases hx
      exact h6
  · have h50 : ¬ (i : Int) < L.length := by omega
    simp [h5, h50]
    intro w4 s4
    refine hE _ _ _ ?_
    refine stop (fun x hx => ?_) s4
    rw [List.getElem?_eq_none (by omega)] at hx
    cases hx
end Go.HL.Wh

namespace Go.HL.Wh
open Go.HL Go.Proofs
set_option maxRecDepth 4000
set_option linter.unusedSimpArgs false
set_option linter.unusedVariables false
-- (*bazaar/bazaarref09.Wheel).Advance
def h38_0 : HC := (.seq (.reg (.done [(2, (.inp 4)), (3, (.cst (.int .i64 0)))] none)) .ret)
@[simp] theorem h38_0_wp {P : Program} {F : PF P} {Q : EX → List Value → World → Prop} {env : List Value} {w : World} : h38_0.wp F Q env w = HC.wp F (.seq (.reg (.done [(2, (.inp 4)), (3, (.cst (.int .i64 0)))] none)) .ret) Q env w := rfl
def h38_1 : HC := (.seq (.reg (.chk none .chkp (.cons (.inp 0) .nil) (.chk none (.fld 0) (.cons (.op .chkp (.cons (.inp 0) .nil)) .nil) (.eff (.st 1) (.cons (.op (.fld 0) (.cons (.op .chkp (.cons (.inp 0) .nil)) .nil)) (.cons (.inp 1) .nil)) (.done [] none))))) h38_0)
@[simp] theorem h38_1_wp {P : Program} {F : PF P} {Q : EX → List Value → World → Prop} {env : List Value} {w : World} : h38_1.wp F Q env w = HC.wp F (.seq (.reg (.chk none .chkp (.cons (.inp 0) .nil) (.chk none (.fld 0) (.cons (.op .chkp (.cons (.inp 0) .nil)) .nil) (.eff (.st 1) (.cons (.op (.fld 0) (.cons (.op .chkp (.cons (.inp 0) .nil)) .nil)) (.cons (.inp 1) .nil)) (.done [] none))))) h38_0) Q env w := rfl
def h38_2 : HC := (.seq (.reg (.chk none .chkp (.cons (.inp 0) .nil) (.chk none (.fld 1) (.cons (.op .chkp (.cons (.inp 0) .nil)) .nil) (.eff (.st 1) (.cons (.op (.fld 1) (.cons (.op .chkp (.cons (.inp 0) .nil)) .nil)) (.cons (.inp 5) .nil)) (.done [] none))))) h38_1)
@[simp] theorem h38_2_wp {P : Program} {F : PF P} {Q : EX → List Value → World → Prop} {env : List Value} {w : World} : h38_2.wp F Q env w = HC.wp F (.seq (.reg (.chk none .chkp (.cons (.inp 0) .nil) (.chk none (.fld 1) (.cons (.op .chkp (.cons (.inp 0) .nil)) .nil) (.eff (.st 1) (.cons (.op (.fld 1) (.cons (.op .chkp (.cons (.inp 0) .nil)) .nil)) (.cons (.inp 5) .nil)) (.done [] none))))) h38_1) Q env w := rfl
def h38_3 : HC := (.reg (.chk none (.bin .add) (.cons (.inp 6) (.cons (.cst (.int .i64 1)) .nil)) (.done [(6, (.op (.bin .add) (.cons (.inp 6) (.cons (.cst (.int .i64 1)) .nil))))] none)))
@[simp] theorem h38_3_wp {P : Program} {F : PF P} {Q : EX → List Value → World → Prop} {env : List Value} {w : World} : h38_3.wp F Q env w = HC.wp F (.reg (.chk none (.bin .add) (.cons (.inp 6) (.cons (.cst (.int .i64 1)) .nil)) (.done [(6, (.op (.bin .add) (.cons (.inp 6) (.cons (.cst (.int .i64 1)) .nil))))] none))) Q env w := rfl
def h38_4 : HC := (.reg (.chk none .chkp (.cons (.inp 0) .nil) (.chk none (.fld 2) (.cons (.op .chkp (.cons (.inp 0) .nil)) .nil) (.eff (.ld false 1) (.cons (.op (.fld 2) (.cons (.op .chkp (.cons (.inp 0) .nil)) .nil)) .nil) (.chk none (.bin .add) (.cons (.bv 0) (.cons (.cst (.int .i64 1)) .nil)) (.chk none .chkp (.cons (.inp 0) .nil) (.chk none (.fld 2) (.cons (.op .chkp (.cons (.inp 0) .nil)) .nil) (.eff (.st 1) (.cons (.op (.fld 2) (.cons (.op .chkp (.cons (.inp 0) .nil)) .nil)) (.cons (.op (.bin .add) (.cons (.bv 0) (.cons (.cst (.int .i64 1)) .nil))) .nil)) (.done [] none)))))))))
@[simp] theorem h38_4_wp {P : Program} {F : PF P} {Q : EX → List Value → World → Prop} {env : List Value} {w : World} : h38_4.wp F Q env w = HC.wp F (.reg (.chk none .chkp (.cons (.inp 0) .nil) (.chk none (.fld 2) (.cons (.op .chkp (.cons (.inp 0) .nil)) .nil) (.eff (.ld false 1) (.cons (.op (.fld 2) (.cons (.op .chkp (.cons (.inp 0) .nil)) .nil)) .nil) (.chk none (.bin .add) (.cons (.bv 0) (.cons (.cst (.int .i64 1)) .nil)) (.chk none .chkp (.cons (.inp 0) .nil) (.chk none (.fld 2) (.cons (.op .chkp (.cons (.inp 0) .nil)) .nil) (.eff (.st 1) (.cons (.op (.fld 2) (.cons (.op .chkp (.cons (.inp 0) .nil)) .nil)) (.cons (.op (.bin .add) (.cons (.bv 0) (.cons (.cst (.int .i64 1)) .nil))) .nil)) (.done [] none))))))))) Q env w := rfl
def h38_5 : HC := (.br (.chk none (.bin .neq) (.cons (.inp 8) (.cons (.inp 9) .nil)) (.done [] (some (.op (.bin .neq) (.cons (.inp 8) (.cons (.inp 9) .nil)))))) h38_4 .skip)
@[simp] theorem h38_5_wp {P : Program} {F : PF P} {Q : EX → List Value → World → Prop} {env : List Value} {w : World} : h38_5.wp F Q env w = HC.wp F (.br (.chk none (.bin .neq) (.cons (.inp 8) (.cons (.inp 9) .nil)) (.done [] (some (.op (.bin .neq) (.cons (.inp 8) (.cons (.inp 9) .nil)))))) h38_4 .skip) Q env w := rfl
def h38_6 : HC := (.seq (.reg (.chk none (.fld 1) (.cons (.inp 7) .nil) (.eff (.ld false 1) (.cons (.op (.fld 1) (.cons (.inp 7) .nil)) .nil) (.eff (.call 44) (.cons (.bv 0) (.cons (.inp 1) .nil)) (.chk none (.ext 0) (.cons (.bv 1) .nil) (.chk none (.ext 1) (.cons (.bv 1) .nil) (.done [(9, (.op (.ext 0) (.cons (.bv 1) .nil)))] none))))))) h38_5)
@[simp] theorem h38_6_wp {P : Program} {F : PF P} {Q : EX → List Value → World → Prop} {env : List Value} {w : World} : h38_6.wp F Q env w = HC.wp F (.seq (.reg (.chk none (.fld 1) (.cons (.inp 7) .nil) (.eff (.ld false 1) (.cons (.op (.fld 1) (.cons (.inp 7) .nil)) .nil) (.eff (.call 44) (.cons (.bv 0) (.cons (.inp 1) .nil)) (.chk none (.ext 0) (.cons (.bv 1) .nil) (.chk none (.ext 1) (.cons (.bv 1) .nil) (.done [(9, (.op (.ext 0) (.cons (.bv 1) .nil)))] none))))))) h38_5) Q env w := rfl
def h38_7 : HC := (.seq (.regq (some 1) (.chk none (.fld 1) (.cons (.inp 7) .nil) (.eff (.ld false 1) (.cons (.op (.fld 1) (.cons (.inp 7) .nil)) .nil) (.chk none .chkp (.cons (.inp 0) .nil) (.chk none (.fld 0) (.cons (.op .chkp (.cons (.inp 0) .nil)) .nil) (.eff (.ld false 1) (.cons (.op (.fld 0) (.cons (.op .chkp (.cons (.inp 0) .nil)) .nil)) .nil) (.eff (.call 44) (.cons (.bv 0) (.cons (.bv 1) .nil)) (.chk none (.ext 0) (.cons (.bv 2) .nil) (.chk none (.ext 1) (.cons (.bv 2) .nil) (.done [(8, (.op (.ext 0) (.cons (.bv 2) .nil)))] none)))))))))) h38_6)
@[simp] theorem h38_7_wp {P : Program} {F : PF P} {Q : EX → List Value → World → Prop} {env : List Value} {w : World} : h38_7.wp F Q env w = HC.wp F (.seq (.regq (some 1) (.chk none (.fld 1) (.cons (.inp 7) .nil) (.eff (.ld false 1) (.cons (.op (.fld 1) (.cons (.inp 7) .nil)) .nil) (.chk none .chkp (.cons (.inp 0) .nil) (.chk none (.fld 0) (.cons (.op .chkp (.cons (.inp 0) .nil)) .nil) (.eff (.ld false 1) (.cons (.op (.fld 0) (.cons (.op .chkp (.cons (.inp 0) .nil)) .nil)) .nil) (.eff (.call 44) (.cons (.bv 0) (.cons (.bv 1) .nil)) (.chk none (.ext 0) (.cons (.bv 2) .nil) (.chk none (.ext 1) (.cons (.bv 2) .nil) (.done [(8, (.op (.ext 0) (.cons (.bv 2) .nil)))] none)))))))))) h38_6) Q env w := rfl
def h38_8 : HC := (.seq (.reg (.eff (.ld true 2) (.cons (.inp 7) .nil) (.eff (.bsl 100 1 2 #[(.int .i64 0), (.int .i64 0)] [0]) (.cons (.bv 0) .nil) (.eff (.app 89 89 100 2 16 (.agg #[(.int .i64 0), (.int .i64 0)])) (.cons (.inp 5) (.cons (.bv 1) .nil)) (.done [(5, (.bv 2))] none))))) h38_7)
@[simp] theorem h38_8_wp {P : Program} {F : PF P} {Q : EX → List Value → World → Prop} {env : List Value} {w : World} : h38_8.wp F Q env w = HC.wp F (.seq (.reg (.eff (.ld true 2) (.cons (.inp 7) .nil) (.eff (.bsl 100 1 2 #[(.int .i64 0), (.int .i64 0)] [0]) (.cons (.bv 0) .nil) (.eff (.app 89 89 100 2 16 (.agg #[(.int .i64 0), (.int .i64 0)])) (.cons (.inp 5) (.cons (.bv 1) .nil)) (.done [(5, (.bv 2))] none))))) h38_7) Q env w := rfl
def h38_9 : HC := (.seq (.reg (.eff (.ld true 2) (.cons (.inp 7) .nil) (.eff (.bsl 100 1 2 #[(.int .i64 0), (.int .i64 0)] [0]) (.cons (.bv 0) .nil) (.eff (.app 89 89 100 2 16 (.agg #[(.int .i64 0), (.int .i64 0)])) (.cons (.inp 4) (.cons (.bv 1) .nil)) (.done [(4, (.bv 2))] none))))) (.exit 1))
@[simp] theorem h38_9_wp {P : Program} {F : PF P} {Q : EX → List Value → World → Prop} {env : List Value} {w : World} : h38_9.wp F Q env w = HC.wp F (.seq (.reg (.eff (.ld true 2) (.cons (.inp 7) .nil) (.eff (.bsl 100 1 2 #[(.int .i64 0), (.int .i64 0)] [0]) (.cons (.bv 0) .nil) (.eff (.app 89 89 100 2 16 (.agg #[(.int .i64 0), (.int .i64 0)])) (.cons (.inp 4) (.cons (.bv 1) .nil)) (.done [(4, (.bv 2))] none))))) (.exit 1)) Q env w := rfl
def h38_10 : HC := (.seq (.br (.chk none (.fld 1) (.cons (.inp 7) .nil) (.eff (.ld false 1) (.cons (.op (.fld 1) (.cons (.inp 7) .nil)) .nil) (.chk none (.bin .leq) (.cons (.bv 0) (.cons (.inp 1) .nil)) (.done [] (some (.op (.bin .leq) (.cons (.bv 0) (.cons (.inp 1) .nil)))))))) h38_9 .skip) h38_8)
@[simp] theorem h38_10_wp {P : Program} {F : PF P} {Q : EX → List Value → World → Prop} {env : List Value} {w : World} : h38_10.wp F Q env w = HC.wp F (.seq (.br (.chk none (.fld 1) (.cons (.inp 7) .nil) (.eff (.ld false 1) (.cons (.op (.fld 1) (.cons (.inp 7) .nil)) .nil) (.chk none (.bin .leq) (.cons (.bv 0) (.cons (.inp 1) .nil)) (.done [] (some (.op (.bin .leq) (.cons (.bv 0) (.cons (.inp 1) .nil)))))))) h38_9 .skip) h38_8) Q env w := rfl
def h38_11 : HC := (.seq (.reg (.chk none .chkp (.cons (.inp 0) .nil) (.chk none (.fld 1) (.cons (.op .chkp (.cons (.inp 0) .nil)) .nil) (.eff (.ld false 1) (.cons (.op (.fld 1) (.cons (.op .chkp (.cons (.inp 0) .nil)) .nil)) .nil) (.chk none (.idxL 2) (.cons (.bv 0) (.cons (.inp 6) .nil)) (.eff (.ld true 2) (.cons (.op (.idxL 2) (.cons (.bv 0) (.cons (.inp 6) .nil))) .nil) (.eff (.new 100 (.agg #[(.int .i64 0), (.int .i64 0)])) .nil (.eff (.st 2) (.cons (.bv 2) (.cons (.bv 1) .nil)) (.done [(7, (.bv 2))] none))))))))) h38_10)
@[simp] theorem h38_11_wp {P : Program} {F : PF P} {Q : EX → List Value → World → Prop} {env : List Value} {w : World} : h38_11.wp F Q env w = HC.wp F (.seq (.reg (.chk none .chkp (.cons (.inp 0) .nil) (.chk none (.fld 1) (.cons (.op .chkp (.cons (.inp 0) .nil)) .nil) (.eff (.ld false 1) (.cons (.op (.fld 1) (.cons (.op .chkp (.cons (.inp 0) .nil)) .nil)) .nil) (.chk none (.idxL 2) (.cons (.bv 0) (.cons (.inp 6) .nil)) (.eff (.ld true 2) (.cons (.op (.idxL 2) (.cons (.bv 0) (.cons (.inp 6) .nil))) .nil) (.eff (.new 100 (.agg #[(.int .i64 0), (.int .i64 0)])) .nil (.eff (.st 2) (.cons (.bv 2) (.cons (.bv 1) .nil)) (.done [(7, (.bv 2))] none))))))))) h38_10) Q env w := rfl
def h38_12 : HC := (.seq (.block 1 h38_11) h38_3)
@[simp] theorem h38_12_wp {P : Program} {F : PF P} {Q : EX → List Value → World → Prop} {env : List Value} {w : World} : h38_12.wp F Q env w = HC.wp F (.seq (.block 1 h38_11) h38_3) Q env w := rfl
def h38_13 : HC := (.seq (.br (.chk none .chkp (.cons (.inp 0) .nil) (.chk none (.fld 1) (.cons (.op .chkp (.cons (.inp 0) .nil)) .nil) (.eff (.ld false 1) (.cons (.op (.fld 1) (.cons (.op .chkp (.cons (.inp 0) .nil)) .nil)) .nil) (.chk none .lenL (.cons (.bv 0) .nil) (.chk none (.bin .lss) (.cons (.inp 6) (.cons (.op .lenL (.cons (.bv 0) .nil)) .nil)) (.done [] (some (.op (.bin .lss) (.cons (.inp 6) (.cons (.op .lenL (.cons (.bv 0) .nil)) .nil)))))))))) .skip (.exit 0)) h38_12)
@[simp] theorem h38_13_wp {P : Program} {F : PF P} {Q : EX → List Value → World → Prop} {env : List Value} {w : World} : h38_13.wp F Q env w = HC.wp F (.seq (.br (.chk none .chkp (.cons (.inp 0) .nil) (.chk none (.fld 1) (.cons (.op .chkp (.cons (.inp 0) .nil)) .nil) (.eff (.ld false 1) (.cons (.op (.fld 1) (.cons (.op .chkp (.cons (.inp 0) .nil)) .nil)) .nil) (.chk none .lenL (.cons (.bv 0) .nil) (.chk none (.bin .lss) (.cons (.inp 6) (.cons (.op .lenL (.cons (.bv 0) .nil)) .nil)) (.done [] (some (.op (.bin .lss) (.cons (.inp 6) (.cons (.op .lenL (.cons (.bv 0) .nil)) .nil)))))))))) .skip (.exit 0)) h38_12) Q env w := rfl
def h38_14 : HC := (.loop h38_13)
@[simp] theorem h38_14_wp {P : Program} {F : PF P} {Q : EX → List Value → World → Prop} {env : List Value} {w : World} : h38_14.wp F Q env w = HC.wp F (.loop h38_13) Q env w := rfl
def h38_15 : HC := (.seq (.block 0 h38_14) h38_2)
@[simp] theorem h38_15_wp {P : Program} {F : PF P} {Q : EX → List Value → World → Prop} {env : List Value} {w : World} : h38_15.wp F Q env w = HC.wp F (.seq (.block 0 h38_14) h38_2) Q env w := rfl
def h38_16 : HC := (.seq (.reg (.done [(6, (.cst (.int .i64 0)))] none)) h38_15)
@[simp] theorem h38_16_wp {P : Program} {F : PF P} {Q : EX → List Value → World → Prop} {env : List Value} {w : World} : h38_16.wp F Q env w = HC.wp F (.seq (.reg (.done [(6, (.cst (.int .i64 0)))] none)) h38_15) Q env w := rfl
def h38_17 : HC := (.seq (.reg (.done [(4, (.cst (.slice none 0 0))), (5, (.cst (.slice none 0 0)))] none)) h38_16)
@[simp] theorem h38_17_wp {P : Program} {F : PF P} {Q : EX → List Value → World → Prop} {env : List Value} {w : World} : h38_17.wp F Q env w = HC.wp F (.seq (.reg (.done [(4, (.cst (.slice none 0 0))), (5, (.cst (.slice none 0 0)))] none)) h38_16) Q env w := rfl
def h38_18 : HC := (.seq (.reg (.done [(2, (.cst (.slice none 0 0))), (3, (.cst (.int .i64 90)))] none)) .ret)
@[simp] theorem h38_18_wp {P : Program} {F : PF P} {Q : EX → List Value → World → Prop} {env : List Value} {w : World} : h38_18.wp F Q env w = HC.wp F (.seq (.reg (.done [(2, (.cst (.slice none 0 0))), (3, (.cst (.int .i64 90)))] none)) .ret) Q env w := rfl
def h38_19 : HC := (.seq (.br (.chk none .chkp (.cons (.inp 0) .nil) (.chk none (.fld 0) (.cons (.op .chkp (.cons (.inp 0) .nil)) .nil) (.eff (.ld false 1) (.cons (.op (.fld 0) (.cons (.op .chkp (.cons (.inp 0) .nil)) .nil)) .nil) (.chk none (.bin .lss) (.cons (.inp 1) (.cons (.bv 0) .nil)) (.bnd (.op (.bin .lss) (.cons (.inp 1) (.cons (.bv 0) .nil))) (.chk (some ((.bv 1), false)) (.bin .gtr) (.cons (.inp 1) (.cons (.cst (.int .i64 1099511627776)) .nil)) (.isb none (.bv 1) (.done [] (some (.ite (.bv 1) true (.cst (.bool true)) (.op (.bin .gtr) (.cons (.inp 1) (.cons (.cst (.int .i64 1099511627776)) .nil))))))))))))) h38_18 .skip) h38_17)
@[simp] theorem h38_19_wp {P : Program} {F : PF P} {Q : EX → List Value → World → Prop} {env : List Value} {w : World} : h38_19.wp F Q env w = HC.wp F (.seq (.br (.chk none .chkp (.cons (.inp 0) .nil) (.chk none (.fld 0) (.cons (.op .chkp (.cons (.inp 0) .nil)) .nil) (.eff (.ld false 1) (.cons (.op (.fld 0) (.cons (.op .chkp (.cons (.inp 0) .nil)) .nil)) .nil) (.chk none (.bin .lss) (.cons (.inp 1) (.cons (.bv 0) .nil)) (.bnd (.op (.bin .lss) (.cons (.inp 1) (.cons (.bv 0) .nil))) (.chk (some ((.bv 1), false)) (.bin .gtr) (.cons (.inp 1) (.cons (.cst (.int .i64 1099511627776)) .nil)) (.isb none (.bv 1) (.done [] (some (.ite (.bv 1) true (.cst (.bool true)) (.op (.bin .gtr) (.cons (.inp 1) (.cons (.cst (.int .i64 1099511627776)) .nil))))))))))))) h38_18 .skip) h38_17) Q env w := rfl
def h38_20 : HC := (.seq (.reg (.done [(2, (.cst (.slice none 0 0))), (3, (.cst (.int .i64 1)))] none)) .ret)
@[simp] theorem h38_20_wp {P : Program} {F : PF P} {Q : EX → List Value → World → Prop} {env : List Value} {w : World} : h38_20.wp F Q env w = HC.wp F (.seq (.reg (.done [(2, (.cst (.slice none 0 0))), (3, (.cst (.int .i64 1)))] none)) .ret) Q env w := rfl
def h38_21 : HC := (.seq (.br (.chk none (.eqNil false (.pointer 91) (.pointer none)) (.cons (.inp 0) .nil) (.done [] (some (.op (.eqNil false (.pointer 91) (.pointer none)) (.cons (.inp 0) .nil))))) h38_20 .skip) h38_19)
@[simp] theorem h38_21_wp {P : Program} {F : PF P} {Q : EX → List Value → World → Prop} {env : List Value} {w : World} : h38_21.wp F Q env w = HC.wp F (.seq (.br (.chk none (.eqNil false (.pointer 91) (.pointer none)) (.cons (.inp 0) .nil) (.done [] (some (.op (.eqNil false (.pointer 91) (.pointer none)) (.cons (.inp 0) .nil))))) h38_20 .skip) h38_19) Q env w := rfl
def l38 : Lifted := ⟨[0, 1, 4, 5, 6, 7, 8, 9, 10, 12], 90, [.slot 2, .slot 3], (.seq (.reg (.done [(2, (.cst (.slice none 0 0))), (3, (.cst (.int .i64 0)))] none)) h38_21)⟩
theorem l38_ok : liftFn U2 38 400 = some l38 := by kernel_rfl


theorem rCancel_spec (q now mv : Nat) (L : List (Int × Int)) (n : Int) (w0 w : World) (A : Asn) {K : Value → World → Prop} (hl : L.length ≤ 65536) (s : St w0 (A * rwh q now mv L) w)
    (hk : ∀ w', St w0 (A * rwh q now mv (L.filter fun x => decide (x.1 ≠ n))) w' → K (.int .i64 (if ∀ u ∈ L, u.1 ≠ n then 93 else 0)) w') :
    CallW Try.prog 37 [.pointer (some ⟨q, 0, none⟩), .int .i64 n] K w := by
  refine callW_of_lift l37_ok (by simp [l37]) ?_
  simp [l37]
  refine eff_call ((find_spec' q now mv L n w0 w A (by omega) s).mono ?_)
  rintro r w1 ⟨⟨i, rfl, hi⟩, s2⟩
  clear s
  simp
  refine cndI (fun h3 => ?_) (fun h3 => ?_)
  · simp at h3
    have hall : ∀ u ∈ L, u.1 ≠ n := fun u hu e => by
      have := hi.2 ⟨u, hu, e⟩
      omega
    simp
    simp only [if_pos hall] at hk
    refine hk w1 ?_
    rw [List.filter_eq_self.2 (fun x hx => decide_eq_true (hall x hx))]
    exact s2
  have hex : ¬ ∀ u ∈ L, u.1 ≠ n := fun hall => by
    simp at h3
    obtain ⟨x, hx, e⟩ := hi.1 (by omega)
    exact hall x hx e
  simp only [if_neg hex] at hk
  simp
  obtain ⟨v, s3⟩ := ropen s2
  have hrow := row_own s3
  obtain ⟨va, vc, rfl⟩ := hrow.val
  clear s2
  obtain ⟨B, hB⟩ : ∃ B, A * rwc q now mv (.slice va L.length vc) * routs (.slice va L.length vc) L = B := ⟨_, rfl⟩
  rw [show A * rwc q now mv (.slice va L.length vc) * own 100 2 (.slice va L.length vc) L.length (L.flatMap encT) = B from hB] at hrow s3
  have hdr : ∀ {w}, St w0 B w → w.cell? ⟨q, 1, none⟩ = some (.slice va L.length vc) := fun sw => by
    rw [← hB] at sw
    exact sw.drop.row_cells 1 _ rfl
  refine loopI (fun env w' => ∃ (i : Nat) (v : Value), env = [.pointer (some ⟨q, 0, none⟩), .int .i64 n, .int .i64 0, v, .int .i64 i] ∧ i ≤ L.length ∧ St w0 (B * routs v ((L.take i).filter fun x => decide (x.1 ≠ n))) w')
    (fun env _ => L.length - slotN env 4) ⟨0, _, rfl, by omega, s3.own_nil _ _⟩ ?_
  clear s3
  rintro LQ env w' ⟨i, v, rfl, hi', s'⟩ hN hE hR
  simp
  refine eff_ldc (hdr s'.drop) ?_
  simp
  refine cndI (fun h => ?_) (fun h => ?_)
  · have h0 := h
    simp at h0
    have hi2 : i < L.length := by omega
    obtain ⟨g, o, cap, hv, hc⟩ := hrow.at (by omega)
    cases hv
    simp
    refine eff_ldc (hdr s'.drop) ?_
    simp [h0]
    refine eff_ldc (v := .int .i64 L[i].1) (by
      have := hc _ s'.drop _ _ (flatT_at hi2 0 _ rfl)
      simpa using this) ?_
    simp
    refine cndI (fun h2 => ?_) (fun h2 => ?_)
    · have hne : L[i].1 ≠ n := by
        simp at h2
        exact h2
      obtain ⟨M, hM⟩ : ∃ M, (L.take i).filter (fun x => decide (x.1 ≠ n)) = M := ⟨_, rfl⟩
      have hMl : M.length ≤ 65536 := by
        rw [← hM]
        refine Nat.le_trans (List.length_filter_le _ _) ?_
        rw [List.length_take]; omega
      have eM : (L.take (i + 1)).filter (fun x => decide (x.1 ≠ n)) = M ++ [L[i]] := by
        rw [List.take_succ_eq_append_getElem hi2, List.filter_append, hM]
        simp [hne]
      rw [hM] at s'
      simp
      refine eff_ldc (hdr s'.drop) ?_
      simp [h0]
      refine eff_ldcs (vs := encT L[i]) (fun k u hu => by rw [Nat.add_assoc]; exact hc _ s'.drop _ _ (flatT_at hi2 k u hu)) rfl ?_
      simp
      refine eff_bslV s' rfl ?_
      intro c w4 s6
      simp
      refine eff_app (m := 1) (news := encT L[i]) s6.swap rfl s6.cells_look (encT_one _) (by decide) rfl (by unfold maxLen; omega) (by omega) ?_
      intro v2 w5 s7
      rw [routs_app] at s7
      simp
      try simp (disch := omega) only [wrap64]
      refine hN _ _ ⟨i + 1, v2, by simp, by omega, ?_⟩ (by simp [slotN]; omega)
      rw [eM]
      exact St.cut (pt c (.cells (encT L[i]).toArray 100 (0, 0))) s7 (by ac_rfl)
    · have hne : L[i].1 = n := by
        simp at h2
        exact h2
      simp
      try simp (disch := omega) only [wrap64]
      refine hN _ _ ⟨i + 1, v, by simp, by omega, ?_⟩ (by simp [slotN]; omega)
      rw [List.take_succ_eq_append_getElem hi2, List.filter_append]
      simpa [hne] using s'
  · have : i = L.length := by
      simp at h
      omega
    simp
    refine hE _ _ _ ?_
    simp
    rw [List.take_of_length_le (by omega)] at s'
    obtain ⟨M, hM⟩ : ∃ M, L.filter (fun x => decide (x.1 ≠ n)) = M := ⟨_, rfl⟩
    rw [hM] at s' hk
    rw [← hB] at s'
    have s9 := s'.to (B := A * routs (.slice va L.length vc) L * routs v M * rwc q now mv (.slice va L.length vc)) (by ac_rfl)
    obtain ⟨wa, wc', rfl, _⟩ := s'.own_val
    refine eff_st1 s9 rfl (by simp) ?_
    intro w6 s10
    simp
    refine hk w6 ?_
    refine rclose (v := .slice wa M.length wc') ?_
    refine St.cut (routs (.slice va L.length vc) L) (s10.to (B := A * routs (.slice va L.length vc) L * routs (.slice wa M.length wc') M * rwc q now mv (.slice wa M.length wc')) ?_) (by ac_rfl)
    rfl
def mvP (now to : Nat) (x : Int × Int) : Bool := decide ((to : Int) < x.2) && decide ((lvF x.2.toNat to).1 ≠ (lvF x.2.toNat now).1)
set_option maxHeartbeats 2000000 in
theorem rAdvance_spec (q now mv : Nat) (L : List (Int × Int)) (to : Int) (w0 w : World) (A : Asn) {K : Value → World → Prop} (hl : L.length ≤ 65536) (hL : ∀ x ∈ L, 0 ≤ x.2 ∧ x.2 ≤ 1099511627776) (hnow : now ≤ 1099511627776) (hmv : mv ≤ 2305843009213693952) (s : St w0 (A * rwh q now mv L) w)
    (hk : ∀ r w', (if now ≤ to ∧ to ≤ 1099511627776 then ∃ v, r = .tuple #[v, .int .i64 0] ∧ St w0 (A * rwh q to.toNat (mv + (L.filter (mvP now to.toNat)).length) (L.filter fun x => decide ((to.toNat : Int) < x.2)) * routs v (L.filter fun x => decide (x.2 ≤ (to.toNat : Int)))) w' else r = .tuple #[.slice none 0 0, .int .i64 90] ∧ St w0 (A * rwh q now mv L) w') → K r w') :
    CallW Try.prog 38 [.pointer (some ⟨q, 0, none⟩), .int .i64 to] K w := by
  refine callW_of_lift l38_ok (by simp [l38]) ?_
  simp [l38]
  obtain ⟨v, s1⟩ := ropen s
  refine eff_ldc (v := .int .i64 now) (s1.drop.row_cells 0 _ rfl) ?_
  simp
  refine cndI (fun h => ?_) (fun h => ?_)
  · simp at h
    simp
    refine hk _ _ ?_
    rw [if_neg (by omega)]
    exact ⟨rfl, s⟩
  have hb : (now : Int) ≤ to ∧ to ≤ 1099511627776 := by
    simp at h
    omega
  obtain ⟨to, rfl⟩ : ∃ a : Nat, to = a := ⟨to.toNat, by omega⟩
  simp only [if_pos hb, Int.toNat_natCast] at hk
  clear s h
  simp
  have hrow0 := row_own s1
  obtain ⟨va, vc, rfl⟩ := hrow0.val
  obtain ⟨B, hB⟩ : ∃ B, A * routs (.slice va L.length vc) L = B := ⟨_, rfl⟩
  have s2 : St w0 (B * rwc q now mv (.slice va L.length vc)) w := by rw [← hB]; exact s1.to (by ac_rfl)
  have hrow : Row w0 B (.slice va L.length vc) L.length 2 (L.flatMap encT) := by
    rw [← hB]
    have := s2.drop
    rw [← hB] at this
    exact row_own this
  clear s1 hrow0
  have s3 : St w0 (B * rwc q now (mv + 0) (.slice va L.length vc) * routs (.slice none 0 0) [] * routs (.slice none 0 0) []) w := (s2.own_nil _ _).own_nil _ _
  clear s2
  refine loopI (fun env w' => ∃ (i : Nat) (v1 v2 x7 x8 x9 : Value), env = [.pointer (some ⟨q, 0, none⟩), .int .i64 to, .slice none 0 0, .int .i64 0, v1, v2, .int .i64 i, x7, x8, x9] ∧ i ≤ L.length ∧
      St w0 (B * rwc q now (mv + ((L.take i).filter (mvP now to)).length) (.slice va L.length vc) * routs v1 ((L.take i).filter fun x => decide (x.2 ≤ (to : Int))) * routs v2 ((L.take i).filter fun x => decide ((to : Int) < x.2))) w')
    (fun env _ => L.length - slotN env 6) ⟨0, _, _, _, _, _, rfl, by omega, s3⟩ ?_
  clear s3
  rintro LQ env w' ⟨i, v1, v2, x7, x8, x9, rfl, hi', s'⟩ hN hE hR
  obtain ⟨m, hm⟩ : ∃ m, ((L.take i).filter (mvP now to)).length = m := ⟨_, rfl⟩
  obtain ⟨D, hD⟩ : ∃ D, (L.take i).filter (fun x => decide (x.2 ≤ (to : Int))) = D := ⟨_, rfl⟩
  obtain ⟨R, hR'⟩ : ∃ R, (L.take i).filter (fun x => decide ((to : Int) < x.2)) = R := ⟨_, rfl⟩
  have hlt : (L.take i).length ≤ 65536 := by rw [List.length_take]; omega
  have hml : m ≤ 65536 := hm ▸ Nat.le_trans (List.length_filter_le _ _) hlt
  have hDl : D.length ≤ 65536 := hD ▸ Nat.le_trans (List.length_filter_le _ _) hlt
  have hRl : R.length ≤ 65536 := hR' ▸ Nat.le_trans (List.length_filter_le _ _) hlt
  rw [hm, hD, hR'] at s'
  have hdr : ∀ {w F m}, St w0 (B * rwc q now m (.slice va L.length vc) * F) w → w.cell? ⟨q, 1, none⟩ = some (.slice va L.length vc) := fun sw => sw.drop.row_cells 1 _ rfl
  simp
  refine eff_ldc (hdr (s'.to (by rw [sep_assoc]))) ?_
  simp
  refine cndI (fun h => ?_) (fun h => ?_)
  · have h0 := h
    simp at h0
    have hi2 : i < L.length := by omega
    obtain ⟨g, o, cap, hv, hc⟩ := hrow.at (by omega)
    cases hv
    obtain ⟨hx1, hx2⟩ := hL _ (List.getElem_mem hi2)
    obtain ⟨tn, ta⟩ : ∃ t : Int × Int, L[i] = t := ⟨_, rfl⟩
    obtain ⟨t, ht⟩ : ∃ t, L[i] = t := ⟨_, rfl⟩
    rw [ht] at hx1 hx2
    obtain ⟨a, hta⟩ := Int.eq_ofNat_of_zero_le hx1
    simp
    refine eff_ldc (hdr (s'.to (by rw [sep_assoc]))) ?_
    simp [h0]
    refine eff_ldcs (vs := encT t) (fun k u hu => by rw [Nat.add_assoc]; exact hc _ (s'.drop.drop.drop) _ _ (flatT_at hi2 k u (by rw [ht]; exact hu))) rfl ?_
    simp
    refine eff_new s' ?_
    intro b w2 s4
    simp
    refine eff_stA (vs := encT t) s4 rfl rfl (encT_one _) (by simp) ?_
    intro w3 s5
    have s5 : St w0 (B * rwc q now (mv + m) (.slice (some ⟨g, o, none⟩) L.length vc) * routs v1 D * routs v2 R * tmA2 b t) w3 := by simpa using s5
    clear s4 s'
    simp
    refine eff_ldc (v := .int .i64 t.2) (s5.row_cells 1 _ rfl) ?_
    simp
    refine cndI (fun h2 => ?_) (fun h2 => ?_)
    · have hle : t.2 ≤ to := by
        simp at h2
        exact h2
      simp
      refine eff_ldcs (vs := encT t) (fun k u hu => s5.row_cells k u hu) rfl ?_
      simp
      refine eff_bslV s5 rfl ?_
      intro c w4 s6
      simp
      refine eff_app (m := 1) (news := encT t) (s6.to (B := B * rwc q now (mv + m) (.slice (some ⟨g, o, none⟩) L.length vc) * routs v2 R * tmA2 b t * pt c (.cells (encT t).toArray 100 (0, 0)) * routs v1 D) (by ac_rfl)) rfl s6.cells_look (encT_one _) (by decide) rfl (by unfold maxLen; omega) (by omega) ?_
      intro v1' w5 s7
      rw [routs_app] at s7
      simp
      try simp (disch := omega) only [wrap64]
      refine hN _ _ ⟨i + 1, v1', v2, _, _, _, by simp; exact ⟨rfl, rfl, rfl⟩, by omega, ?_⟩ (by simp [slotN]; omega)
      have e1 : (L.take (i + 1)).filter (mvP now to) = (L.take i).filter (mvP now to) := by
        rw [List.take_succ_eq_append_getElem hi2, List.filter_append, ht]
        have : mvP now to t = false := by
          unfold mvP
          rw [decide_eq_false (by omega), Bool.false_and]
        simp [this]
      have e2 : (L.take (i + 1)).filter (fun x => decide (x.2 ≤ (to : Int))) = D ++ [t] := by
        rw [List.take_succ_eq_append_getElem hi2, List.filter_append, ht, hD]
        simp [hle]
      have e3 : (L.take (i + 1)).filter (fun x => decide ((to : Int) < x.2)) = R := by
        rw [List.take_succ_eq_append_getElem hi2, List.filter_append, ht, hR']
        simp [show ¬ (to : Int) < t.2 by omega]
      rw [e1, e2, e3, hm]
      exact St.cut (tmA2 b t * pt c (.cells (encT t).toArray 100 (0, 0))) s7 (by ac_rfl)
    · have hgt : (to : Int) < t.2 := by
        simp at h2
        omega
      simp
      refine eff_ldcs (vs := encT t) (fun k u hu => s5.row_cells k u hu) rfl ?_
      simp
      refine eff_bslV s5 rfl ?_
      intro c w4 s6
      simp
      refine eff_app (m := 1) (news := encT t) (s6.to (B := B * rwc q now (mv + m) (.slice (some ⟨g, o, none⟩) L.length vc) * routs v1 D * tmA2 b t * pt c (.cells (encT t).toArray 100 (0, 0)) * routs v2 R) (by ac_rfl)) rfl s6.cells_look (encT_one _) (by decide) rfl (by unfold maxLen; omega) (by omega) ?_
      intro v2' w5 s7
      rw [routs_app] at s7
      simp
      have e2 : (L.take (i + 1)).filter (fun x => decide (x.2 ≤ (to : Int))) = D := by
        rw [List.take_succ_eq_append_getElem hi2, List.filter_append, ht, hD]
        simp [show ¬ t.2 ≤ (to : Int) by omega]
      have e3 : (L.take (i + 1)).filter (fun x => decide ((to : Int) < x.2)) = R ++ [t] := by
        rw [List.take_succ_eq_append_getElem hi2, List.filter_append, ht, hR']
        simp [hgt]
      have s8 : St w0 (B * routs v1 D * routs v2' (R ++ [t]) * tmA2 b t * rwc q now (mv + m) (.slice (some ⟨g, o, none⟩) L.length vc)) w5 := St.cut (pt c (.cells (encT t).toArray 100 (0, 0))) s7 (by ac_rfl)
      clear s5 s6 s7
      refine regmI (oneO2 (St w0 (B * routs v1 D * routs v2' (R ++ [t]) * tmA2 b t * rwc q now (mv + m) (.slice (some ⟨g, o, none⟩) L.length vc))) (fun r => r = .tuple #[.int .i64 (lvF a now).1, .int .i64 (lvF a now).2])) s8.drew ?_
      simp
      refine effm_ldc (v := .int .i64 a) (fun vs' w he hw => ?_) ?_
      · match vs', hw with
        | [], hw => rw [← hta]; exact (St.drop hw).row_cells 1 _ rfl
        | [_], hw => simp [era] at he
      simp
      refine effm_ldc (v := .int .i64 now) (fun vs' w he hw => ?_) ?_
      · match vs', hw with
        | [], hw => exact (show St w0 _ w from hw).row_cells 0 _ rfl
        | [_], hw => simp [era] at he
      simp
      refine effm_mv rfl (fun w hw => eff_call ((Lies_spec a now w0 w _ (by omega) (by omega) hw).mono fun r w' h => h)) (fun r hr => ?_)
      obtain ⟨_, hr, _⟩ := hr
      have hr : r = .tuple #[.int .i64 (lvF a now).1, .int .i64 (lvF a now).2] := hr
      subst hr
      simp
      intro w6 s9
      have s9 : St w0 (B * routs v1 D * routs v2' (R ++ [t]) * tmA2 b t * rwc q now (mv + m) (.slice (some ⟨g, o, none⟩) L.length vc)) w6 := s9.2
      refine eff_ldc (v := .int .i64 a) (by rw [← hta]; exact s9.drop.row_cells 1 _ rfl) ?_
      simp
      refine eff_call ((Lies_spec a to w0 w6 _ (by omega) (by omega) s9).mono ?_)
      rintro r w7 ⟨rfl, s10⟩
      simp
      have emv : mvP now to t = decide ((lvF a to).1 ≠ (lvF a now).1) := by
        unfold mvP
        rw [decide_eq_true hgt, hta, Int.toNat_natCast, Bool.true_and]
      refine cndI (fun h3 => ?_) (fun h3 => ?_)
      · have hne : (lvF a to).1 ≠ (lvF a now).1 := by
          simp at h3
          omega
        simp
        refine eff_ldc (v := .int .i64 (mv + m : Nat)) (s10.row_cells 2 _ rfl) ?_
        simp
        try simp (disch := omega) only [wrap64]
        refine eff_st1 s10 rfl (by simp) ?_
        intro w8 s11
        simp
        try simp (disch := omega) only [wrap64]
        refine hN _ _ ⟨i + 1, v1, v2', _, _, _, by simp; exact ⟨rfl, rfl, rfl⟩, by omega, ?_⟩ (by simp [slotN]; omega)
        have e1 : ((L.take (i + 1)).filter (mvP now to)).length = m + 1 := by
          rw [List.take_succ_eq_append_getElem hi2, List.filter_append, ht, List.length_append, hm]
          simp [emv, hne]
        rw [e1, e2, e3]
        refine St.cut (tmA2 b t) (s11.to (B := B * routs v1 D * routs v2' (R ++ [t]) * tmA2 b t * rwc q now (mv + (m + 1)) (.slice (some ⟨g, o, none⟩) L.length vc)) ?_) (by ac_rfl)
        have : ((mv : Int) + (m : Int) + 1) = ((mv + (m + 1) : Nat) : Int) := by omega
        simp
        rw [this]
      · have hne : ¬ (lvF a to).1 ≠ (lvF a now).1 := by
          simp at h3
          omega
        simp
        try simp (disch := omega) only [wrap64]
        refine hN _ _ ⟨i + 1, v1, v2', _, _, _, by simp; exact ⟨rfl, rfl, rfl⟩, by omega, ?_⟩ (by simp [slotN]; omega)
        have e1 : ((L.take (i + 1)).filter (mvP now to)).length = m := by
          rw [List.take_succ_eq_append_getElem hi2, List.filter_append, ht, List.length_append, hm]
          have : mvP now to t = false := by rw [emv]; exact decide_eq_false hne
          simp [this]
        rw [e1, e2, e3]
        exact St.cut (tmA2 b t) s10 (by ac_rfl)
  · have : i = L.length := by
      simp at h
      omega
    simp
    refine hE _ _ _ ?_
    simp
    rw [List.take_of_length_le (by omega)] at hm hD hR'
    rw [hm, hD, hR'] at hk
    have s9 := s'.to (B := B * routs v1 D * routs v2 R * rwc q now (mv + m) (.slice va L.length vc)) (by ac_rfl)
    obtain ⟨wa, wc', rfl, _⟩ := s'.own_val
    refine eff_st1 s9 rfl (by simp) ?_
    intro w6 s10
    simp
    refine eff_st1 s10 rfl (by simp) ?_
    intro w7 s11
    simp
    refine hk _ _ ⟨v1, rfl, ?_⟩
    have s12 : St w0 (A * routs v1 D * rwc q to (mv + m) (.slice wa R.length wc') * routs (.slice wa R.length wc') R) w7 := by
      refine St.cut (routs (.slice va L.length vc) L) (s11.to (B := A * routs (.slice va L.length vc) L * routs v1 D * routs (.slice wa R.length wc') R * rwc q to (mv + m) (.slice wa R.length wc')) ?_) (by ac_rfl)
      rw [hB, show rwc q to (mv + m) (.slice wa R.length wc') = pt q (.cells #[.int .i64 (to : Int), .slice wa R.length wc', .int .i64 ((mv : Int) + (m : Int))] 91 (0, 0)) by show pt _ _ = _; rw [show (((mv + m : Nat)) : Int) = (mv : Int) + m by omega]]
      simp
    exact (rclose s12).swap
end Go.HL.Wh

namespace Go.HL.Wh
open Go.HL Go.Proofs
set_option maxRecDepth 4000
set_option linter.unusedSimpArgs false
set_option linter.unusedVariables false
-- (*bazaar/bazaarref09.Wheel).Load
def h41_0 : HC := (.seq (.reg (.done [(2, (.inp 3))] none)) .ret)
@[simp] theorem h41_0_wp {P : Program} {F : PF P} {Q : EX → List Value → World → Prop} {env : List Value} {w : World} : h41_0.wp F Q env w = HC.wp F (.seq (.reg (.done [(2, (.inp 3))] none)) .ret) Q env w := rfl
def h41_1 : HC := (.reg (.chk none (.bin .add) (.cons (.inp 4) (.cons (.cst (.int .i64 1)) .nil)) (.done [(4, (.op (.bin .add) (.cons (.inp 4) (.cons (.cst (.int .i64 1)) .nil))))] none)))
@[simp] theorem h41_1_wp {P : Program} {F : PF P} {Q : EX → List Value → World → Prop} {env : List Value} {w : World} : h41_1.wp F Q env w = HC.wp F (.reg (.chk none (.bin .add) (.cons (.inp 4) (.cons (.cst (.int .i64 1)) .nil)) (.done [(4, (.op (.bin .add) (.cons (.inp 4) (.cons (.cst (.int .i64 1)) .nil))))] none))) Q env w := rfl
def h41_2 : HC := (.reg (.chk none (.idxL 1) (.cons (.inp 3) (.cons (.inp 6) .nil)) (.eff (.ld false 1) (.cons (.op (.idxL 1) (.cons (.inp 3) (.cons (.inp 6) .nil))) .nil) (.chk none (.bin .add) (.cons (.bv 0) (.cons (.cst (.int .i64 1)) .nil)) (.chk none (.idxL 1) (.cons (.inp 3) (.cons (.inp 6) .nil)) (.eff (.st 1) (.cons (.op (.idxL 1) (.cons (.inp 3) (.cons (.inp 6) .nil))) (.cons (.op (.bin .add) (.cons (.bv 0) (.cons (.cst (.int .i64 1)) .nil))) .nil)) (.done [] none)))))))
@[simp] theorem h41_2_wp {P : Program} {F : PF P} {Q : EX → List Value → World → Prop} {env : List Value} {w : World} : h41_2.wp F Q env w = HC.wp F (.reg (.chk none (.idxL 1) (.cons (.inp 3) (.cons (.inp 6) .nil)) (.eff (.ld false 1) (.cons (.op (.idxL 1) (.cons (.inp 3) (.cons (.inp 6) .nil))) .nil) (.chk none (.bin .add) (.cons (.bv 0) (.cons (.cst (.int .i64 1)) .nil)) (.chk none (.idxL 1) (.cons (.inp 3) (.cons (.inp 6) .nil)) (.eff (.st 1) (.cons (.op (.idxL 1) (.cons (.inp 3) (.cons (.inp 6) .nil))) (.cons (.op (.bin .add) (.cons (.bv 0) (.cons (.cst (.int .i64 1)) .nil))) .nil)) (.done [] none))))))) Q env w := rfl
def h41_3 : HC := (.br (.chk none (.bin .eql) (.cons (.inp 5) (.cons (.inp 1) .nil)) (.done [] (some (.op (.bin .eql) (.cons (.inp 5) (.cons (.inp 1) .nil)))))) h41_2 .skip)
@[simp] theorem h41_3_wp {P : Program} {F : PF P} {Q : EX → List Value → World → Prop} {env : List Value} {w : World} : h41_3.wp F Q env w = HC.wp F (.br (.chk none (.bin .eql) (.cons (.inp 5) (.cons (.inp 1) .nil)) (.done [] (some (.op (.bin .eql) (.cons (.inp 5) (.cons (.inp 1) .nil)))))) h41_2 .skip) Q env w := rfl
def h41_4 : HC := (.seq (.regq (some 1) (.chk none .chkp (.cons (.inp 0) .nil) (.chk none (.fld 1) (.cons (.op .chkp (.cons (.inp 0) .nil)) .nil) (.eff (.ld false 1) (.cons (.op (.fld 1) (.cons (.op .chkp (.cons (.inp 0) .nil)) .nil)) .nil) (.chk none (.idxL 2) (.cons (.bv 0) (.cons (.inp 4) .nil)) (.chk none (.fld 1) (.cons (.op (.idxL 2) (.cons (.bv 0) (.cons (.inp 4) .nil))) .nil) (.eff (.ld false 1) (.cons (.op (.fld 1) (.cons (.op (.idxL 2) (.cons (.bv 0) (.cons (.inp 4) .nil))) .nil)) .nil) (.chk none .chkp (.cons (.inp 0) .nil) (.chk none (.fld 0) (.cons (.op .chkp (.cons (.inp 0) .nil)) .nil) (.eff (.ld false 1) (.cons (.op (.fld 0) (.cons (.op .chkp (.cons (.inp 0) .nil)) .nil)) .nil) (.eff (.call 44) (.cons (.bv 1) (.cons (.bv 2) .nil)) (.chk none (.ext 0) (.cons (.bv 3) .nil) (.chk none (.ext 1) (.cons (.bv 3) .nil) (.done [(5, (.op (.ext 0) (.cons (.bv 3) .nil))), (6, (.op (.ext 1) (.cons (.bv 3) .nil)))] none)))))))))))))) h41_3)
@[simp] theorem h41_4_wp {P : Program} {F : PF P} {Q : EX → List Value → World → Prop} {env : List Value} {w : World} : h41_4.wp F Q env w = HC.wp F (.seq (.regq (some 1) (.chk none .chkp (.cons (.inp 0) .nil) (.chk none (.fld 1) (.cons (.op .chkp (.cons (.inp 0) .nil)) .nil) (.eff (.ld false 1) (.cons (.op (.fld 1) (.cons (.op .chkp (.cons (.inp 0) .nil)) .nil)) .nil) (.chk none (.idxL 2) (.cons (.bv 0) (.cons (.inp 4) .nil)) (.chk none (.fld 1) (.cons (.op (.idxL 2) (.cons (.bv 0) (.cons (.inp 4) .nil))) .nil) (.eff (.ld false 1) (.cons (.op (.fld 1) (.cons (.op (.idxL 2) (.cons (.bv 0) (.cons (.inp 4) .nil))) .nil)) .nil) (.chk none .chkp (.cons (.inp 0) .nil) (.chk none (.fld 0) (.cons (.op .chkp (.cons (.inp 0) .nil)) .nil) (.eff (.ld false 1) (.cons (.op (.fld 0) (.cons (.op .chkp (.cons (.inp 0) .nil)) .nil)) .nil) (.eff (.call 44) (.cons (.bv 1) (.cons (.bv 2) .nil)) (.chk none (.ext 0) (.cons (.bv 3) .nil) (.chk none (.ext 1) (.cons (.bv 3) .nil) (.done [(5, (.op (.ext 0) (.cons (.bv 3) .nil))), (6, (.op (.ext 1) (.cons (.bv 3) .nil)))] none)))))))))))))) h41_3) Q env w := rfl
def h41_5 : HC := (.seq (.block 1 h41_4) h41_1)
@[simp] theorem h41_5_wp {P : Program} {F : PF P} {Q : EX → List Value → World → Prop} {env : List Value} {w : World} : h41_5.wp F Q env w = HC.wp F (.seq (.block 1 h41_4) h41_1) Q env w := rfl
def h41_6 : HC := (.seq (.br (.chk none .chkp (.cons (.inp 0) .nil) (.chk none (.fld 1) (.cons (.op .chkp (.cons (.inp 0) .nil)) .nil) (.eff (.ld false 1) (.cons (.op (.fld 1) (.cons (.op .chkp (.cons (.inp 0) .nil)) .nil)) .nil) (.chk none .lenL (.cons (.bv 0) .nil) (.chk none (.bin .lss) (.cons (.inp 4) (.cons (.op .lenL (.cons (.bv 0) .nil)) .nil)) (.done [] (some (.op (.bin .lss) (.cons (.inp 4) (.cons (.op .lenL (.cons (.bv 0) .nil)) .nil)))))))))) .skip (.exit 0)) h41_5)
@[simp] theorem h41_6_wp {P : Program} {F : PF P} {Q : EX → List Value → World → Prop} {env : List Value} {w : World} : h41_6.wp F Q env w = HC.wp F (.seq (.br (.chk none .chkp (.cons (.inp 0) .nil) (.chk none (.fld 1) (.cons (.op .chkp (.cons (.inp 0) .nil)) .nil) (.eff (.ld false 1) (.cons (.op (.fld 1) (.cons (.op .chkp (.cons (.inp 0) .nil)) .nil)) .nil) (.chk none .lenL (.cons (.bv 0) .nil) (.chk none (.bin .lss) (.cons (.inp 4) (.cons (.op .lenL (.cons (.bv 0) .nil)) .nil)) (.done [] (some (.op (.bin .lss) (.cons (.inp 4) (.cons (.op .lenL (.cons (.bv 0) .nil)) .nil)))))))))) .skip (.exit 0)) h41_5) Q env w := rfl
def h41_7 : HC := (.loop h41_6)
@[simp] theorem h41_7_wp {P : Program} {F : PF P} {Q : EX → List Value → World → Prop} {env : List Value} {w : World} : h41_7.wp F Q env w = HC.wp F (.loop h41_6) Q env w := rfl
def h41_8 : HC := (.seq (.block 0 h41_7) h41_0)
@[simp] theorem h41_8_wp {P : Program} {F : PF P} {Q : EX → List Value → World → Prop} {env : List Value} {w : World} : h41_8.wp F Q env w = HC.wp F (.seq (.block 0 h41_7) h41_0) Q env w := rfl
def h41_9 : HC := (.seq (.reg (.done [(4, (.cst (.int .i64 0)))] none)) h41_8)
@[simp] theorem h41_9_wp {P : Program} {F : PF P} {Q : EX → List Value → World → Prop} {env : List Value} {w : World} : h41_9.wp F Q env w = HC.wp F (.seq (.reg (.done [(4, (.cst (.int .i64 0)))] none)) h41_8) Q env w := rfl
def h41_10 : HC := (.reg (.eff (.mks 47 3 1 8 (.int .i64 0)) (.cons (.cst (.int .i64 1)) (.cons (.cst (.int .i64 1)) .nil)) (.done [(3, (.bv 0))] none)))
@[simp] theorem h41_10_wp {P : Program} {F : PF P} {Q : EX → List Value → World → Prop} {env : List Value} {w : World} : h41_10.wp F Q env w = HC.wp F (.reg (.eff (.mks 47 3 1 8 (.int .i64 0)) (.cons (.cst (.int .i64 1)) (.cons (.cst (.int .i64 1)) .nil)) (.done [(3, (.bv 0))] none))) Q env w := rfl
def h41_11 : HC := (.seq (.br (.chk none (.bin .eql) (.cons (.inp 1) (.cons (.cst (.int .i64 4)) .nil)) (.done [] (some (.op (.bin .eql) (.cons (.inp 1) (.cons (.cst (.int .i64 4)) .nil)))))) h41_10 .skip) h41_9)
@[simp] theorem h41_11_wp {P : Program} {F : PF P} {Q : EX → List Value → World → Prop} {env : List Value} {w : World} : h41_11.wp F Q env w = HC.wp F (.seq (.br (.chk none (.bin .eql) (.cons (.inp 1) (.cons (.cst (.int .i64 4)) .nil)) (.done [] (some (.op (.bin .eql) (.cons (.inp 1) (.cons (.cst (.int .i64 4)) .nil)))))) h41_10 .skip) h41_9) Q env w := rfl
def h41_12 : HC := (.seq (.reg (.eff (.mks 47 3 1 8 (.int .i64 0)) (.cons (.cst (.int .i64 64)) (.cons (.cst (.int .i64 64)) .nil)) (.done [(3, (.bv 0))] none))) h41_11)
@[simp] theorem h41_12_wp {P : Program} {F : PF P} {Q : EX → List Value → World → Prop} {env : List Value} {w : World} : h41_12.wp F Q env w = HC.wp F (.seq (.reg (.eff (.mks 47 3 1 8 (.int .i64 0)) (.cons (.cst (.int .i64 64)) (.cons (.cst (.int .i64 64)) .nil)) (.done [(3, (.bv 0))] none))) h41_11) Q env w := rfl
def h41_13 : HC := (.seq (.reg (.done [(2, (.cst (.slice none 0 0)))] none)) .ret)
@[simp] theorem h41_13_wp {P : Program} {F : PF P} {Q : EX → List Value → World → Prop} {env : List Value} {w : World} : h41_13.wp F Q env w = HC.wp F (.seq (.reg (.done [(2, (.cst (.slice none 0 0)))] none)) .ret) Q env w := rfl
def h41_14 : HC := (.seq (.br (.chk none (.eqNil false (.pointer 91) (.pointer none)) (.cons (.inp 0) .nil) (.bnd (.op (.eqNil false (.pointer 91) (.pointer none)) (.cons (.inp 0) .nil)) (.chk (some ((.bv 0), false)) (.bin .lss) (.cons (.inp 1) (.cons (.cst (.int .i64 0)) .nil)) (.isb none (.bv 0) (.bnd (.ite (.bv 0) true (.cst (.bool true)) (.op (.bin .lss) (.cons (.inp 1) (.cons (.cst (.int .i64 0)) .nil)))) (.chk (some ((.bv 1), false)) (.bin .gtr) (.cons (.inp 1) (.cons (.cst (.int .i64 4)) .nil)) (.isb none (.bv 1) (.done [] (some (.ite (.bv 1) true (.cst (.bool true)) (.op (.bin .gtr) (.cons (.inp 1) (.cons (.cst (.int .i64 4)) .nil))))))))))))) h41_13 .skip) h41_12)
@[simp] theorem h41_14_wp {P : Program} {F : PF P} {Q : EX → List Value → World → Prop} {env : List Value} {w : World} : h41_14.wp F Q env w = HC.wp F (.seq (.br (.chk none (.eqNil false (.pointer 91) (.pointer none)) (.cons (.inp 0) .nil) (.bnd (.op (.eqNil false (.pointer 91) (.pointer none)) (.cons (.inp 0) .nil)) (.chk (some ((.bv 0), false)) (.bin .lss) (.cons (.inp 1) (.cons (.cst (.int .i64 0)) .nil)) (.isb none (.bv 0) (.bnd (.ite (.bv 0) true (.cst (.bool true)) (.op (.bin .lss) (.cons (.inp 1) (.cons (.cst (.int .i64 0)) .nil)))) (.chk (some ((.bv 1), false)) (.bin .gtr) (.cons (.inp 1) (.cons (.cst (.int .i64 4)) .nil)) (.isb none (.bv 1) (.done [] (some (.ite (.bv 1) true (.cst (.bool true)) (.op (.bin .gtr) (.cons (.inp 1) (.cons (.cst (.int .i64 4)) .nil))))))))))))) h41_13 .skip) h41_12) Q env w := rfl
def l41 : Lifted := ⟨[0, 1, 4, 5, 6, 7, 8], 58, [.slot 2], (.seq (.reg (.done [(2, (.cst (.slice none 0 0)))] none)) h41_14)⟩
theorem l41_ok : liftFn U2 41 400 = some l41 := by kernel_rfl

-- bazaar/bazaarref09.From
def h52_0 : HC := (.seq (.reg (.done [(2, (.inp 4)), (3, (.cst (.int .i64 0)))] none)) .ret)
@[simp] theorem h52_0_wp {P : Program} {F : PF P} {Q : EX → List Value → World → Prop} {env : List Value} {w : World} : h52_0.wp F Q env w = HC.wp F (.seq (.reg (.done [(2, (.inp 4)), (3, (.cst (.int .i64 0)))] none)) .ret) Q env w := rfl
def h52_1 : HC := (.seq (.reg (.done [(2, (.cst (.pointer none))), (3, (.inp 5))] none)) .ret)
@[simp] theorem h52_1_wp {P : Program} {F : PF P} {Q : EX → List Value → World → Prop} {env : List Value} {w : World} : h52_1.wp F Q env w = HC.wp F (.seq (.reg (.done [(2, (.cst (.pointer none))), (3, (.inp 5))] none)) .ret) Q env w := rfl
def h52_2 : HC := (.seq (.br (.chk none (.bin .neq) (.cons (.inp 5) (.cons (.cst (.int .i64 0)) .nil)) (.done [] (some (.op (.bin .neq) (.cons (.inp 5) (.cons (.cst (.int .i64 0)) .nil)))))) h52_1 .skip) h52_0)
@[simp] theorem h52_2_wp {P : Program} {F : PF P} {Q : EX → List Value → World → Prop} {env : List Value} {w : World} : h52_2.wp F Q env w = HC.wp F (.seq (.br (.chk none (.bin .neq) (.cons (.inp 5) (.cons (.cst (.int .i64 0)) .nil)) (.done [] (some (.op (.bin .neq) (.cons (.inp 5) (.cons (.cst (.int .i64 0)) .nil)))))) h52_1 .skip) h52_0) Q env w := rfl
def h52_3 : HC := (.reg (.chk none (.bin .add) (.cons (.inp 6) (.cons (.cst (.int .i64 1)) .nil)) (.done [(6, (.op (.bin .add) (.cons (.inp 6) (.cons (.cst (.int .i64 1)) .nil))))] none)))
@[simp] theorem h52_3_wp {P : Program} {F : PF P} {Q : EX → List Value → World → Prop} {env : List Value} {w : World} : h52_3.wp F Q env w = HC.wp F (.reg (.chk none (.bin .add) (.cons (.inp 6) (.cons (.cst (.int .i64 1)) .nil)) (.done [(6, (.op (.bin .add) (.cons (.inp 6) (.cons (.cst (.int .i64 1)) .nil))))] none))) Q env w := rfl
def h52_4 : HC := (.regq (some 1) (.chk none (.idxL 2) (.cons (.inp 1) (.cons (.inp 6) .nil)) (.chk none (.fld 0) (.cons (.op (.idxL 2) (.cons (.inp 1) (.cons (.inp 6) .nil))) .nil) (.eff (.ld false 1) (.cons (.op (.fld 0) (.cons (.op (.idxL 2) (.cons (.inp 1) (.cons (.inp 6) .nil))) .nil)) .nil) (.chk none (.idxL 2) (.cons (.inp 1) (.cons (.inp 6) .nil)) (.chk none (.fld 1) (.cons (.op (.idxL 2) (.cons (.inp 1) (.cons (.inp 6) .nil))) .nil) (.eff (.ld false 1) (.cons (.op (.fld 1) (.cons (.op (.idxL 2) (.cons (.inp 1) (.cons (.inp 6) .nil))) .nil)) .nil) (.eff (.call 36) (.cons (.inp 4) (.cons (.bv 0) (.cons (.bv 1) .nil))) (.done [(5, (.bv 2))] none)))))))))
@[simp] theorem h52_4_wp {P : Program} {F : PF P} {Q : EX → List Value → World → Prop} {env : List Value} {w : World} : h52_4.wp F Q env w = HC.wp F (.regq (some 1) (.chk none (.idxL 2) (.cons (.inp 1) (.cons (.inp 6) .nil)) (.chk none (.fld 0) (.cons (.op (.idxL 2) (.cons (.inp 1) (.cons (.inp 6) .nil))) .nil) (.eff (.ld false 1) (.cons (.op (.fld 0) (.cons (.op (.idxL 2) (.cons (.inp 1) (.cons (.inp 6) .nil))) .nil)) .nil) (.chk none (.idxL 2) (.cons (.inp 1) (.cons (.inp 6) .nil)) (.chk none (.fld 1) (.cons (.op (.idxL 2) (.cons (.inp 1) (.cons (.inp 6) .nil))) .nil) (.eff (.ld false 1) (.cons (.op (.fld 1) (.cons (.op (.idxL 2) (.cons (.inp 1) (.cons (.inp 6) .nil))) .nil)) .nil) (.eff (.call 36) (.cons (.inp 4) (.cons (.bv 0) (.cons (.bv 1) .nil))) (.done [(5, (.bv 2))] none))))))))) Q env w := rfl
def h52_5 : HC := (.seq (.block 1 h52_4) h52_3)
@[simp] theorem h52_5_wp {P : Program} {F : PF P} {Q : EX → List Value → World → Prop} {env : List Value} {w : World} : h52_5.wp F Q env w = HC.wp F (.seq (.block 1 h52_4) h52_3) Q env w := rfl
def h52_6 : HC := (.seq (.br (.chk none .lenL (.cons (.inp 1) .nil) (.chk none (.bin .lss) (.cons (.inp 6) (.cons (.op .lenL (.cons (.inp 1) .nil)) .nil)) (.bnd (.op (.bin .lss) (.cons (.inp 6) (.cons (.op .lenL (.cons (.inp 1) .nil)) .nil))) (.chk (some ((.bv 0), true)) (.bin .eql) (.cons (.inp 5) (.cons (.cst (.int .i64 0)) .nil)) (.isb none (.bv 0) (.done [] (some (.ite (.bv 0) true (.op (.bin .eql) (.cons (.inp 5) (.cons (.cst (.int .i64 0)) .nil))) (.cst (.bool false)))))))))) .skip (.exit 0)) h52_5)
@[simp] theorem h52_6_wp {P : Program} {F : PF P} {Q : EX → List Value → World → Prop} {env : List Value} {w : World} : h52_6.wp F Q env w = HC.wp F (.seq (.br (.chk none .lenL (.cons (.inp 1) .nil) (.chk none (.bin .lss) (.cons (.inp 6) (.cons (.op .lenL (.cons (.inp 1) .nil)) .nil)) (.bnd (.op (.bin .lss) (.cons (.inp 6) (.cons (.op .lenL (.cons (.inp 1) .nil)) .nil))) (.chk (some ((.bv 0), true)) (.bin .eql) (.cons (.inp 5) (.cons (.cst (.int .i64 0)) .nil)) (.isb none (.bv 0) (.done [] (some (.ite (.bv 0) true (.op (.bin .eql) (.cons (.inp 5) (.cons (.cst (.int .i64 0)) .nil))) (.cst (.bool false)))))))))) .skip (.exit 0)) h52_5) Q env w := rfl
def h52_7 : HC := (.loop h52_6)
@[simp] theorem h52_7_wp {P : Program} {F : PF P} {Q : EX → List Value → World → Prop} {env : List Value} {w : World} : h52_7.wp F Q env w = HC.wp F (.loop h52_6) Q env w := rfl
def h52_8 : HC := (.seq (.block 0 h52_7) h52_2)
@[simp] theorem h52_8_wp {P : Program} {F : PF P} {Q : EX → List Value → World → Prop} {env : List Value} {w : World} : h52_8.wp F Q env w = HC.wp F (.seq (.block 0 h52_7) h52_2) Q env w := rfl
def h52_9 : HC := (.seq (.reg (.done [(6, (.cst (.int .i64 0)))] none)) h52_8)
@[simp] theorem h52_9_wp {P : Program} {F : PF P} {Q : EX → List Value → World → Prop} {env : List Value} {w : World} : h52_9.wp F Q env w = HC.wp F (.seq (.reg (.done [(6, (.cst (.int .i64 0)))] none)) h52_8) Q env w := rfl
def h52_10 : HC := (.seq (.reg (.eff (.call 26) (.cons (.inp 0) .nil) (.chk none (.ext 0) (.cons (.bv 0) .nil) (.chk none (.ext 1) (.cons (.bv 0) .nil) (.done [(4, (.op (.ext 0) (.cons (.bv 0) .nil))), (5, (.op (.ext 1) (.cons (.bv 0) .nil)))] none))))) h52_9)
@[simp] theorem h52_10_wp {P : Program} {F : PF P} {Q : EX → List Value → World → Prop} {env : List Value} {w : World} : h52_10.wp F Q env w = HC.wp F (.seq (.reg (.eff (.call 26) (.cons (.inp 0) .nil) (.chk none (.ext 0) (.cons (.bv 0) .nil) (.chk none (.ext 1) (.cons (.bv 0) .nil) (.done [(4, (.op (.ext 0) (.cons (.bv 0) .nil))), (5, (.op (.ext 1) (.cons (.bv 0) .nil)))] none))))) h52_9) Q env w := rfl
def l52 : Lifted := ⟨[0, 1, 4, 5, 6, 7, 8], 40, [.slot 2, .slot 3], (.seq (.reg (.done [(2, (.cst (.pointer none))), (3, (.cst (.int .i64 0)))] none)) h52_10)⟩
theorem l52_ok : liftFn U2 52 400 = some l52 := by kernel_rfl

-- bazaar/bazaarlaw09.timers
def h39_0 : HC := (.seq (.reg (.done [(2, (.cst (.bool true)))] none)) .ret)
@[simp] theorem h39_0_wp {P : Program} {F : PF P} {Q : EX → List Value → World → Prop} {env : List Value} {w : World} : h39_0.wp F Q env w = HC.wp F (.seq (.reg (.done [(2, (.cst (.bool true)))] none)) .ret) Q env w := rfl
def h39_1 : HC := (.reg (.chk none (.bin .add) (.cons (.inp 3) (.cons (.cst (.int .i64 1)) .nil)) (.done [(3, (.op (.bin .add) (.cons (.inp 3) (.cons (.cst (.int .i64 1)) .nil))))] none)))
@[simp] theorem h39_1_wp {P : Program} {F : PF P} {Q : EX → List Value → World → Prop} {env : List Value} {w : World} : h39_1.wp F Q env w = HC.wp F (.reg (.chk none (.bin .add) (.cons (.inp 3) (.cons (.cst (.int .i64 1)) .nil)) (.done [(3, (.op (.bin .add) (.cons (.inp 3) (.cons (.cst (.int .i64 1)) .nil))))] none))) Q env w := rfl
def h39_2 : HC := (.seq (.reg (.done [(2, (.cst (.bool false)))] none)) .ret)
@[simp] theorem h39_2_wp {P : Program} {F : PF P} {Q : EX → List Value → World → Prop} {env : List Value} {w : World} : h39_2.wp F Q env w = HC.wp F (.seq (.reg (.done [(2, (.cst (.bool false)))] none)) .ret) Q env w := rfl
def h39_3 : HC := (.brq (some 0) (.chk none (.idxL 2) (.cons (.inp 0) (.cons (.inp 3) .nil)) (.chk none (.fld 0) (.cons (.op (.idxL 2) (.cons (.inp 0) (.cons (.inp 3) .nil))) .nil) (.eff (.ld false 1) (.cons (.op (.fld 0) (.cons (.op (.idxL 2) (.cons (.inp 0) (.cons (.inp 3) .nil))) .nil)) .nil) (.chk none (.idxL 2) (.cons (.inp 1) (.cons (.inp 3) .nil)) (.chk none (.fld 0) (.cons (.op (.idxL 2) (.cons (.inp 1) (.cons (.inp 3) .nil))) .nil) (.eff (.ld false 1) (.cons (.op (.fld 0) (.cons (.op (.idxL 2) (.cons (.inp 1) (.cons (.inp 3) .nil))) .nil)) .nil) (.chk none (.bin .neq) (.cons (.bv 0) (.cons (.bv 1) .nil)) (.bnd (.op (.bin .neq) (.cons (.bv 0) (.cons (.bv 1) .nil))) (.chk (some ((.bv 2), false)) (.idxL 2) (.cons (.inp 0) (.cons (.inp 3) .nil)) (.chk (some ((.bv 2), false)) (.fld 1) (.cons (.op (.idxL 2) (.cons (.inp 0) (.cons (.inp 3) .nil))) .nil) (.ite (.bv 2) false (.eff (.ld false 1) (.cons (.ite (.bv 2) false (.op (.fld 1) (.cons (.op (.idxL 2) (.cons (.inp 0) (.cons (.inp 3) .nil))) .nil)) (.cst (.tuple #[]))) .nil) (.chk none (.idxL 2) (.cons (.inp 1) (.cons (.inp 3) .nil)) (.chk none (.fld 1) (.cons (.op (.idxL 2) (.cons (.inp 1) (.cons (.inp 3) .nil))) .nil) (.eff (.ld false 1) (.cons (.op (.fld 1) (.cons (.op (.idxL 2) (.cons (.inp 1) (.cons (.inp 3) .nil))) .nil)) .nil) (.chk none (.bin .neq) (.cons (.bv 3) (.cons (.bv 4) .nil)) (.isb none (.bv 2) (.done [] (some (.op (.bin .neq) (.cons (.bv 3) (.cons (.bv 4) .nil))))))))))) (.isb none (.bv 2) (.done [] (some (.cst (.bool true)))))))))))))))) h39_2 .skip)
@[simp] theorem h39_3_wp {P : Program} {F : PF P} {Q : EX → List Value → World → Prop} {env : List Value} {w : World} : h39_3.wp F Q env w = HC.wp F (.brq (some 0) (.chk none (.idxL 2) (.cons (.inp 0) (.cons (.inp 3) .nil)) (.chk none (.fld 0) (.cons (.op (.idxL 2) (.cons (.inp 0) (.cons (.inp 3) .nil))) .nil) (.eff (.ld false 1) (.cons (.op (.fld 0) (.cons (.op (.idxL 2) (.cons (.inp 0) (.cons (.inp 3) .nil))) .nil)) .nil) (.chk none (.idxL 2) (.cons (.inp 1) (.cons (.inp 3) .nil)) (.chk none (.fld 0) (.cons (.op (.idxL 2) (.cons (.inp 1) (.cons (.inp 3) .nil))) .nil) (.eff (.ld false 1) (.cons (.op (.fld 0) (.cons (.op (.idxL 2) (.cons (.inp 1) (.cons (.inp 3) .nil))) .nil)) .nil) (.chk none (.bin .neq) (.cons (.bv 0) (.cons (.bv 1) .nil)) (.bnd (.op (.bin .neq) (.cons (.bv 0) (.cons (.bv 1) .nil))) (.chk (some ((.bv 2), false)) (.idxL 2) (.cons (.inp 0) (.cons (.inp 3) .nil)) (.chk (some ((.bv 2), false)) (.fld 1) (.cons (.op (.idxL 2) (.cons (.inp 0) (.cons (.inp 3) .nil))) .nil) (.ite (.bv 2) false (.eff (.ld false 1) (.cons (.ite (.bv 2) false (.op (.fld 1) (.cons (.op (.idxL 2) (.cons (.inp 0) (.cons (.inp 3) .nil))) .nil)) (.cst (.tuple #[]))) .nil) (.chk none (.idxL 2) (.cons (.inp 1) (.cons (.inp 3) .nil)) (.chk none (.fld 1) (.cons (.op (.idxL 2) (.cons (.inp 1) (.cons (.inp 3) .nil))) .nil) (.eff (.ld false 1) (.cons (.op (.fld 1) (.cons (.op (.idxL 2) (.cons (.inp 1) (.cons (.inp 3) .nil))) .nil)) .nil) (.chk none (.bin .neq) (.cons (.bv 3) (.cons (.bv 4) .nil)) (.isb none (.bv 2) (.done [] (some (.op (.bin .neq) (.cons (.bv 3) (.cons (.bv 4) .nil))))))))))) (.isb none (.bv 2) (.done [] (some (.cst (.bool true)))))))))))))))) h39_2 .skip) Q env w := rfl
def h39_4 : HC := (.seq (.block 1 h39_3) h39_1)
@[simp] theorem h39_4_wp {P : Program} {F : PF P} {Q : EX → List Value → World → Prop} {env : List Value} {w : World} : h39_4.wp F Q env w = HC.wp F (.seq (.block 1 h39_3) h39_1) Q env w := rfl
def h39_5 : HC := (.seq (.br (.chk none .lenL (.cons (.inp 0) .nil) (.chk none (.bin .lss) (.cons (.inp 3) (.cons (.op .lenL (.cons (.inp 0) .nil)) .nil)) (.done [] (some (.op (.bin .lss) (.cons (.inp 3) (.cons (.op .lenL (.cons (.inp 0) .nil)) .nil))))))) .skip (.exit 0)) h39_4)
@[simp] theorem h39_5_wp {P : Program} {F : PF P} {Q : EX → List Value → World → Prop} {env : List Value} {w : World} : h39_5.wp F Q env w = HC.wp F (.seq (.br (.chk none .lenL (.cons (.inp 0) .nil) (.chk none (.bin .lss) (.cons (.inp 3) (.cons (.op .lenL (.cons (.inp 0) .nil)) .nil)) (.done [] (some (.op (.bin .lss) (.cons (.inp 3) (.cons (.op .lenL (.cons (.inp 0) .nil)) .nil))))))) .skip (.exit 0)) h39_4) Q env w := rfl
def h39_6 : HC := (.loop h39_5)
@[simp] theorem h39_6_wp {P : Program} {F : PF P} {Q : EX → List Value → World → Prop} {env : List Value} {w : World} : h39_6.wp F Q env w = HC.wp F (.loop h39_5) Q env w := rfl
def h39_7 : HC := (.seq (.block 0 h39_6) h39_0)
@[simp] theorem h39_7_wp {P : Program} {F : PF P} {Q : EX → List Value → World → Prop} {env : List Value} {w : World} : h39_7.wp F Q env w = HC.wp F (.seq (.block 0 h39_6) h39_0) Q env w := rfl
def h39_8 : HC := (.seq (.reg (.done [(3, (.cst (.int .i64 0)))] none)) h39_7)
@[simp] theorem h39_8_wp {P : Program} {F : PF P} {Q : EX → List Value → World → Prop} {env : List Value} {w : World} : h39_8.wp F Q env w = HC.wp F (.seq (.reg (.done [(3, (.cst (.int .i64 0)))] none)) h39_7) Q env w := rfl
def h39_9 : HC := (.seq (.reg (.done [(2, (.cst (.bool false)))] none)) .ret)
@[simp] theorem h39_9_wp {P : Program} {F : PF P} {Q : EX → List Value → World → Prop} {env : List Value} {w : World} : h39_9.wp F Q env w = HC.wp F (.seq (.reg (.done [(2, (.cst (.bool false)))] none)) .ret) Q env w := rfl
def h39_10 : HC := (.seq (.br (.chk none .lenL (.cons (.inp 0) .nil) (.chk none .lenL (.cons (.inp 1) .nil) (.chk none (.bin .neq) (.cons (.op .lenL (.cons (.inp 0) .nil)) (.cons (.op .lenL (.cons (.inp 1) .nil)) .nil)) (.done [] (some (.op (.bin .neq) (.cons (.op .lenL (.cons (.inp 0) .nil)) (.cons (.op .lenL (.cons (.inp 1) .nil)) .nil)))))))) h39_9 .skip) h39_8)
@[simp] theorem h39_10_wp {P : Program} {F : PF P} {Q : EX → List Value → World → Prop} {env : List Value} {w : World} : h39_10.wp F Q env w = HC.wp F (.seq (.br (.chk none .lenL (.cons (.inp 0) .nil) (.chk none .lenL (.cons (.inp 1) .nil) (.chk none (.bin .neq) (.cons (.op .lenL (.cons (.inp 0) .nil)) (.cons (.op .lenL (.cons (.inp 1) .nil)) .nil)) (.done [] (some (.op (.bin .neq) (.cons (.op .lenL (.cons (.inp 0) .nil)) (.cons (.op .lenL (.cons (.inp 1) .nil)) .nil)))))))) h39_9 .skip) h39_8) Q env w := rfl
def l39 : Lifted := ⟨[0, 1, 4, 5], 41, [.slot 2], (.seq (.reg (.done [(2, (.cst (.bool false)))] none)) h39_10)⟩
theorem l39_ok : liftFn U2 39 400 = some l39 := by kernel_rfl

-- bazaar/bazaarlaw09.model
def h53_0 : HC := (.seq (.reg (.done [(1, (.inp 2))] none)) .ret)
@[simp] theorem h53_0_wp {P : Program} {F : PF P} {Q : EX → List Value → World → Prop} {env : List Value} {w : World} : h53_0.wp F Q env w = HC.wp F (.seq (.reg (.done [(1, (.inp 2))] none)) .ret) Q env w := rfl
def h53_1 : HC := (.reg (.chk none (.bin .add) (.cons (.inp 3) (.cons (.cst (.int .i64 1)) .nil)) (.done [(3, (.op (.bin .add) (.cons (.inp 3) (.cons (.cst (.int .i64 1)) .nil))))] none)))
@[simp] theorem h53_1_wp {P : Program} {F : PF P} {Q : EX → List Value → World → Prop} {env : List Value} {w : World} : h53_1.wp F Q env w = HC.wp F (.reg (.chk none (.bin .add) (.cons (.inp 3) (.cons (.cst (.int .i64 1)) .nil)) (.done [(3, (.op (.bin .add) (.cons (.inp 3) (.cons (.cst (.int .i64 1)) .nil))))] none))) Q env w := rfl
def h53_2 : HC := (.regq (some 1) (.chk none (.idxL 2) (.cons (.inp 0) (.cons (.inp 3) .nil)) (.chk none (.fld 0) (.cons (.op (.idxL 2) (.cons (.inp 0) (.cons (.inp 3) .nil))) .nil) (.eff (.ld false 1) (.cons (.op (.fld 0) (.cons (.op (.idxL 2) (.cons (.inp 0) (.cons (.inp 3) .nil))) .nil)) .nil) (.chk none (.idxL 2) (.cons (.inp 0) (.cons (.inp 3) .nil)) (.chk none (.fld 1) (.cons (.op (.idxL 2) (.cons (.inp 0) (.cons (.inp 3) .nil))) .nil) (.eff (.ld false 1) (.cons (.op (.fld 1) (.cons (.op (.idxL 2) (.cons (.inp 0) (.cons (.inp 3) .nil))) .nil)) .nil) (.chk none (.build #[(.int .i64 0), (.int .i64 0)] [(0, 1), (1, 1)] [0, 1]) (.cons (.bv 0) (.cons (.bv 1) .nil)) (.eff (.bsl 100 1 2 #[(.int .i64 0), (.int .i64 0)] [0]) (.cons (.op (.build #[(.int .i64 0), (.int .i64 0)] [(0, 1), (1, 1)] [0, 1]) (.cons (.bv 0) (.cons (.bv 1) .nil))) .nil) (.eff (.app 89 89 100 2 16 (.agg #[(.int .i64 0), (.int .i64 0)])) (.cons (.inp 2) (.cons (.bv 2) .nil)) (.done [(2, (.bv 3))] none)))))))))))
@[simp] theorem h53_2_wp {P : Program} {F : PF P} {Q : EX → List Value → World → Prop} {env : List Value} {w : World} : h53_2.wp F Q env w = HC.wp F (.regq (some 1) (.chk none (.idxL 2) (.cons (.inp 0) (.cons (.inp 3) .nil)) (.chk none (.fld 0) (.cons (.op (.idxL 2) (.cons (.inp 0) (.cons (.inp 3) .nil))) .nil) (.eff (.ld false 1) (.cons (.op (.fld 0) (.cons (.op (.idxL 2) (.cons (.inp 0) (.cons (.inp 3) .nil))) .nil)) .nil) (.chk none (.idxL 2) (.cons (.inp 0) (.cons (.inp 3) .nil)) (.chk none (.fld 1) (.cons (.op (.idxL 2) (.cons (.inp 0) (.cons (.inp 3) .nil))) .nil) (.eff (.ld false 1) (.cons (.op (.fld 1) (.cons (.op (.idxL 2) (.cons (.inp 0) (.cons (.inp 3) .nil))) .nil)) .nil) (.chk none (.build #[(.int .i64 0), (.int .i64 0)] [(0, 1), (1, 1)] [0, 1]) (.cons (.bv 0) (.cons (.bv 1) .nil)) (.eff (.bsl 100 1 2 #[(.int .i64 0), (.int .i64 0)] [0]) (.cons (.op (.build #[(.int .i64 0), (.int .i64 0)] [(0, 1), (1, 1)] [0, 1]) (.cons (.bv 0) (.cons (.bv 1) .nil))) .nil) (.eff (.app 89 89 100 2 16 (.agg #[(.int .i64 0), (.int .i64 0)])) (.cons (.inp 2) (.cons (.bv 2) .nil)) (.done [(2, (.bv 3))] none))))))))))) Q env w := rfl
def h53_3 : HC := (.seq (.block 1 h53_2) h53_1)
@[simp] theorem h53_3_wp {P : Program} {F : PF P} {Q : EX → List Value → World → Prop} {env : List Value} {w : World} : h53_3.wp F Q env w = HC.wp F (.seq (.block 1 h53_2) h53_1) Q env w := rfl
def h53_4 : HC := (.seq (.br (.chk none .lenL (.cons (.inp 0) .nil) (.chk none (.bin .lss) (.cons (.inp 3) (.cons (.op .lenL (.cons (.inp 0) .nil)) .nil)) (.done [] (some (.op (.bin .lss) (.cons (.inp 3) (.cons (.op .lenL (.cons (.inp 0) .nil)) .nil))))))) .skip (.exit 0)) h53_3)
@[simp] theorem h53_4_wp {P : Program} {F : PF P} {Q : EX → List Value → World → Prop} {env : List Value} {w : World} : h53_4.wp F Q env w = HC.wp F (.seq (.br (.chk none .lenL (.cons (.inp 0) .nil) (.chk none (.bin .lss) (.cons (.inp 3) (.cons (.op .lenL (.cons (.inp 0) .nil)) .nil)) (.done [] (some (.op (.bin .lss) (.cons (.inp 3) (.cons (.op .lenL (.cons (.inp 0) .nil)) .nil))))))) .skip (.exit 0)) h53_3) Q env w := rfl
def h53_5 : HC := (.loop h53_4)
@[simp] theorem h53_5_wp {P : Program} {F : PF P} {Q : EX → List Value → World → Prop} {env : List Value} {w : World} : h53_5.wp F Q env w = HC.wp F (.loop h53_4) Q env w := rfl
def h53_6 : HC := (.seq (.block 0 h53_5) h53_0)
@[simp] theorem h53_6_wp {P : Program} {F : PF P} {Q : EX → List Value → World → Prop} {env : List Value} {w : World} : h53_6.wp F Q env w = HC.wp F (.seq (.block 0 h53_5) h53_0) Q env w := rfl
def h53_7 : HC := (.seq (.reg (.done [(3, (.cst (.int .i64 0)))] none)) h53_6)
@[simp] theorem h53_7_wp {P : Program} {F : PF P} {Q : EX → List Value → World → Prop} {env : List Value} {w : World} : h53_7.wp F Q env w = HC.wp F (.seq (.reg (.done [(3, (.cst (.int .i64 0)))] none)) h53_6) Q env w := rfl
def h53_8 : HC := (.seq (.reg (.done [(2, (.cst (.slice none 0 0)))] none)) h53_7)
@[simp] theorem h53_8_wp {P : Program} {F : PF P} {Q : EX → List Value → World → Prop} {env : List Value} {w : World} : h53_8.wp F Q env w = HC.wp F (.seq (.reg (.done [(2, (.cst (.slice none 0 0)))] none)) h53_7) Q env w := rfl
def l53 : Lifted := ⟨[0, 2, 3, 4], 26, [.slot 1], (.seq (.reg (.done [(1, (.cst (.slice none 0 0)))] none)) h53_8)⟩
theorem l53_ok : liftFn U2 53 400 = some l53 := by kernel_rfl


theorem cntQ_snoc (now : Nat) (L : List (Int × Int)) (x : Int × Int) (q : Nat) : cntQ now (L ++ [x]) q = cntQ now L q + (if lvQ x.2.toNat now = q then 1 else 0) := by
  unfold cntQ
  rw [List.filter_append, List.length_append]
  congr 1
  by_cases h : lvQ x.2.toNat now = q
  · simp [h]
  · simp [h]
def cntL (now lv sz : Nat) (L : List (Int × Int)) : List Int := (List.range sz).map fun s => (cntQ now L (lv * 64 + s) : Int)
theorem cntL_len (now lv sz : Nat) (L : List (Int × Int)) : (cntL now lv sz L).length = sz := by simp [cntL]
theorem cntL_at {now lv sz : Nat} {L : List (Int × Int)} {s : Nat} (h : s < sz) : (cntL now lv sz L)[s]? = some (cntQ now L (lv * 64 + s) : Int) := by simp [cntL, h]
theorem cntL_up {now lv sz : Nat} {L : List (Int × Int)} {x : Int × Int} (hs : (lvF x.2.toNat now).2 < sz) (hsz : sz ≤ 64) (hl : (lvF x.2.toNat now).1 = lv) :
    (cntL now lv sz L).set (lvF x.2.toNat now).2 ((cntQ now L (lv * 64 + (lvF x.2.toNat now).2) : Int) + 1) = cntL now lv sz (L ++ [x]) := by
  apply List.ext_getElem?
  intro j
  by_cases hj : j < sz
  · rw [cntL_at hj, cntQ_snoc]
    by_cases e : j = (lvF x.2.toNat now).2
    · subst e
      rw [List.getElem?_set_self (by rw [cntL_len]; exact hj), if_pos (by unfold lvQ; rw [hl])]
      rfl
    · rw [List.getElem?_set_ne (Ne.symm e), cntL_at hj, if_neg (by unfold lvQ; rw [hl]; omega)]
      simp
  · rw [List.getElem?_eq_none (by rw [List.length_set, cntL_len]; omega), List.getElem?_eq_none (by rw [cntL_len]; omega)]
theorem cntL_no {now lv sz : Nat} {L : List (Int × Int)} {x : Int × Int} (hsz : sz ≤ 64) (hl : (lvF x.2.toNat now).1 ≠ lv) : cntL now lv sz (L ++ [x]) = cntL now lv sz L := by
  unfold cntL
  refine List.map_congr_left fun s hs => ?_
  have hs := List.mem_range.1 hs
  have := (lvF_bd x.2.toNat now).2.1
  rw [cntQ_snoc, if_neg (by unfold lvQ; omega)]
  simp
theorem ldF_cnt {now : Nat} {L : List (Int × Int)} {lv : Nat} (h : lv ≤ 4) : ldF now L lv = cntL now lv (if lv = 4 then 1 else 64) L := by
  unfold ldF cntL
  rw [if_neg (by omega)]
  by_cases h4 : lv = 4
  · subst h4
    rfl
  · rw [if_neg (by omega), if_neg h4, Int.toNat_natCast]
set_option maxHeartbeats 1000000 in
theorem rLoad_spec (q now mv : Nat) (L : List (Int × Int)) (level : Int) (w0 w : World) (A : Asn) {K : Value → World → Prop} (hl : L.length ≤ 65536) (hL : ∀ x ∈ L, 0 ≤ x.2 ∧ x.2 ≤ 1099511627776) (hnow : now ≤ 1099511627776) (s : St w0 (A * rwh q now mv L) w)
    (hk : ∀ v w', St w0 (A * rwh q now mv L * intsA v (ldF now L level)) w' → K v w') :
    CallW Try.prog 41 [.pointer (some ⟨q, 0, none⟩), .int .i64 level] K w := by
  refine callW_of_lift l41_ok (by simp [l41]) ?_
  simp [l41]
  refine cndI (fun c => ?_) (fun c => ?_)
  · have hb : level < 0 ∨ 4 < level := by
      simp at c
      omega
    simp
    refine hk _ _ ?_
    have : ldF now L level = [] := by unfold ldF; rw [if_pos hb]
    rw [this]
    exact s.own_nil _ _
  have hb : 0 ≤ level ∧ level ≤ 4 := by
    simp at c
    omega
  obtain ⟨lv, rfl⟩ := Int.eq_ofNat_of_zero_le hb.1
  have h4 : lv ≤ 4 := by omega
  clear c
  have zer : ∀ n : Nat, (((Array.range (n * 1)).map (((Value.int .i64 0).cells)[· % ((Value.int .i64 0).cells).size]!)).toList.take (n * 1)) = List.replicate n (.int .i64 0) := fun n => by
    have := zrow (n * 1) (.int .i64 0)
    rw [Nat.mul_one] at this ⊢
    show (((Array.range n).map fun i => (#[Value.int .i64 0])[i % (#[Value.int .i64 0]).size]!)).toList.take n = _
    rw [this]
    simp
  have zc : ∀ n : Nat, cntL now lv n [] = List.replicate n 0 := fun n => by
    apply List.ext_getElem?
    intro j
    by_cases hj : j < n
    · rw [cntL_at hj]
      simp [hj, cntQ]
    · rw [List.getElem?_eq_none (by rw [cntL_len]; omega), List.getElem?_eq_none (by simp; omega)]
  have go : ∀ (sz : Nat) (v : Value) (w : World), sz = (if lv = 4 then 1 else 64) → St w0 (A * rwh q now mv L * intsA v (List.replicate sz 0)) w → HC.wp U2 h41_9 (endQ Try.prog [.slot 2] K) [.pointer (some ⟨q, 0, none⟩), .int .i64 lv, .slice none 0 0, v, undef, undef, undef] w := by
    intro sz v w hsz s
    have hsz64 : sz ≤ 64 := by
      rw [hsz]; split <;> omega
    rw [ldF_cnt h4, ← hsz] at hk
    have s1 : St w0 (A * intsA v (List.replicate sz 0) * rwh q now mv L) w := s.to (by ac_rfl)
    obtain ⟨lvv, s2⟩ := ropen s1
    have hrow0 := row_own s2
    obtain ⟨va, vc, rfl⟩ := hrow0.val
    obtain ⟨B, hB⟩ : ∃ B, A * rwc q now mv (.slice va L.length vc) * routs (.slice va L.length vc) L = B := ⟨_, rfl⟩
    have s3 : St w0 (B * intsA v (cntL now lv sz (L.take 0))) w := by
      rw [List.take_zero, zc, ← hB]
      exact s2.to (by ac_rfl)
    have hrow : Row w0 B (.slice va L.length vc) L.length 2 (L.flatMap encT) := by
      have := s3.drop
      rw [← hB] at this ⊢
      exact row_own this
    have hdr : ∀ {w}, St w0 B w → w.cell? ⟨q, 1, none⟩ = some (.slice va L.length vc) ∧ w.cell? ⟨q, 0, none⟩ = some (.int .i64 now) := fun sw => by
      rw [← hB] at sw
      exact ⟨sw.drop.row_cells 1 _ rfl, sw.drop.row_cells 0 _ rfl⟩
    clear s s1 s2 hrow0
    obtain ⟨ca, cc, rfl, _⟩ := s3.own_val
    have s3 : St w0 (B * own 3 1 (.slice ca (cntL now lv sz (L.take 0)).length cc) (cntL now lv sz (L.take 0)).length ((cntL now lv sz (L.take 0)).map (Value.int .i64))) w := s3
    rw [cntL_len] at s3 ⊢
    simp
    refine loopI (fun env w' => ∃ (i : Nat) (x5 x6 : Value), env = [.pointer (some ⟨q, 0, none⟩), .int .i64 lv, .slice none 0 0, .slice ca sz cc, .int .i64 i, x5, x6] ∧ i ≤ L.length ∧ St w0 (B * own 3 1 (.slice ca sz cc) sz ((cntL now lv sz (L.take i)).map (Value.int .i64))) w')
      (fun env _ => L.length - slotN env 4) ⟨0, _, _, rfl, by omega, s3⟩ ?_
    clear s3
    rintro LQ env w' ⟨i, x5, x6, rfl, hi', s'⟩ hN hE hR
    simp
    refine eff_ldc (hdr s'.drop).1 ?_
    simp
    refine cndI (fun h => ?_) (fun h => ?_)
    · have h0 := h
      simp at h0
      have hi2 : i < L.length := by omega
      obtain ⟨g, o, cap, hv, hc⟩ := hrow.at (by omega)
      cases hv
      obtain ⟨hx1, hx2⟩ := hL _ (List.getElem_mem hi2)
      obtain ⟨t, ht⟩ : ∃ t, L[i] = t := ⟨_, rfl⟩
      rw [ht] at hx1 hx2
      obtain ⟨a, hta⟩ := Int.eq_ofNat_of_zero_le hx1
      obtain ⟨b1, b2, b3⟩ := lvF_bd a now
      have eT : L.take (i + 1) = L.take i ++ [t] := by rw [List.take_succ_eq_append_getElem hi2, ht]
      have eta : t.2.toNat = a := by omega
      obtain ⟨C0, hC0⟩ : ∃ C0, cntL now lv sz (L.take i) = C0 := ⟨_, rfl⟩
      have lC0 : C0.length = sz := by rw [← hC0, cntL_len]
      simp
      refine regmI (oneO2 (St w0 (B * own 3 1 (.slice ca sz cc) sz ((cntL now lv sz (L.take i)).map (Value.int .i64)))) (fun r => r = .tuple #[.int .i64 (lvF a now).1, .int .i64 (lvF a now).2])) s'.drew ?_
      simp
      refine effm_ldc (v := .slice (some ⟨g, o, none⟩) L.length vc) (fun vs' w he hw => ?_) ?_
      · match vs', hw with
        | [], hw => exact (hdr (St.drop hw)).1
        | [_], hw => simp [era] at he
      simp [h0]
      refine effm_ldc (v := .int .i64 a) (fun vs' w he hw => ?_) ?_
      · match vs', hw with
        | [], hw =>
          rw [← hta, Nat.add_assoc]
          exact hc _ (St.drop hw) _ _ (flatT_at hi2 1 _ (by rw [ht]; rfl))
        | [_], hw => simp [era] at he
      simp
      refine effm_ldc (v := .int .i64 now) (fun vs' w he hw => ?_) ?_
      · match vs', hw with
        | [], hw => exact (hdr (St.drop hw)).2
        | [_], hw => simp [era] at he
      simp
      refine effm_mv rfl (fun w hw => eff_call ((Lies_spec a now w0 w _ (by omega) (by omega) hw).mono fun r w' h => h)) (fun r hr => ?_)
      obtain ⟨_, hr, _⟩ := hr
      have hr : r = .tuple #[.int .i64 (lvF a now).1, .int .i64 (lvF a now).2] := hr
      subst hr
      simp
      intro w6 s9
      have s9 : St w0 (B * own 3 1 (.slice ca sz cc) sz ((cntL now lv sz (L.take i)).map (Value.int .i64))) w6 := s9.2
      refine cndI (fun h3 => ?_) (fun h3 => ?_)
      · have hll : (lvF a now).1 = lv := by
          simp at h3
          omega
        have hss : (lvF a now).2 < sz := by
          rw [hsz]
          split
          · have := b3 (by omega); omega
          · exact b2
        have hss' : ((lvF a now).2 : Int) < sz := by omega
        obtain ⟨g3, cap3, hv3, _, hc3⟩ := s9.own_at (by omega)
        cases hv3
        have hcnt := cntQ_le now (L.take i) (lv * 64 + (lvF a now).2)
        rw [List.length_take] at hcnt
        simp [hss, hss']
        refine eff_ldc (v := .int .i64 (cntQ now (L.take i) (lv * 64 + (lvF a now).2))) (by
          have := hc3 (lvF a now).2 (.int .i64 (cntQ now (L.take i) (lv * 64 + (lvF a now).2))) (by rw [List.getElem?_map, cntL_at hss]; rfl)
          simpa using this) ?_
        simp [hss, hss']
        try simp (disch := omega) only [wrap64]
        refine eff_stC s9 (by simp [cntL_len]; exact hss) rfl ?_
        intro w7 s10
        simp
        try simp (disch := omega) only [wrap64]
        refine hN _ _ ⟨i + 1, _, _, by simp; exact ⟨rfl, rfl⟩, by omega, ?_⟩ (by simp [slotN]; omega)
        have := cntL_up (now := now) (lv := lv) (sz := sz) (L := L.take i) (x := t) (by rw [eta]; exact hss) hsz64 (by rw [eta]; exact hll)
        rw [eta] at this
        rw [eT, ← this, List.map_set]
        exact s10
      · have hll : (lvF a now).1 ≠ lv := by
          simp at h3
          omega
        simp
        try simp (disch := omega) only [wrap64]
        refine hN _ _ ⟨i + 1, _, _, by simp; exact ⟨rfl, rfl⟩, by omega, ?_⟩ (by simp [slotN]; omega)
        rw [eT, cntL_no hsz64 (by rw [eta]; exact hll)]
        exact s9
    · have : i = L.length := by
        simp at h
        omega
      simp
      refine hE _ _ _ ?_
      simp
      refine hk _ _ ?_
      rw [List.take_of_length_le (by omega), ← hB] at s'
      have s'' : St w0 (A * rwc q now mv (.slice va L.length vc) * routs (.slice va L.length vc) L * intsA (.slice ca sz cc) (cntL now lv sz L)) w' := by
        show St w0 (A * rwc q now mv (.slice va L.length vc) * routs (.slice va L.length vc) L * own _ 1 _ (cntL now lv sz L).length _) w'
        rw [cntL_len]
        exact s'
      have := rclose (q := q) (now := now) (mv := mv) (L := L) (v := .slice va L.length vc) (A := A * intsA (.slice ca sz cc) (cntL now lv sz L)) (s''.to (by ac_rfl))
      exact this.to (by ac_rfl)
  simp
  refine eff_mks (l := 64) (c := 64) s (by omega) (by decide) (by decide) rfl ?_
  intro v1 w1 s1
  rw [zer] at s1
  simp
  refine cndI (fun c4 => ?_) (fun c4 => ?_)
  · have hl4 : lv = 4 := by
      simp at c4
      omega
    simp
    refine eff_mks (l := 1) (c := 1) s1 (by omega) (by decide) (by decide) rfl ?_
    intro v2 w2 s2
    rw [zer] at s2
    simp
    refine go 1 v2 w2 (by rw [if_pos hl4]) ?_
    have := s2.swap.drop
    have e : intsA v2 (List.replicate 1 0) = own 3 1 v2 1 (List.replicate 1 (.int .i64 0)) := by
      show own _ _ _ _ _ = _
      simp
    rw [e]
    exact this
  · have hl4 : ¬ lv = 4 := by
      simp at c4
      omega
    simp
    refine go 64 v1 w1 (by rw [if_neg hl4]) ?_
    have e : intsA v1 (List.replicate 64 0) = own 3 1 v1 64 (List.replicate 64 (.int .i64 0)) := by
      show own _ _ _ (List.replicate 64 0).length ((List.replicate 64 0).map _) = _
      rw [List.length_replicate, List.map_replicate]
    rw [e]
    exact s1
end Go.HL.Wh

namespace Go.HL.Wh
open Go.HL Go.Proofs
set_option maxRecDepth 4000
set_option linter.unusedSimpArgs false
set_option linter.unusedVariables false
theorem schP_perm (now : Nat) {L L' : List (Int × Int)} (h : L.Perm L') (n a : Int) : schP now L n a = schP now L' n a := by
  have e : (∀ u ∈ L, u.1 ≠ n) ↔ ∀ u ∈ L', u.1 ≠ n := ⟨fun g u hu => g u (h.mem_iff.2 hu), fun g u hu => g u (h.mem_iff.1 hu)⟩
  unfold schP
  simp only [e, h.length_eq]
theorem sort_snoc (L : List (Int × Int)) (x : Int × Int) : sortT (sortT L ++ [x]) = sortT (L ++ [x]) := sortT_congr ((sortT_perm L).append_right [x])
theorem schP_ok {now : Nat} {L : List (Int × Int)} {n a : Int} (h : schP now L n a = 0) : L.length < 65536 := by
  unfold schP at h
  split at h
  · simp at h
  · split at h
    · simp at h
    · split at h
      · simp at h
      · split at h
        · simp at h
        · omega
/-- what Schedule does of the pair -/
def rschA (q now mv : Nat) (L : List (Int × Int)) (n a : Int) : Asn := if schP now L n a = 0 then rwh q now mv (sortT (L ++ [(n, a)])) else rwh q now mv L
def oneO3 (S S1 : World → Prop) (R : Value → Prop) : List Value → World → Prop
  | [], w => S w
  | [r], w => R r ∧ S1 w
  | _, _ => False
set_option maxHeartbeats 1000000 in
theorem rFrom_spec (now : Int) (l : List (Int × Int)) (v : Value) (w0 w : World) (A : Asn) {K : Value → World → Prop} (hl : l.length ≤ 1048576) (hrow : Row w0 A v l.length 2 (l.flatMap encT)) (s : St w0 A w)
    (hk : ∀ r w', (if 0 ≤ now ∧ now ≤ 1099511627776 then (if frE now.toNat [] l = 0 then ∃ q, r = .tuple #[.pointer (some ⟨q, 0, none⟩), .int .i64 0] ∧ St w0 (A * rwh q now.toNat 0 (sortT l)) w' else r = .tuple #[.pointer none, .int .i64 (frE now.toNat [] l)] ∧ St w0 A w') else r = .tuple #[.pointer none, .int .i64 90] ∧ St w0 A w') → K r w') :
    CallW Try.prog 52 [.int .i64 now, v] K w := by
  obtain ⟨a, cap, rfl⟩ := hrow.val
  refine callW_of_lift l52_ok (by simp [l52]) ?_
  simp [l52]
  refine eff_call (rNew_spec now w0 w A s fun r w1 h1 => ?_)
  by_cases hb : 0 ≤ now ∧ now ≤ 1099511627776
  · rw [if_pos hb] at h1
    simp only [if_pos hb] at hk
    obtain ⟨q, rfl, s1⟩ := h1
    obtain ⟨N, rfl⟩ := Int.eq_ofNat_of_zero_le hb.1
    rw [Int.toNat_natCast] at s1 hk
    simp
    have e0 : sortT (l.take 0) = [] := List.eq_nil_of_length_eq_zero (by rw [sortT_len]; rfl)
    refine loopI (fun env w' => ∃ (i : Nat) (e : Int), env = [.int .i64 N, .slice a l.length cap, .pointer none, .int .i64 0, .pointer (some ⟨q, 0, none⟩), .int .i64 e, .int .i64 i] ∧ i ≤ l.length ∧
        ((e = 0 ∧ frE N [] l = frE N (l.take i) (l.drop i) ∧ (l.take i).length ≤ 65536 ∧ St w0 (A * rwh q N 0 (sortT (l.take i))) w') ∨ (e ≠ 0 ∧ frE N [] l = e ∧ St w0 A w')))
      (fun env _ => l.length - slotN env 6) ⟨0, 0, rfl, by omega, .inl ⟨rfl, rfl, by simp, by rw [e0]; exact s1⟩⟩ ?_
    clear s s1
    rintro LQ env w' ⟨i, e, rfl, hi, h⟩ hN hE hR
    simp
    rcases h with ⟨rfl, hfr, hlen, s'⟩ | ⟨he, hfr, s'⟩
    · refine cndI (fun hc => ?_) (fun hc => ?_)
      · have hc0 := hc
        simp at hc0
        have hi2 : i < l.length := by omega
        obtain ⟨g, o, cap', hv, hcl⟩ := hrow.at (by omega)
        cases hv
        obtain ⟨t, ht⟩ : ∃ t, l[i] = t := ⟨_, rfl⟩
        have hte : l.take (i + 1) = l.take i ++ [t] := by rw [List.take_succ_eq_append_getElem hi2, ht]
        have hde : l.drop i = t :: l.drop (i + 1) := by rw [List.drop_eq_getElem_cons hi2, ht]
        have hsp : schP N (sortT (l.take i)) t.1 t.2 = schP N (l.take i) t.1 t.2 := schP_perm N (sortT_perm _) _ _
        simp
        refine regmI (oneO3 (St w0 (A * rwh q N 0 (sortT (l.take i)))) (St w0 (A * rschA q N 0 (sortT (l.take i)) t.1 t.2)) (fun r => r = .int .i64 (schP N (l.take i) t.1 t.2))) s'.drew ?_
        simp [hc0]
        refine effm_ldc (v := .int .i64 t.1) (fun vs' w he hw => ?_) ?_
        · match vs', hw with
          | [], hw =>
            have := hcl _ (St.drop hw) _ _ (flatT_at hi2 0 _ (by rw [ht]; rfl))
            simpa using this
          | [_], hw => simp [era] at he
        simp [hc0]
        refine effm_ldc (v := .int .i64 t.2) (fun vs' w he hw => ?_) ?_
        · match vs', hw with
          | [], hw =>
            rw [Nat.add_assoc]
            exact hcl _ (St.drop hw) _ _ (flatT_at hi2 1 _ (by rw [ht]; rfl))
          | [_], hw => simp [era] at he
        simp
        refine effm_mv rfl (fun w hw => eff_call (rSched_spec q N 0 (sortT (l.take i)) t.1 t.2 w0 w A (sortT_pw _) (by rw [sortT_len]; exact hlen) hw fun w' h => ?_)) (fun r hr => ?_)
        · refine ⟨by rw [hsp], ?_⟩
          unfold rschA
          by_cases hz : schP N (sortT (l.take i)) t.1 t.2 = 0
          · rw [if_pos hz] at h ⊢; exact h
          · rw [if_neg hz] at h ⊢; exact h
        obtain ⟨_, hr, _⟩ := hr
        have hr : r = .int .i64 (schP N (l.take i) t.1 t.2) := hr
        subst hr
        simp
        intro w3 h3
        have h3 : St w0 (A * rschA q N 0 (sortT (l.take i)) t.1 t.2) w3 := h3.2
        try simp (disch := omega) only [wrap64]
        have hfr2 : frE N [] l = if schP N (l.take i) t.1 t.2 = 0 then frE N (l.take i ++ [t]) (l.drop (i + 1)) else schP N (l.take i) t.1 t.2 := by
          rw [hfr, hde]
          rfl
        unfold rschA at h3
        rw [hsp] at h3
        by_cases hz : schP N (l.take i) t.1 t.2 = 0
        · rw [if_pos hz] at h3 hfr2
          have hlt := schP_ok hz
          refine hN _ _ ⟨i + 1, 0, by simp [hz], by omega, .inl ⟨rfl, by rw [hfr2, hte], by rw [hte, List.length_append]; exact hlt, ?_⟩⟩ (by simp [slotN]; omega)
          rw [hte, ← sort_snoc]
          exact h3
        · rw [if_neg hz] at h3 hfr2
          exact hN _ _ ⟨i + 1, _, by simp, by omega, .inr ⟨hz, hfr2, h3.drop⟩⟩ (by simp [slotN]; omega)
      · have hil : i = l.length := by
          simp at hc
          omega
        simp
        refine hE _ _ _ ?_
        simp
        have hz : frE N [] l = 0 := by
          rw [hfr, hil, List.drop_length]
          rfl
        refine hk _ _ ?_
        rw [if_pos hz]
        refine ⟨q, rfl, ?_⟩
        rw [hil, List.take_length] at s'
        exact s'
    · simp [he]
      refine hE _ _ _ ?_
      simp [he]
      refine hk _ _ ?_
      rw [hfr, if_neg he]
      exact ⟨rfl, s'⟩
  · rw [if_neg hb] at h1
    simp only [if_neg hb] at hk
    obtain ⟨rfl, s1⟩ := h1
    simp
    refine loopI (fun env w' => env = [.int .i64 now, .slice a l.length cap, .pointer none, .int .i64 0, .pointer none, .int .i64 90, .int .i64 0] ∧ St w0 A w') (fun _ _ => 0) ⟨rfl, s1⟩ ?_
    rintro LQ env w' ⟨rfl, s'⟩ hN hE hR
    simp
    refine hE _ _ _ ?_
    simp
    exact hk _ _ ⟨rfl, s'⟩
theorem timers_spec (x y : List (Int × Int)) (v1 v2 : Value) (w0 w : World) (A : Asn) (hx : x.length ≤ 1048576) (h1 : Row w0 A v1 x.length 2 (x.flatMap encT)) (h2 : Row w0 A v2 y.length 2 (y.flatMap encT)) (s : St w0 A w) :
    CallW Try.prog 39 [v1, v2] (fun r w' => r = .bool (x == y) ∧ St w0 A w') w := by
  obtain ⟨a1, c1, rfl⟩ := h1.val
  obtain ⟨a2, c2, rfl⟩ := h2.val
  refine callW_of_lift l39_ok (by simp [l39]) ?_
  simp [l39]
  refine cndI (fun h => ?_) (fun h => ?_)
  · simp at h
    have : (x == y) = false := by
      simp only [beq_eq_false_iff_ne]
      rintro rfl
      exact h rfl
    simp [this]
    exact s
  simp at h
  simp
  refine loopI (fun env w' => ∃ (i : Nat), env = [.slice a1 x.length c1, .slice a2 y.length c2, .bool false, .int .i64 i] ∧ i ≤ x.length ∧ x.take i = y.take i ∧ St w0 A w')
    (fun env _ => x.length - slotN env 3) ⟨0, rfl, by omega, rfl, s⟩ ?_
  rintro LQ env w' ⟨i, rfl, hi, ht, s'⟩ hN hE hR
  simp
  refine cndI (fun h3 => ?_) (fun h3 => ?_)
  · simp at h3
    obtain ⟨g1, o1, c1', e1, k1⟩ := h1.at (by omega)
    cases e1
    obtain ⟨g2, o2, c2', e2, k2⟩ := h2.at (by omega)
    cases e2
    have hy : i < y.length := by omega
    have p1 : ∀ w, St w0 A w → ∀ j u, (encT x[i])[j]? = some u → w.cell? ⟨g1, o1 + i * 2 + j, none⟩ = some u := fun w s j u hu => by rw [Nat.add_assoc]; exact k1 w s _ _ (flatT_at h3 j u hu)
    have p2 : ∀ w, St w0 A w → ∀ j u, (encT y[i])[j]? = some u → w.cell? ⟨g2, o2 + i * 2 + j, none⟩ = some u := fun w s j u hu => by rw [Nat.add_assoc]; exact k2 w s _ _ (flatT_at hy j u hu)
    simp
    refine brqI s' ?_
    simp [h3]
    refine effq_ldc (fun w s => p1 w s 0 _ rfl) ?_
    simp [hy]
    refine effq_ldc (fun w s => p2 w s 0 _ rfl) ?_
    simp [h3]
    have next : x[i] = y[i] → ∀ w2, St w0 A w2 → LQ .nrm [.slice (some ⟨g1, o1, none⟩) x.length c1, .slice (some ⟨g2, o2, none⟩) y.length c2, .bool false, .int .i64 (i + 1 : Nat)] w2 := fun e w2 s2 => by
      refine hN _ _ ⟨i + 1, rfl, by omega, ?_, s2⟩ (by simp [slotN]; omega)
      rw [List.take_succ_eq_append_getElem h3, List.take_succ_eq_append_getElem hy, ht, e]
    have stop : x[i] ≠ y[i] → ∀ w2, St w0 A w2 → LQ .ret [.slice (some ⟨g1, o1, none⟩) x.length c1, .slice (some ⟨g2, o2, none⟩) y.length c2, .bool false, .int .i64 i] w2 := fun e w2 s2 => by
      refine hR _ _ ?_
      have : (x == y) = false := by
        simp only [beq_eq_false_iff_ne]
        rintro rfl
        exact e rfl
      simp [this]
      exact s2
    by_cases q1 : x[i].1 = y[i].1
    · simp [q1]
      refine effq_ldc (fun w s => p1 w s 1 _ rfl) ?_
      simp [hy]
      refine effq_ldc (fun w s => p2 w s 1 _ rfl) ?_
      simp
      intro w2 s2
      by_cases q2 : x[i].2 = y[i].2
      · simp [q2]
        try simp (disch := omega) only [wrap64]
        exact next (Prod.ext q1 q2) w2 s2
      · simp [q2]
        exact stop (fun e => q2 (by rw [e])) w2 s2
    · simp [q1]
      intro w2 s2
      exact stop (fun e => q1 (by rw [e])) w2 s2
  · simp at h3
    simp
    refine hE _ _ _ ?_
    simp
    have e : i = x.length := by omega
    have e2 : i = y.length := by omega
    rw [e, List.take_length, ← e, e2, List.take_length] at ht
    subst ht
    simp
    exact s'
def appC (S : World → Prop) (S1 S2 : Value → World → Prop) : List Value → World → Prop
  | [], w => S w
  | [r], w => S1 r w
  | [_, r], w => S2 r w
  | _, _ => False
theorem model_spec (l : List (Int × Int)) (v : Value) (w0 w : World) (A : Asn) {K : Value → World → Prop} (hl : l.length ≤ 1048576) (hrow : Row w0 A v l.length 2 (l.flatMap encT)) (s : St w0 A w)
    (hk : ∀ v' w', St w0 (A * routs v' l) w' → K v' w') :
    CallW Try.prog 53 [v] K w := by
  obtain ⟨a, cap, rfl⟩ := hrow.val
  refine callW_of_lift l53_ok (by simp [l53]) ?_
  simp [l53]
  refine loopI (fun env w' => ∃ (i : Nat) (v : Value), env = [.slice a l.length cap, .slice none 0 0, v, .int .i64 i] ∧ i ≤ l.length ∧ St w0 (A * routs v (l.take i)) w')
    (fun env _ => l.length - slotN env 3) ⟨0, _, rfl, by omega, s.own_nil _ _⟩ ?_
  rintro LQ env w' ⟨i, v, rfl, hi, s'⟩ hN hE hR
  simp
  refine cndI (fun h => ?_) (fun h => ?_)
  · simp at h
    obtain ⟨g, o, cap', hv, hc⟩ := hrow.at (by omega)
    cases hv
    have p1 : ∀ w, St w0 A w → ∀ j u, (encT l[i])[j]? = some u → w.cell? ⟨g, o + i * 2 + j, none⟩ = some u := fun w s j u hu => by rw [Nat.add_assoc]; exact hc w s _ _ (flatT_at h j u hu)
    have hlt : (l.take i).length ≤ 1048576 := by rw [List.length_take]; omega
    obtain ⟨x, hx⟩ : ∃ x, l[i] = x := ⟨_, rfl⟩
    rw [hx] at p1
    simp
    refine regmI (appC (St w0 (A * routs v (l.take i))) (fun r w => ∃ c, r = .slice (some ⟨c, 0, none⟩) 1 1 ∧ St w0 (A * routs v (l.take i) * pt c (.cells (encT x).toArray 100 (0, 0))) w) (fun r w => St w0 (A * routs r (l.take i ++ [x])) w)) s'.drew ?_
    simp [h]
    refine effm_ldc (v := .int .i64 x.1) (fun vs' w he hw => ?_) ?_
    · match vs', hw with
      | [], hw => exact p1 _ (St.drop hw) 0 _ rfl
      | [_], hw => simp [era] at he
      | [_, _], hw => simp [era] at he
    simp [h]
    refine effm_ldc (v := .int .i64 x.2) (fun vs' w he hw => ?_) ?_
    · match vs', hw with
      | [], hw => exact p1 _ (St.drop hw) 1 _ rfl
      | [_], hw => simp [era] at he
      | [_, _], hw => simp [era] at he
    simp [Instr.fill, Value.cells]
    refine effm_mv rfl (fun w hw => eff_bslV (show St w0 _ w from hw) rfl fun c w' h => ⟨c, rfl, h⟩) (fun r hr => ?_)
    obtain ⟨_, c, rfl, _⟩ := hr
    simp
    refine effm_mv rfl (fun w hw => ?_) (fun r hr => ?_)
    · obtain ⟨c', e, hw⟩ : ∃ c', Value.slice (some ⟨c, 0, none⟩) 1 1 = .slice (some ⟨c', 0, none⟩) 1 1 ∧ St w0 (A * routs v (l.take i) * pt c' (.cells (encT x).toArray 100 (0, 0))) w := hw
      cases e
      refine eff_app (m := 1) (news := encT x) hw.swap rfl hw.cells_look (encT_one _) (by decide) rfl (by unfold maxLen; omega) (by omega) ?_
      intro v2 w5 s7
      rw [routs_app] at s7
      exact St.cut (pt c (.cells (encT x).toArray 100 (0, 0))) s7 (by ac_rfl)
    simp
    intro w6 s8
    have s8 : St w0 (A * routs r (l.take i ++ [x])) w6 := s8
    try simp (disch := omega) only [wrap64]
    refine hN _ _ ⟨i + 1, r, by simp, by omega, ?_⟩ (by simp [slotN]; omega)
    rw [List.take_succ_eq_append_getElem h, hx]
    exact s8
  · have : i = l.length := by
      simp at h
      omega
    simp
    refine hE _ _ _ ?_
    simp
    rw [List.take_of_length_le (by omega)] at s'
    exact hk _ _ s'
end Go.HL.Wh

namespace Go.HL.Wh
open Go.HL Go.Proofs
set_option maxRecDepth 4000
set_option linter.unusedSimpArgs false
set_option linter.unusedVariables false
-- (*bazaar/wheel.Wheel).First
def h43_0 : HC := (.seq (.reg (.chk none .chkp (.cons (.inp 0) .nil) (.chk none (.fld 259) (.cons (.op .chkp (.cons (.inp 0) .nil)) .nil) (.eff (.ld false 1) (.cons (.op (.fld 259) (.cons (.op .chkp (.cons (.inp 0) .nil)) .nil)) .nil) (.eff (.call 54) (.cons (.bv 0) .nil) (.eff (.st 2) (.cons (.inp 1) (.cons (.bv 1) .nil)) (.done [(2, (.cst (.bool true)))] none))))))) .ret)
@[simp] theorem h43_0_wp {P : Program} {F : PF P} {Q : EX → List Value → World → Prop} {env : List Value} {w : World} : h43_0.wp F Q env w = HC.wp F (.seq (.reg (.chk none .chkp (.cons (.inp 0) .nil) (.chk none (.fld 259) (.cons (.op .chkp (.cons (.inp 0) .nil)) .nil) (.eff (.ld false 1) (.cons (.op (.fld 259) (.cons (.op .chkp (.cons (.inp 0) .nil)) .nil)) .nil) (.eff (.call 54) (.cons (.bv 0) .nil) (.eff (.st 2) (.cons (.inp 1) (.cons (.bv 1) .nil)) (.done [(2, (.cst (.bool true)))] none))))))) .ret) Q env w := rfl
def h43_1 : HC := (.reg (.chk none (.bin .add) (.cons (.inp 5) (.cons (.cst (.int .i64 1)) .nil)) (.done [(5, (.op (.bin .add) (.cons (.inp 5) (.cons (.cst (.int .i64 1)) .nil))))] none)))
@[simp] theorem h43_1_wp {P : Program} {F : PF P} {Q : EX → List Value → World → Prop} {env : List Value} {w : World} : h43_1.wp F Q env w = HC.wp F (.reg (.chk none (.bin .add) (.cons (.inp 5) (.cons (.cst (.int .i64 1)) .nil)) (.done [(5, (.op (.bin .add) (.cons (.inp 5) (.cons (.cst (.int .i64 1)) .nil))))] none))) Q env w := rfl
def h43_2 : HC := (.reg (.chk none (.bin .add) (.cons (.inp 7) (.cons (.cst (.int .i64 1)) .nil)) (.done [(7, (.op (.bin .add) (.cons (.inp 7) (.cons (.cst (.int .i64 1)) .nil))))] none)))
@[simp] theorem h43_2_wp {P : Program} {F : PF P} {Q : EX → List Value → World → Prop} {env : List Value} {w : World} : h43_2.wp F Q env w = HC.wp F (.reg (.chk none (.bin .add) (.cons (.inp 7) (.cons (.cst (.int .i64 1)) .nil)) (.done [(7, (.op (.bin .add) (.cons (.inp 7) (.cons (.cst (.int .i64 1)) .nil))))] none))) Q env w := rfl
def h43_3 : HC := (.seq (.reg (.eff (.call 54) (.cons (.inp 4) .nil) (.eff (.st 2) (.cons (.inp 1) (.cons (.bv 0) .nil)) (.done [(2, (.cst (.bool true)))] none)))) .ret)
@[simp] theorem h43_3_wp {P : Program} {F : PF P} {Q : EX → List Value → World → Prop} {env : List Value} {w : World} : h43_3.wp F Q env w = HC.wp F (.seq (.reg (.eff (.call 54) (.cons (.inp 4) .nil) (.eff (.st 2) (.cons (.inp 1) (.cons (.bv 0) .nil)) (.done [(2, (.cst (.bool true)))] none)))) .ret) Q env w := rfl
def h43_4 : HC := (.br (.eff (.bi .len #[72] 3 #[false]) (.cons (.inp 4) .nil) (.chk none (.bin .gtr) (.cons (.bv 0) (.cons (.cst (.int .i64 0)) .nil)) (.done [] (some (.op (.bin .gtr) (.cons (.bv 0) (.cons (.cst (.int .i64 0)) .nil))))))) h43_3 .skip)
@[simp] theorem h43_4_wp {P : Program} {F : PF P} {Q : EX → List Value → World → Prop} {env : List Value} {w : World} : h43_4.wp F Q env w = HC.wp F (.br (.eff (.bi .len #[72] 3 #[false]) (.cons (.inp 4) .nil) (.chk none (.bin .gtr) (.cons (.bv 0) (.cons (.cst (.int .i64 0)) .nil)) (.done [] (some (.op (.bin .gtr) (.cons (.bv 0) (.cons (.cst (.int .i64 0)) .nil))))))) h43_3 .skip) Q env w := rfl
def h43_5 : HC := (.seq (.reg (.chk none (.chA false 64 1) (.cons (.inp 6) (.cons (.inp 7) .nil)) (.done [(4, (.op (.chA false 64 1) (.cons (.inp 6) (.cons (.inp 7) .nil))))] none))) h43_4)
@[simp] theorem h43_5_wp {P : Program} {F : PF P} {Q : EX → List Value → World → Prop} {env : List Value} {w : World} : h43_5.wp F Q env w = HC.wp F (.seq (.reg (.chk none (.chA false 64 1) (.cons (.inp 6) (.cons (.inp 7) .nil)) (.done [(4, (.op (.chA false 64 1) (.cons (.inp 6) (.cons (.inp 7) .nil))))] none))) h43_4) Q env w := rfl
def h43_6 : HC := (.seq (.block 3 h43_5) h43_2)
@[simp] theorem h43_6_wp {P : Program} {F : PF P} {Q : EX → List Value → World → Prop} {env : List Value} {w : World} : h43_6.wp F Q env w = HC.wp F (.seq (.block 3 h43_5) h43_2) Q env w := rfl
def h43_7 : HC := (.seq (.br (.chk none (.bin .lss) (.cons (.inp 7) (.cons (.cst (.int .i64 64)) .nil)) (.done [] (some (.op (.bin .lss) (.cons (.inp 7) (.cons (.cst (.int .i64 64)) .nil)))))) .skip (.exit 2)) h43_6)
@[simp] theorem h43_7_wp {P : Program} {F : PF P} {Q : EX → List Value → World → Prop} {env : List Value} {w : World} : h43_7.wp F Q env w = HC.wp F (.seq (.br (.chk none (.bin .lss) (.cons (.inp 7) (.cons (.cst (.int .i64 64)) .nil)) (.done [] (some (.op (.bin .lss) (.cons (.inp 7) (.cons (.cst (.int .i64 64)) .nil)))))) .skip (.exit 2)) h43_6) Q env w := rfl
def h43_8 : HC := (.loop h43_7)
@[simp] theorem h43_8_wp {P : Program} {F : PF P} {Q : EX → List Value → World → Prop} {env : List Value} {w : World} : h43_8.wp F Q env w = HC.wp F (.loop h43_7) Q env w := rfl
def h43_9 : HC := (.block 2 h43_8)
@[simp] theorem h43_9_wp {P : Program} {F : PF P} {Q : EX → List Value → World → Prop} {env : List Value} {w : World} : h43_9.wp F Q env w = HC.wp F (.block 2 h43_8) Q env w := rfl
def h43_10 : HC := (.seq (.reg (.chk none .chkp (.cons (.inp 0) .nil) (.chk none (.fld 3) (.cons (.op .chkp (.cons (.inp 0) .nil)) .nil) (.chk none (.idxP 4 64) (.cons (.op (.fld 3) (.cons (.op .chkp (.cons (.inp 0) .nil)) .nil)) (.cons (.inp 3) .nil)) (.eff (.ld true 64) (.cons (.op (.idxP 4 64) (.cons (.op (.fld 3) (.cons (.op .chkp (.cons (.inp 0) .nil)) .nil)) (.cons (.inp 3) .nil))) .nil) (.done [(6, (.bv 0)), (7, (.cst (.int .i64 0)))] none)))))) h43_9)
@[simp] theorem h43_10_wp {P : Program} {F : PF P} {Q : EX → List Value → World → Prop} {env : List Value} {w : World} : h43_10.wp F Q env w = HC.wp F (.seq (.reg (.chk none .chkp (.cons (.inp 0) .nil) (.chk none (.fld 3) (.cons (.op .chkp (.cons (.inp 0) .nil)) .nil) (.chk none (.idxP 4 64) (.cons (.op (.fld 3) (.cons (.op .chkp (.cons (.inp 0) .nil)) .nil)) (.cons (.inp 3) .nil)) (.eff (.ld true 64) (.cons (.op (.idxP 4 64) (.cons (.op (.fld 3) (.cons (.op .chkp (.cons (.inp 0) .nil)) .nil)) (.cons (.inp 3) .nil))) .nil) (.done [(6, (.bv 0)), (7, (.cst (.int .i64 0)))] none)))))) h43_9) Q env w := rfl
def h43_11 : HC := (.seq (.reg (.done [(3, (.inp 5))] none)) h43_10)
@[simp] theorem h43_11_wp {P : Program} {F : PF P} {Q : EX → List Value → World → Prop} {env : List Value} {w : World} : h43_11.wp F Q env w = HC.wp F (.seq (.reg (.done [(3, (.inp 5))] none)) h43_10) Q env w := rfl
def h43_12 : HC := (.seq (.block 1 h43_11) h43_1)
@[simp] theorem h43_12_wp {P : Program} {F : PF P} {Q : EX → List Value → World → Prop} {env : List Value} {w : World} : h43_12.wp F Q env w = HC.wp F (.seq (.block 1 h43_11) h43_1) Q env w := rfl
def h43_13 : HC := (.seq (.br (.chk none (.bin .lss) (.cons (.inp 5) (.cons (.cst (.int .i64 4)) .nil)) (.done [] (some (.op (.bin .lss) (.cons (.inp 5) (.cons (.cst (.int .i64 4)) .nil)))))) .skip (.exit 0)) h43_12)
@[simp] theorem h43_13_wp {P : Program} {F : PF P} {Q : EX → List Value → World → Prop} {env : List Value} {w : World} : h43_13.wp F Q env w = HC.wp F (.seq (.br (.chk none (.bin .lss) (.cons (.inp 5) (.cons (.cst (.int .i64 4)) .nil)) (.done [] (some (.op (.bin .lss) (.cons (.inp 5) (.cons (.cst (.int .i64 4)) .nil)))))) .skip (.exit 0)) h43_12) Q env w := rfl
def h43_14 : HC := (.loop h43_13)
@[simp] theorem h43_14_wp {P : Program} {F : PF P} {Q : EX → List Value → World → Prop} {env : List Value} {w : World} : h43_14.wp F Q env w = HC.wp F (.loop h43_13) Q env w := rfl
def h43_15 : HC := (.seq (.block 0 h43_14) h43_0)
@[simp] theorem h43_15_wp {P : Program} {F : PF P} {Q : EX → List Value → World → Prop} {env : List Value} {w : World} : h43_15.wp F Q env w = HC.wp F (.seq (.block 0 h43_14) h43_0) Q env w := rfl
def h43_16 : HC := (.seq (.reg (.done [(5, (.cst (.int .i64 0)))] none)) h43_15)
@[simp] theorem h43_16_wp {P : Program} {F : PF P} {Q : EX → List Value → World → Prop} {env : List Value} {w : World} : h43_16.wp F Q env w = HC.wp F (.seq (.reg (.done [(5, (.cst (.int .i64 0)))] none)) h43_15) Q env w := rfl
def h43_17 : HC := (.seq (.reg (.chk none (.build #[(.int .i64 0), (.int .i64 0)] [(0, 1), (1, 1)] []) .nil (.eff (.st 2) (.cons (.inp 1) (.cons (.op (.build #[(.int .i64 0), (.int .i64 0)] [(0, 1), (1, 1)] []) .nil) .nil)) (.done [(2, (.cst (.bool false)))] none)))) .ret)
@[simp] theorem h43_17_wp {P : Program} {F : PF P} {Q : EX → List Value → World → Prop} {env : List Value} {w : World} : h43_17.wp F Q env w = HC.wp F (.seq (.reg (.chk none (.build #[(.int .i64 0), (.int .i64 0)] [(0, 1), (1, 1)] []) .nil (.eff (.st 2) (.cons (.inp 1) (.cons (.op (.build #[(.int .i64 0), (.int .i64 0)] [(0, 1), (1, 1)] []) .nil) .nil)) (.done [(2, (.cst (.bool false)))] none)))) .ret) Q env w := rfl
def h43_18 : HC := (.seq (.br (.eff (.call 15) (.cons (.inp 0) .nil) (.chk none (.bin .eql) (.cons (.bv 0) (.cons (.cst (.int .i64 0)) .nil)) (.done [] (some (.op (.bin .eql) (.cons (.bv 0) (.cons (.cst (.int .i64 0)) .nil))))))) h43_17 .skip) h43_16)
@[simp] theorem h43_18_wp {P : Program} {F : PF P} {Q : EX → List Value → World → Prop} {env : List Value} {w : World} : h43_18.wp F Q env w = HC.wp F (.seq (.br (.eff (.call 15) (.cons (.inp 0) .nil) (.chk none (.bin .eql) (.cons (.bv 0) (.cons (.cst (.int .i64 0)) .nil)) (.done [] (some (.op (.bin .eql) (.cons (.bv 0) (.cons (.cst (.int .i64 0)) .nil))))))) h43_17 .skip) h43_16) Q env w := rfl
def l43 : Lifted := ⟨[0, 2, 3, 4, 6, 11, 19, 20], 35, [.cell 1 true 2, .slot 2], (.seq (.reg (.eff (.new 32 (.agg #[(.int .i64 0), (.int .i64 0)])) .nil (.done [(1, (.bv 0)), (2, (.cst (.bool false)))] none))) h43_18)⟩
theorem l43_ok : liftFn U2 43 400 = some l43 := by kernel_rfl

-- bazaar/wheel.first
def h54_0 : HC := (.seq (.reg (.chk none .chkp (.cons (.inp 2) .nil) (.chk none (.fld 0) (.cons (.op .chkp (.cons (.inp 2) .nil)) .nil) (.eff (.ld true 2) (.cons (.op (.fld 0) (.cons (.op .chkp (.cons (.inp 2) .nil)) .nil)) .nil) (.eff (.st 2) (.cons (.inp 1) (.cons (.bv 0) .nil)) (.done [] none)))))) .ret)
@[simp] theorem h54_0_wp {P : Program} {F : PF P} {Q : EX → List Value → World → Prop} {env : List Value} {w : World} : h54_0.wp F Q env w = HC.wp F (.seq (.reg (.chk none .chkp (.cons (.inp 2) .nil) (.chk none (.fld 0) (.cons (.op .chkp (.cons (.inp 2) .nil)) .nil) (.eff (.ld true 2) (.cons (.op (.fld 0) (.cons (.op .chkp (.cons (.inp 2) .nil)) .nil)) .nil) (.eff (.st 2) (.cons (.inp 1) (.cons (.bv 0) .nil)) (.done [] none)))))) .ret) Q env w := rfl
def h54_1 : HC := (.reg (.done [(2, (.inp 3))] none))
@[simp] theorem h54_1_wp {P : Program} {F : PF P} {Q : EX → List Value → World → Prop} {env : List Value} {w : World} : h54_1.wp F Q env w = HC.wp F (.reg (.done [(2, (.inp 3))] none)) Q env w := rfl
def h54_2 : HC := (.brq (some 1) (.chk none (.eqNil false (.pointer 79) (.pointer none)) (.cons (.inp 2) .nil) (.bnd (.op (.eqNil false (.pointer 79) (.pointer none)) (.cons (.inp 2) .nil)) (.chk (some ((.bv 0), false)) .chkp (.cons (.inp 3) .nil) (.chk (some ((.bv 0), false)) (.fld 0) (.cons (.op .chkp (.cons (.inp 3) .nil)) .nil) (.ite (.bv 0) false (.eff (.ld true 2) (.cons (.ite (.bv 0) false (.op (.fld 0) (.cons (.op .chkp (.cons (.inp 3) .nil)) .nil)) (.cst (.tuple #[]))) .nil) (.chk none .chkp (.cons (.inp 2) .nil) (.chk none (.fld 0) (.cons (.op .chkp (.cons (.inp 2) .nil)) .nil) (.eff (.ld true 2) (.cons (.op (.fld 0) (.cons (.op .chkp (.cons (.inp 2) .nil)) .nil)) .nil) (.eff (.call 34) (.cons (.bv 1) (.cons (.bv 2) .nil)) (.chk none (.bin .lss) (.cons (.bv 3) (.cons (.cst (.int .i64 0)) .nil)) (.isb none (.bv 0) (.done [] (some (.op (.bin .lss) (.cons (.bv 3) (.cons (.cst (.int .i64 0)) .nil)))))))))))) (.isb none (.bv 0) (.done [] (some (.cst (.bool true)))))))))) h54_1 .skip)
@[simp] theorem h54_2_wp {P : Program} {F : PF P} {Q : EX → List Value → World → Prop} {env : List Value} {w : World} : h54_2.wp F Q env w = HC.wp F (.brq (some 1) (.chk none (.eqNil false (.pointer 79) (.pointer none)) (.cons (.inp 2) .nil) (.bnd (.op (.eqNil false (.pointer 79) (.pointer none)) (.cons (.inp 2) .nil)) (.chk (some ((.bv 0), false)) .chkp (.cons (.inp 3) .nil) (.chk (some ((.bv 0), false)) (.fld 0) (.cons (.op .chkp (.cons (.inp 3) .nil)) .nil) (.ite (.bv 0) false (.eff (.ld true 2) (.cons (.ite (.bv 0) false (.op (.fld 0) (.cons (.op .chkp (.cons (.inp 3) .nil)) .nil)) (.cst (.tuple #[]))) .nil) (.chk none .chkp (.cons (.inp 2) .nil) (.chk none (.fld 0) (.cons (.op .chkp (.cons (.inp 2) .nil)) .nil) (.eff (.ld true 2) (.cons (.op (.fld 0) (.cons (.op .chkp (.cons (.inp 2) .nil)) .nil)) .nil) (.eff (.call 34) (.cons (.bv 1) (.cons (.bv 2) .nil)) (.chk none (.bin .lss) (.cons (.bv 3) (.cons (.cst (.int .i64 0)) .nil)) (.isb none (.bv 0) (.done [] (some (.op (.bin .lss) (.cons (.bv 3) (.cons (.cst (.int .i64 0)) .nil)))))))))))) (.isb none (.bv 0) (.done [] (some (.cst (.bool true)))))))))) h54_1 .skip) Q env w := rfl
def h54_3 : HC := (.seq (.reg (.eff .ent (.cons (.inp 4) .nil) (.chk none (.ext 1) (.cons (.bv 0) .nil) (.done [(3, (.op (.ext 1) (.cons (.bv 0) .nil)))] none)))) h54_2)
@[simp] theorem h54_3_wp {P : Program} {F : PF P} {Q : EX → List Value → World → Prop} {env : List Value} {w : World} : h54_3.wp F Q env w = HC.wp F (.seq (.reg (.eff .ent (.cons (.inp 4) .nil) (.chk none (.ext 1) (.cons (.bv 0) .nil) (.done [(3, (.op (.ext 1) (.cons (.bv 0) .nil)))] none)))) h54_2) Q env w := rfl
def h54_4 : HC := (.block 1 h54_3)
@[simp] theorem h54_4_wp {P : Program} {F : PF P} {Q : EX → List Value → World → Prop} {env : List Value} {w : World} : h54_4.wp F Q env w = HC.wp F (.block 1 h54_3) Q env w := rfl
def h54_5 : HC := (.seq (.br (.eff (.nxt false 0) (.cons (.inp 4) .nil) (.chk none (.ext 0) (.cons (.bv 0) .nil) (.done [] (some (.op (.ext 0) (.cons (.bv 0) .nil)))))) .skip (.exit 0)) h54_4)
@[simp] theorem h54_5_wp {P : Program} {F : PF P} {Q : EX → List Value → World → Prop} {env : List Value} {w : World} : h54_5.wp F Q env w = HC.wp F (.seq (.br (.eff (.nxt false 0) (.cons (.inp 4) .nil) (.chk none (.ext 0) (.cons (.bv 0) .nil) (.done [] (some (.op (.ext 0) (.cons (.bv 0) .nil)))))) .skip (.exit 0)) h54_4) Q env w := rfl
def h54_6 : HC := (.loop h54_5)
@[simp] theorem h54_6_wp {P : Program} {F : PF P} {Q : EX → List Value → World → Prop} {env : List Value} {w : World} : h54_6.wp F Q env w = HC.wp F (.loop h54_5) Q env w := rfl
def h54_7 : HC := (.seq (.block 0 h54_6) h54_0)
@[simp] theorem h54_7_wp {P : Program} {F : PF P} {Q : EX → List Value → World → Prop} {env : List Value} {w : World} : h54_7.wp F Q env w = HC.wp F (.seq (.block 0 h54_6) h54_0) Q env w := rfl
def h54_8 : HC := (.seq (.reg (.eff (.rng 72) (.cons (.inp 0) .nil) (.done [(4, (.bv 0))] none))) h54_7)
@[simp] theorem h54_8_wp {P : Program} {F : PF P} {Q : EX → List Value → World → Prop} {env : List Value} {w : World} : h54_8.wp F Q env w = HC.wp F (.seq (.reg (.eff (.rng 72) (.cons (.inp 0) .nil) (.done [(4, (.bv 0))] none))) h54_7) Q env w := rfl
def h54_9 : HC := (.seq (.reg (.done [(2, (.cst (.pointer none)))] none)) h54_8)
@[simp] theorem h54_9_wp {P : Program} {F : PF P} {Q : EX → List Value → World → Prop} {env : List Value} {w : World} : h54_9.wp F Q env w = HC.wp F (.seq (.reg (.done [(2, (.cst (.pointer none)))] none)) h54_8) Q env w := rfl
def l54 : Lifted := ⟨[0, 2, 3, 5, 7], 31, [.cell 1 true 2], (.seq (.reg (.eff (.new 32 (.agg #[(.int .i64 0), (.int .i64 0)])) .nil (.done [(1, (.bv 0))] none))) h54_9)⟩
theorem l54_ok : liftFn U2 54 400 = some l54 := by kernel_rfl


set_option maxHeartbeats 4000000 in
theorem lvQ_mono {a b now : Nat} (h1 : now < a) (h2 : a ≤ b) : lvQ a now ≤ lvQ b now := by
  obtain ⟨a4, a3, a2, a1, a0, ha⟩ := dg_ex a
  obtain ⟨b4, b3, b2, b1, b0, hb⟩ := dg_ex b
  obtain ⟨n4, n3, n2, n1, n0, hn⟩ := dg_ex now
  have L1 := lvF_of ha hn
  have L2 := lvF_of hb hn
  unfold lvQ
  obtain ⟨ea, ua3, ua2, ua1, ua0⟩ := ha
  obtain ⟨eb, ub3, ub2, ub1, ub0⟩ := hb
  obtain ⟨en, un3, un2, un1, un0⟩ := hn
  rcases L1 with ⟨p1, q1⟩ | ⟨p1, p2, q1⟩ | ⟨p1, p2, p3, q1⟩ | ⟨p1, p2, p3, p4, q1⟩ | ⟨p1, p2, p3, p4, q1⟩ <;>
  rcases L2 with ⟨r1, q2⟩ | ⟨r1, r2, q2⟩ | ⟨r1, r2, r3, q2⟩ | ⟨r1, r2, r3, r4, q2⟩ | ⟨r1, r2, r3, r4, q2⟩ <;>
  rw [q1, q2] <;> simp only <;> omega
theorem hung_cells {ts : List Tm} (hn : (ts.map (·.n)).Nodup) {t : Tm} (ht : t ∈ ts) {w0 w : World} {F : Asn} (s : St w0 (F * hungA ts) w) : ∀ j u, (t.cs)[j]? = some u → w.cell? ⟨t.b, 0 + j, none⟩ = some u := by
  rw [hungA_off hn ht, ← sep_assoc] at s
  exact s.row_cells
theorem first_spec (q now : Nat) (Y : Dk) (ts : List Tm) (x : Nat × List En × Nat) (w0 w : World) (A : Asn) {K : Value → World → Prop} (hn : (ts.map (·.n)).Nodup) (hs : SlOK ts q (some x)) (hex : ∃ t ∈ ts, tmQ t = q)
    (s : St w0 (A * imap x.1 x.2.1 x.2.2 * hungA ts) w)
    (hk : ∀ t w', t ∈ ts → tmQ t = q → (∀ u ∈ ts, tmQ u = q → ltOf ordF (tmr u) (tmr t) = false) → St w0 (A * imap x.1 x.2.1 x.2.2 * hungA ts) w' → K (.agg (encT (tmr t)).toArray) w') :
    CallW Try.prog 54 [.map (some x.1)] K w := by
  obtain ⟨m, es, c⟩ := x
  have hs' : ∀ n v, getI es n = some v ↔ ∃ t ∈ ts, t.n = n ∧ tmQ t = q ∧ v = tp t := hs.mem
  have hok : okE es c := hs.ok
  have ent : ∀ e ∈ es, ∃ t ∈ ts, t.n = e.k ∧ tmQ t = q ∧ e.v = tp t := fun e he => (hs' e.k e.v).1 (getI_of hok.kn he)
  have ent2 : ∀ t ∈ ts, tmQ t = q → ∃ e ∈ es, e.k = t.n := fun t ht hq => by
    obtain ⟨e, he, h1, _⟩ := getI_mem ((hs' t.n (tp t)).2 ⟨t, ht, rfl, hq, rfl⟩)
    exact ⟨e, he, h1⟩
  refine callW_of_lift l54_ok (by simp [l54]) ?_
  simp [l54]
  refine eff_new s ?_
  intro b0 w1 s1
  simp
  have s1 : St w0 (A * imap m es c * hungA ts * pt b0 (.cells #[.int .i64 0, .int .i64 0] 32 (0, 0))) w1 := s1
  refine eff_rngI hungI.ty s1 s1.drop.drop.look ?_
  intro bi w2 s2
  simp
  obtain ⟨B, hB⟩ : ∃ B, A * pt b0 (.cells #[.int .i64 0, .int .i64 0] 32 (0, 0)) = B := ⟨_, rfl⟩
  have s2 : St w0 (B * hungA ts * imap m es c * pt bi (.mapIter (some m) c #[] c)) w2 := by rw [← hB]; exact s2.to (by ac_rfl)
  clear s s1
  refine loopI (fun env w' => ∃ (seen : Array Nat) (best : Option Tm) (x3 : Value), env = [.map (some m), .pointer (some ⟨b0, 0, none⟩), (match best with
      | none => .pointer none
      | some t => tp t), x3, .pointer (some ⟨bi, 0, none⟩)] ∧ (leftE es seen).length + seen.size ≤ es.length ∧ (best = none → seen.size = 0) ∧
      (∀ t, best = some t → t ∈ ts ∧ tmQ t = q ∧ ∀ e ∈ es, e.b ∈ seen → ∀ u ∈ ts, u.n = e.k → ltOf ordF (tmr u) (tmr t) = false) ∧
      St w0 (B * hungA ts * imap m es c * pt bi (.mapIter (some m) c seen c)) w') (fun _ w' => es.length + 1 - seenN w' bi)
    ⟨#[], none, _, rfl, left_start es, fun _ => rfl, fun t h => (by cases h), s2⟩ ?_
  clear s2
  rintro LQ env w' ⟨seen, best, x3, rfl, hcnt, hb0, hb1, s'⟩ hN hE hR
  have hseen : seenN w' bi = seen.size := by unfold seenN; rw [s'.look]
  simp
  refine eff_nxtI s' hok.lt (fun e he hns w2 s2 => ?_) (fun hall w2 s2 => ?_)
  · simp
    refine eff_ent s2 he hok.bn ?_
    obtain ⟨u, hu, huk, huq, hev⟩ := ent e he
    rw [hev]
    simp
    have hleft := left_push he hns
    have nx : ∀ (t : Tm) (w3 : World), t ∈ ts → tmQ t = q → (∀ e' ∈ es, e'.b ∈ seen.push e.b → ∀ v ∈ ts, v.n = e'.k → ltOf ordF (tmr v) (tmr t) = false) → St w0 (B * hungA ts * imap m es c * pt bi (.mapIter (some m) c (seen.push e.b) c)) w3 →
        LQ .nrm [.map (some m), .pointer (some ⟨b0, 0, none⟩), tp t, tp u, .pointer (some ⟨bi, 0, none⟩)] w3 := by
      intro t w3 h1 h2 h3 s3
      refine hN _ _ ⟨seen.push e.b, some t, _, rfl, by rw [Array.size_push]; omega, fun h => (by cases h), fun t' h => (by cases h; exact ⟨h1, h2, h3⟩), s3⟩ ?_
      have g1 : seenN w3 bi = seen.size + 1 := by unfold seenN; rw [s3.look]; exact Array.size_push _
      have g2 : seen.size ≤ es.length := by omega
      rw [g1, hseen]; omega
    have selfm : ∀ v ∈ ts, v.n = e.k → v = u := fun v hv hvk => num_inj hn hv hu (hvk.trans huk.symm)
    cases best with
    | none =>
      have hsz : seen.size = 0 := hb0 rfl
      have hse : seen = #[] := Array.eq_empty_of_size_eq_zero hsz
      simp
      refine brmI (oneO2 (St w0 (B * hungA ts * imap m es c * pt bi (.mapIter (some m) c (seen.push e.b) c))) (fun r => True)) s2.drew ?_
      simp
      intro w3 s3
      have s3 : St w0 (B * hungA ts * imap m es c * pt bi (.mapIter (some m) c (seen.push e.b) c)) w3 := s3
      refine nx u w3 hu huq (fun e' he' hin v hv hvk => ?_) s3
      subst hse
      have hbe : e'.b = e.b := by simpa using hin
      have hk' : e'.k = e.k := (en_eq hok he he').1 hbe
      rw [selfm v hv (hvk.trans hk')]
      exact ordO.irrefl _
    | some t =>
      obtain ⟨ht, htq, hmin⟩ := hb1 t rfl
      simp
      refine brmI (oneO2 (St w0 (B * hungA ts * imap m es c * pt bi (.mapIter (some m) c (seen.push e.b) c))) (fun r => r = .int .i64 (ordF (tmr u) (tmr t)))) s2.drew ?_
      have cellsOf : ∀ {v : Tm}, v ∈ ts → ∀ w, St w0 (B * hungA ts * imap m es c * pt bi (.mapIter (some m) c (seen.push e.b) c)) w → ∀ j y, (encT (tmr v))[j]? = some y → w.cell? ⟨v.b, 0 + j, none⟩ = some y := fun {v} hv w sw j y hy => by
        refine hung_cells hn hv sw.drop.drop j y ?_
        match j, hy with
        | 0, hy => exact hy
        | 1, hy => exact hy
      simp
      refine effm_ldcs (us := encT (tmr u)) (fun vs' w he' hw => ?_) rfl ?_
      · match vs', hw with
        | [], hw => exact cellsOf hu w hw
        | [_], hw => simp [era] at he'
      simp
      refine effm_ldcs (us := encT (tmr t)) (fun vs' w he' hw => ?_) rfl ?_
      · match vs', hw with
        | [], hw => exact cellsOf ht w hw
        | [_], hw => simp [era] at he'
      simp
      refine effm_mv rfl (fun w hw => eff_call ((order_spec (tmr u) (tmr t) w0 w _ hw).mono fun r w' h => h)) (fun r hr => ?_)
      obtain ⟨_, hr, _⟩ := hr
      have hr : r = .int .i64 (ordF (tmr u) (tmr t)) := hr
      subst hr
      simp
      intro w3 s3
      have s3 : St w0 (B * hungA ts * imap m es c * pt bi (.mapIter (some m) c (seen.push e.b) c)) w3 := s3.2
      have mem : ∀ e' ∈ es, e'.b ∈ seen.push e.b → e'.b ∈ seen ∨ e'.k = e.k := fun e' he' hin => by
        rcases Array.mem_push.1 hin with h | h
        · exact .inl h
        · exact .inr ((en_eq hok he he').1 h)
      refine cndI (fun h => ?_) (fun h => ?_)
      · have hlt : ltOf ordF (tmr u) (tmr t) = true := h
        simp
        refine nx u w3 hu huq (fun e' he' hin v hv hvk => ?_) s3
        rcases mem e' he' hin with h1 | h1
        · have := hmin e' he' h1 v hv hvk
          rw [ltOrd] at *
          simp at *
          omega
        · rw [selfm v hv (hvk.trans h1)]
          exact ordO.irrefl _
      · have hlt : ltOf ordF (tmr u) (tmr t) = false := h
        simp
        refine nx t w3 ht htq (fun e' he' hin v hv hvk => ?_) s3
        rcases mem e' he' hin with h1 | h1
        · exact hmin e' he' h1 v hv hvk
        · rw [selfm v hv (hvk.trans h1)]
          exact hlt
  · simp
    refine hE _ _ _ ?_
    cases best with
    | none =>
      obtain ⟨t, ht, hq⟩ := hex
      obtain ⟨e, he, _⟩ := ent2 t ht hq
      have := hall e he
      have hsz : seen.size = 0 := hb0 rfl
      rw [Array.eq_empty_of_size_eq_zero hsz] at this
      simp at this
    | some t =>
      obtain ⟨ht, htq, hmin⟩ := hb1 t rfl
      simp
      refine eff_ldcs (vs := encT (tmr t)) (fun j y hy => ?_) rfl ?_
      · refine hung_cells hn ht s2.drop.drop j y ?_
        match j, hy with
        | 0, hy => exact hy
        | 1, hy => exact hy
      simp
      rw [← hB] at s2
      refine eff_stA (vs := encT (tmr t)) ((s2.drop).to (B := A * imap m es c * hungA ts * pt b0 (.cells #[.int .i64 0, .int .i64 0] 32 (0, 0))) (by ac_rfl)) rfl rfl (encT_one _) (by simp) ?_
      intro w3 s3
      have s3 : St w0 (A * imap m es c * hungA ts * pt b0 (.cells (encT (tmr t)).toArray 32 (0, 0))) w3 := by simpa using s3
      simp
      refine rv_cellA (vs := encT (tmr t)) rfl s3.row_cells rfl ?_
      simp
      exact hk t w3 ht htq (fun u hu hq => by
        obtain ⟨e, he, hek⟩ := ent2 u hu hq
        exact hmin e he (hall e he) u hu hek.symm) s3.drop
end Go.HL.Wh

namespace Go.HL.Wh
open Go.HL Go.Proofs
set_option maxRecDepth 4000
set_option linter.unusedSimpArgs false
set_option linter.unusedVariables false
def hdF : List (Int × Int) → Int × Int
  | [] => (0, 0)
  | x :: _ => x
theorem hd_min {ts : List Tm} {t : Tm} (ht : t ∈ ts) (h : ∀ u ∈ ts, ltOf ordF (tmr u) (tmr t) = false) : hdF (sortT (ts.map tmr)) = tmr t := by
  have hp := sortT_perm (ts.map tmr)
  have hw := sortT_pw (ts.map tmr)
  cases hL : sortT (ts.map tmr) with
  | nil =>
    rw [hL] at hp
    have := hp.mem_iff.2 (List.mem_map.2 ⟨t, ht, rfl⟩)
    cases this
  | cons x r =>
    rw [hL] at hp hw
    have h1 : x ∈ ts.map tmr := hp.mem_iff.1 (List.mem_cons_self ..)
    obtain ⟨u, hu, rfl⟩ := List.mem_map.1 h1
    have h2 := hp.mem_iff.2 (List.mem_map.2 ⟨t, ht, rfl⟩)
    rcases List.mem_cons.1 h2 with h3 | h3
    · exact h3.symm
    · exact ordT _ _ (h u hu) ((List.pairwise_cons.1 hw).1 _ h3)
theorem cnt_pos {now : Nat} {ts : List Tm} (h : plOK now ts) {q : Nat} : 0 < cntQ now (ts.map tmr) q ↔ ∃ t ∈ ts, tmQ t = q := by
  unfold cntQ
  rw [List.length_pos_iff_exists_mem]
  constructor
  · rintro ⟨x, hx⟩
    obtain ⟨h1, h2⟩ := List.mem_filter.1 hx
    obtain ⟨t, ht, rfl⟩ := List.mem_map.1 h1
    refine ⟨t, ht, ?_⟩
    rw [h.q ht]
    exact of_decide_eq_true h2
  · rintro ⟨t, ht, hq⟩
    refine ⟨tmr t, List.mem_filter.2 ⟨List.mem_map.2 ⟨t, ht, rfl⟩, ?_⟩⟩
    rw [h.q ht] at hq
    exact decide_eq_true hq
set_option maxHeartbeats 2000000 in
theorem First_spec (p now mv : Nat) (ts : List Tm) (w0 w : World) (A : Asn) (hpl : plOK now ts) (hlen : ts.length ≤ 65536) (s : St w0 (A * whl p now mv ts) w) :
    CallW Try.prog 43 [.pointer (some ⟨p, 0, none⟩)] (fun r w' => r = .tuple #[.agg (encT (hdF (sortT (ts.map tmr)))).toArray, .bool (decide (ts ≠ []))] ∧ St w0 (A * whl p now mv ts) w') w := by
  refine callW_of_lift l43_ok (by simp [l43]) ?_
  simp [l43]
  refine eff_new s ?_
  intro b0 w1 s1
  simp
  have s1 : St w0 (A * whl p now mv ts * lastA b0 (0, 0)) w1 := s1
  refine eff_call ((Len_spec p now mv ts w0 w1 (A * lastA b0 (0, 0)) (s1.to (by ac_rfl))).mono ?_)
  rintro r w2 ⟨rfl, s2⟩
  have s2 := s2.to (B := A * lastA b0 (0, 0) * whl p now mv ts) (by ac_rfl)
  clear s s1
  simp
  refine cndI (fun h => ?_) (fun h => ?_)
  · have hn : ts = [] := by
      simp at h
      exact h
    subst hn
    simp [Instr.fill, Value.cells]
    refine eff_stA (vs := encT (0, 0)) (s2.to (B := A * whl p now mv [] * lastA b0 (0, 0)) (by ac_rfl)) rfl rfl (encT_one _) (by simp) ?_
    intro w3 s3
    have s3 : St w0 (A * whl p now mv [] * lastA b0 (0, 0)) w3 := by simpa using s3
    simp
    refine rv_cellA (vs := encT (0, 0)) rfl s3.row_cells rfl ?_
    simp
    have e0 : sortT ([] : List (Int × Int)) = [] := List.eq_nil_of_length_eq_zero (by rw [sortT_len]; rfl)
    rw [e0]
    exact ⟨⟨rfl, rfl⟩, s3.drop⟩
  have hne : ts ≠ [] := by
    simp at h
    exact h
  obtain ⟨am, aes, ac, Y, hok, t1⟩ := wopen s2
  obtain ⟨B, hB⟩ : ∃ B, A * imap am aes ac * wc p now mv am Y = B := ⟨_, rfl⟩
  have t2 : St w0 (B * lastA b0 (0, 0) * hungA ts * bigA slA Y 257) w2 := by rw [← hB]; exact t1.to (by ac_rfl)
  have cell : ∀ {w q}, q < 257 → St w0 (B * lastA b0 (0, 0) * hungA ts * bigA slA Y 257) w → w.cell? ⟨p, 3 + q, none⟩ = some (slv (Y q)) := fun hq sw => by
    rw [← hB] at sw
    exact wc_cell (B := A * imap am aes ac * lastA b0 (0, 0) * hungA ts * bigA slA Y 257) (sw.to (by ac_rfl)) hq
  -- a slot that holds a timer, and none before it
  have found : ∀ (q : Nat) (w : World) {K : Value → World → Prop}, q < 257 → (∃ t ∈ ts, tmQ t = q) → (∀ t ∈ ts, q ≤ tmQ t) → St w0 (B * lastA b0 (0, 0) * hungA ts * bigA slA Y 257) w →
      (∀ w', St w0 (A * whl p now mv ts * lastA b0 (0, 0)) w' → K (.agg (encT (hdF (sortT (ts.map tmr)))).toArray) w') → CallW Try.prog 54 [slv (Y q)] K w := by
    intro q w K hq hex hmin sw hk
    cases hY : Y q with
    | none =>
      obtain ⟨t, ht, hqt⟩ := hex
      have := ((hok.sl q hq).mem t.n (tp t)).2 ⟨t, ht, rfl, hqt, rfl⟩
      rw [hY] at this
      cases this
    | some x =>
      rw [big_at hq, hY] at sw
      have sl := hok.sl q hq
      rw [hY] at sl
      refine first_spec q now Y ts x w0 w (B * lastA b0 (0, 0) * bigH slA Y q 257) hok.num sl hex (sw.to (by rw [show slA q (some x) = imap x.1 x.2.1 x.2.2 from rfl]; ac_rfl)) fun t w' ht htq hm sw' => ?_
      have hall : ∀ u ∈ ts, ltOf ordF (tmr u) (tmr t) = false := by
        intro u hu
        by_cases huq : tmQ u = q
        · exact hm u hu huq
        · have h1 := hmin u hu
          have h2 : ¬ u.a ≤ t.a := fun hle => by
            have := lvQ_mono (hpl.ah u hu) hle
            rw [← hpl.q hu, ← hpl.q ht] at this
            omega
          rw [ltOrd]
          simp [tmr]
          omega
      rw [← hd_min ht hall]
      refine hk w' ?_
      have e : bigA slA Y 257 = bigH slA Y q 257 * imap x.1 x.2.1 x.2.2 := by rw [big_at hq, hY]; rfl
      rw [← hB] at sw'
      refine (wclose hok (St.to sw' (B := A * lastA b0 (0, 0) * hungA ts * bigA slA Y 257 * imap am aes ac * wc p now mv am Y) ?_)).to (by ac_rfl)
      rw [e]
      ac_rfl
  clear t1 s2
  simp
  refine loopI (fun env w' => ∃ (l : Nat) (x3 x4 x6 x7 : Value), env = [.pointer (some ⟨p, 0, none⟩), .pointer (some ⟨b0, 0, none⟩), .bool false, x3, x4, .int .i64 l, x6, x7] ∧ l ≤ 4 ∧ (∀ t ∈ ts, l * 64 ≤ tmQ t) ∧ St w0 (B * lastA b0 (0, 0) * hungA ts * bigA slA Y 257) w')
    (fun env _ => 4 - slotN env 5) ⟨0, _, _, _, _, rfl, by omega, fun _ _ => by omega, t2⟩ ?_
  clear t2
  rintro LQ env w' ⟨l, x3, x4, x6, x7, rfl, hl, hq, s'⟩ hN hE hR
  simp
  refine cndI (fun h => ?_) (fun h => ?_)
  · have hl4 : l < 4 := by
      simp at h
      omega
    have hl4i : (l : Int) < 4 := by omega
    simp [hl4i]
    refine eff_ldcs (vs := (List.range 64).map fun j => slv (Y (l * 64 + j))) (fun j u hu => ?_) (by simp) ?_
    · have hj : j < 64 := by
        have := (List.getElem?_eq_some_iff.1 hu).1
        simpa using this
      have := cell (q := l * 64 + j) (by omega) s'
      simp [hj] at hu
      subst hu
      rw [show 3 + l * 64 + j = 3 + (l * 64 + j) by omega]
      exact this
    simp
    refine loopI (fun env w' => ∃ (n : Nat) (x4 : Value), env = [.pointer (some ⟨p, 0, none⟩), .pointer (some ⟨b0, 0, none⟩), .bool false, .int .i64 l, x4, .int .i64 l, .agg ((List.range 64).map fun j => slv (Y (l * 64 + j))).toArray, .int .i64 n] ∧ n ≤ 64 ∧ (∀ t ∈ ts, l * 64 + n ≤ tmQ t) ∧ St w0 (B * lastA b0 (0, 0) * hungA ts * bigA slA Y 257) w')
      (fun env _ => 64 - slotN env 7) ⟨0, _, rfl, by omega, fun t ht => by have := hq t ht; omega, s'⟩ ?_
    clear s'
    rintro LQ2 env w3 ⟨n, x4, rfl, hn, hqn, s3⟩ hN2 hE2 hR2
    simp
    refine cndI (fun h2 => ?_) (fun h2 => ?_)
    · have hn64 : n < 64 := by
        simp at h2
        omega
      have hn64i : (n : Int) < 64 := by omega
      simp [hn64, hn64i]
      refine eff_lenS (p := p) (am := am) (mv := mv) (q := l * 64 + n) hpl (by omega) (hok.sl _ (by omega)) s3 ?_
      simp
      refine cndI (fun h3 => ?_) (fun h3 => ?_)
      · have hpos : 0 < cntQ now (ts.map tmr) (l * 64 + n) := by
          simp at h3
          omega
        simp
        refine eff_call (found (l * 64 + n) w3 (by omega) ((cnt_pos hpl).1 hpos) hqn s3 fun w4 s4 => ?_)
        simp
        refine eff_stA (vs := encT (hdF (sortT (ts.map tmr)))) s4 rfl rfl (encT_one _) (by simp) ?_
        intro w5 s5
        have s5 : St w0 (A * whl p now mv ts * lastA b0 (hdF (sortT (ts.map tmr)))) w5 := by simpa using s5
        simp
        refine hR2 _ _ ?_
        simp
        refine hR _ _ ?_
        simp
        refine rv_cellA (vs := encT (hdF (sortT (ts.map tmr)))) rfl s5.row_cells rfl ?_
        simp
        exact ⟨hne, s5.drop⟩
      · have hno : ¬ 0 < cntQ now (ts.map tmr) (l * 64 + n) := by
          simp at h3
          omega
        simp
        try simp (disch := omega) only [wrap64]
        refine hN2 _ _ ⟨n + 1, _, by simp; rfl, by omega, fun t ht => ?_, s3⟩ (by simp [slotN]; omega)
        have h1 := hqn t ht
        have h4 : tmQ t ≠ l * 64 + n := fun e => hno ((cnt_pos hpl).2 ⟨t, ht, e⟩)
        omega
    · have hn64 : n = 64 := by
        simp at h2
        omega
      subst hn64
      simp
      refine hE2 _ _ _ ?_
      simp
      try simp (disch := omega) only [wrap64]
      refine hN _ _ ⟨l + 1, _, _, _, _, by simp; exact ⟨rfl, rfl, rfl, rfl⟩, by omega, fun t ht => by have := hqn t ht; omega, s3⟩ (by simp [slotN]; omega)
  · have hl4 : l = 4 := by
      simp at h
      omega
    subst hl4
    simp
    refine hE _ _ _ ?_
    simp
    refine eff_ldc (v := slv (Y 256)) (cell (q := 256) (by decide) s') ?_
    simp
    have hall : ∀ t ∈ ts, tmQ t = 256 := fun t ht => by
      have h1 := hq t ht
      have h2 := tmQ_lt (hok.tm t ht)
      omega
    refine eff_call (found 256 w' (by decide) ?_ (fun t ht => by rw [hall t ht]; exact Nat.le_refl _) s' fun w4 s4 => ?_)
    · cases ts with
      | nil => exact absurd rfl hne
      | cons t r => exact ⟨t, List.mem_cons_self .., hall t (List.mem_cons_self ..)⟩
    simp
    refine eff_stA (vs := encT (hdF (sortT (ts.map tmr)))) s4 rfl rfl (encT_one _) (by simp) ?_
    intro w5 s5
    have s5 : St w0 (A * whl p now mv ts * lastA b0 (hdF (sortT (ts.map tmr)))) w5 := by simpa using s5
    simp
    refine rv_cellA (vs := encT (hdF (sortT (ts.map tmr)))) rfl s5.row_cells rfl ?_
    simp
    exact ⟨hne, s5.drop⟩
end Go.HL.Wh

namespace Go.HL.Wh
open Go.HL Go.Proofs
set_option maxRecDepth 4000
set_option linter.unusedSimpArgs false
set_option linter.unusedVariables false
theorem nSched (n a : Int) (w : World) {K : Value → World → Prop} (hk : K (.int .i64 1) w) : CallW Try.prog 12 [.pointer none, .int .i64 n, .int .i64 a] K w := by
  refine callW_of_lift l12_ok (by simp [l12]) ?_
  simp [l12]
  exact hk
theorem nCancel (n : Int) (w : World) {K : Value → World → Prop} (hk : K (.int .i64 1) w) : CallW Try.prog 13 [.pointer none, .int .i64 n] K w := by
  refine callW_of_lift l13_ok (by simp [l13]) ?_
  simp [l13]
  exact hk
theorem nAdvance (n : Int) (w : World) {K : Value → World → Prop} (hk : K (.tuple #[.slice none 0 0, .int .i64 1]) w) : CallW Try.prog 14 [.pointer none, .int .i64 n] K w := by
  refine callW_of_lift l14_ok (by simp [l14]) ?_
  simp [l14]
  exact hk
theorem nLoad (n : Int) (w : World) {K : Value → World → Prop} (hk : K (.slice none 0 0) w) : CallW Try.prog 21 [.pointer none, .int .i64 n] K w := by
  refine callW_of_lift l21_ok (by simp [l21]) ?_
  simp [l21]
  exact hk
theorem nAll (w : World) {K : Value → World → Prop} (hk : K (.slice none 0 0) w) : CallW Try.prog 20 [.pointer none] K w := by
  refine callW_of_lift l20_ok (by simp [l20]) ?_
  simp [l20]
  exact hk
theorem nNow (w : World) {K : Value → World → Prop} (hk : K (.int .i64 0) w) : CallW Try.prog 16 [.pointer none] K w := by
  refine callW_of_lift l16_ok (by simp [l16]) ?_
  simp [l16]
  exact hk
theorem nLen (w : World) {K : Value → World → Prop} (hk : K (.int .i64 0) w) : CallW Try.prog 15 [.pointer none] K w := by
  refine callW_of_lift l15_ok (by simp [l15]) ?_
  simp [l15]
  exact hk
theorem nMoves (w : World) {K : Value → World → Prop} (hk : K (.int .i64 0) w) : CallW Try.prog 17 [.pointer none] K w := by
  refine callW_of_lift l17_ok (by simp [l17]) ?_
  simp [l17]
  exact hk
theorem nFind (n : Int) (w0 w : World) (A : Asn) (s : St w0 A w) : CallW Try.prog 35 [.pointer none, .int .i64 n] (fun r w' => r = .tuple #[.agg (fcs none).toArray, .int .i64 1] ∧ St w0 A w') w := by
  refine callW_of_lift l35_ok (by simp [l35]) ?_
  simp [l35]
  refine eff_new s ?_
  intro b w1 s1
  simp [Instr.fill, Value.cells]
  refine eff_stA (vs := fcs none) s1 rfl rfl (fcs_one none) (by simp) ?_
  intro w2 s3
  simp
  have s4 : St w0 (A * pt b (.cells (fcs none).toArray 79 (0, 0))) w2 := by simpa [fcs] using s3
  refine rv_cellA (vs := fcs none) rfl s4.row_cells rfl ?_
  simp
  exact s4.drop
theorem nWhen (n : Int) (w0 w : World) (A : Asn) (s : St w0 A w) :
    CallW Try.prog 42 [.pointer none, .int .i64 n] (fun r w' => r = .tuple #[.int .i64 0, .int .i64 1] ∧ St w0 A w') w := by
  refine callW_of_lift l42_ok (by simp [l42]) ?_
  simp [l42]
  refine eff_call ((nFind n w0 w A s).mono ?_)
  rintro r w1 ⟨rfl, s1⟩
  simp
  refine eff_new s1 ?_
  intro b w2 s2
  simp
  refine eff_stA (vs := fcs none) s2 rfl (fcs_len none) (fcs_one none) (by simp) ?_
  intro w3 s3
  have s4 : St w0 (A * pt b (.cells (fcs none).toArray 79 (0, 0))) w3 := by simpa [fcs_len] using s3
  simp
  refine eff_ldc (v := .int .i64 0) (by have := s4.row_cells 1 _ rfl; exact this) ?_
  simp
  exact s4.drop
theorem nPlace (n : Int) (w0 w : World) (A : Asn) (s : St w0 A w) :
    CallW Try.prog 25 [.pointer none, .int .i64 n] (fun r w' => r = .tuple #[.int .i64 0, .int .i64 0, .int .i64 1] ∧ St w0 A w') w := by
  refine callW_of_lift l25_ok (by simp [l25]) ?_
  simp [l25]
  refine eff_call ((nFind n w0 w A s).mono ?_)
  rintro r w1 ⟨rfl, s1⟩
  simp
  refine eff_new s1 ?_
  intro b w2 s2
  simp
  refine eff_stA (vs := fcs none) s2 rfl (fcs_len none) (fcs_one none) (by simp) ?_
  intro w3 s3
  have s4 : St w0 (A * pt b (.cells (fcs none).toArray 79 (0, 0))) w3 := by simpa [fcs_len] using s3
  simp
  refine regqI s4 ?_
  simp
  refine effq_ldc (v := .int .i64 0) (fun w s => by have := s.row_cells 2 _ rfl; exact this) ?_
  simp
  refine effq_ldc (v := .int .i64 0) (fun w s => by have := s.row_cells 3 _ rfl; exact this) ?_
  simp
  intro w4 s5
  exact s5.drop
theorem nFirst (w0 w : World) (A : Asn) (s : St w0 A w) :
    CallW Try.prog 43 [.pointer none] (fun r w' => r = .tuple #[.agg (encT (0, 0)).toArray, .bool false] ∧ St w0 A w') w := by
  refine callW_of_lift l43_ok (by simp [l43]) ?_
  simp [l43]
  refine eff_new s ?_
  intro b w1 s1
  simp
  refine eff_call (nLen w1 ?_)
  simp [Instr.fill, Value.cells]
  refine eff_stA (vs := encT (0, 0)) s1 rfl rfl (encT_one _) (by simp) ?_
  intro w2 s3
  simp
  have s4 : St w0 (A * lastA b (0, 0)) w2 := by simpa using s3
  refine rv_cellA (vs := encT (0, 0)) rfl s4.row_cells rfl ?_
  simp
  exact s4.drop
theorem nrSched (n a : Int) (w : World) {K : Value → World → Prop} (hk : K (.int .i64 1) w) : CallW Try.prog 36 [.pointer none, .int .i64 n, .int .i64 a] K w := by
  refine callW_of_lift l36_ok (by simp [l36]) ?_
  simp [l36]
  exact hk
theorem nrCancel (n : Int) (w : World) {K : Value → World → Prop} (hk : K (.int .i64 1) w) : CallW Try.prog 37 [.pointer none, .int .i64 n] K w := by
  refine callW_of_lift l37_ok (by simp [l37]) ?_
  simp [l37]
  exact hk
theorem nrAdvance (n : Int) (w : World) {K : Value → World → Prop} (hk : K (.tuple #[.slice none 0 0, .int .i64 1]) w) : CallW Try.prog 38 [.pointer none, .int .i64 n] K w := by
  refine callW_of_lift l38_ok (by simp [l38]) ?_
  simp [l38]
  exact hk
theorem nrLoad (n : Int) (w : World) {K : Value → World → Prop} (hk : K (.slice none 0 0) w) : CallW Try.prog 41 [.pointer none, .int .i64 n] K w := by
  refine callW_of_lift l41_ok (by simp [l41]) ?_
  simp [l41]
  exact hk
end Go.HL.Wh
