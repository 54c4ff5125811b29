/-
  Goods: the law's own function once: items that stand right are each at one place. Conditions: so many items at most.
-/
import Derived.Test.YtfcgookobpjdgaaGdF
namespace Go.HL.Gd
open Go.HL Go.Proofs
set_option maxRecDepth 4000
set_option linter.unusedSimpArgs false
set_option linter.unusedVariables false
-- bazaar/bazaarlaw15.once
def h14_0 : HC := (.seq (.reg (.chk none .lenL (.cons (.inp 2) .nil) (.chk none (.bin .eql) (.cons (.inp 3) (.cons (.op .lenL (.cons (.inp 2) .nil)) .nil)) (.done [(1, (.op (.bin .eql) (.cons (.inp 3) (.cons (.op .lenL (.cons (.inp 2) .nil)) .nil))))] none)))) .ret)
@[simp] theorem h14_0_wp {P : Program} {F : PF P} {Q : EX → List Value → World → Prop} {env : List Value} {w : World} : h14_0.wp F Q env w = HC.wp F (.seq (.reg (.chk none .lenL (.cons (.inp 2) .nil) (.chk none (.bin .eql) (.cons (.inp 3) (.cons (.op .lenL (.cons (.inp 2) .nil)) .nil)) (.done [(1, (.op (.bin .eql) (.cons (.inp 3) (.cons (.op .lenL (.cons (.inp 2) .nil)) .nil))))] none)))) .ret) Q env w := rfl
def h14_1 : HC := (.reg (.chk none (.bin .add) (.cons (.inp 10) (.cons (.cst (.int .i64 1)) .nil)) (.done [(10, (.op (.bin .add) (.cons (.inp 10) (.cons (.cst (.int .i64 1)) .nil))))] none)))
@[simp] theorem h14_1_wp {P : Program} {F : PF P} {Q : EX → List Value → World → Prop} {env : List Value} {w : World} : h14_1.wp F Q env w = HC.wp F (.reg (.chk none (.bin .add) (.cons (.inp 10) (.cons (.cst (.int .i64 1)) .nil)) (.done [(10, (.op (.bin .add) (.cons (.inp 10) (.cons (.cst (.int .i64 1)) .nil))))] none))) Q env w := rfl
def h14_2 : HC := (.reg (.chk none (.bin .add) (.cons (.inp 3) (.cons (.cst (.int .i64 1)) .nil)) (.done [(3, (.op (.bin .add) (.cons (.inp 3) (.cons (.cst (.int .i64 1)) .nil))))] none)))
@[simp] theorem h14_2_wp {P : Program} {F : PF P} {Q : EX → List Value → World → Prop} {env : List Value} {w : World} : h14_2.wp F Q env w = HC.wp F (.reg (.chk none (.bin .add) (.cons (.inp 3) (.cons (.cst (.int .i64 1)) .nil)) (.done [(3, (.op (.bin .add) (.cons (.inp 3) (.cons (.cst (.int .i64 1)) .nil))))] none))) Q env w := rfl
def h14_3 : HC := (.seq (.reg (.done [(1, (.cst (.bool false)))] none)) .ret)
@[simp] theorem h14_3_wp {P : Program} {F : PF P} {Q : EX → List Value → World → Prop} {env : List Value} {w : World} : h14_3.wp F Q env w = HC.wp F (.seq (.reg (.done [(1, (.cst (.bool false)))] none)) .ret) Q env w := rfl
def h14_4 : HC := (.seq (.br (.chk none (.un .not) (.cons (.inp 14) .nil) (.bnd (.op (.un .not) (.cons (.inp 14) .nil)) (.chk (some ((.bv 0), false)) (.fld 3) (.cons (.inp 11) .nil) (.ite (.bv 0) false (.eff (.ld false 1) (.cons (.ite (.bv 0) false (.op (.fld 3) (.cons (.inp 11) .nil)) (.cst (.tuple #[]))) .nil) (.chk none (.bin .lss) (.cons (.bv 1) (.cons (.cst (.int .i64 0)) .nil)) (.isb none (.bv 0) (.bnd (.op (.bin .lss) (.cons (.bv 1) (.cons (.cst (.int .i64 0)) .nil))) (.chk (some ((.bv 2), false)) (.fld 2) (.cons (.inp 11) .nil) (.ite (.bv 2) false (.eff (.ld false 1) (.cons (.ite (.bv 2) false (.op (.fld 2) (.cons (.inp 11) .nil)) (.cst (.tuple #[]))) .nil) (.chk none (.bin .neq) (.cons (.bv 3) (.cons (.cst (.int .i64 (-1))) .nil)) (.isb none (.bv 2) (.done [] (some (.op (.bin .neq) (.cons (.bv 3) (.cons (.cst (.int .i64 (-1))) .nil)))))))) (.isb none (.bv 2) (.done [] (some (.cst (.bool true))))))))))) (.isb none (.bv 0) (.isb none (.cst (.bool true)) (.done [] (some (.cst (.bool true)))))))))) h14_3 .skip) h14_2)
@[simp] theorem h14_4_wp {P : Program} {F : PF P} {Q : EX → List Value → World → Prop} {env : List Value} {w : World} : h14_4.wp F Q env w = HC.wp F (.seq (.br (.chk none (.un .not) (.cons (.inp 14) .nil) (.bnd (.op (.un .not) (.cons (.inp 14) .nil)) (.chk (some ((.bv 0), false)) (.fld 3) (.cons (.inp 11) .nil) (.ite (.bv 0) false (.eff (.ld false 1) (.cons (.ite (.bv 0) false (.op (.fld 3) (.cons (.inp 11) .nil)) (.cst (.tuple #[]))) .nil) (.chk none (.bin .lss) (.cons (.bv 1) (.cons (.cst (.int .i64 0)) .nil)) (.isb none (.bv 0) (.bnd (.op (.bin .lss) (.cons (.bv 1) (.cons (.cst (.int .i64 0)) .nil))) (.chk (some ((.bv 2), false)) (.fld 2) (.cons (.inp 11) .nil) (.ite (.bv 2) false (.eff (.ld false 1) (.cons (.ite (.bv 2) false (.op (.fld 2) (.cons (.inp 11) .nil)) (.cst (.tuple #[]))) .nil) (.chk none (.bin .neq) (.cons (.bv 3) (.cons (.cst (.int .i64 (-1))) .nil)) (.isb none (.bv 2) (.done [] (some (.op (.bin .neq) (.cons (.bv 3) (.cons (.cst (.int .i64 (-1))) .nil)))))))) (.isb none (.bv 2) (.done [] (some (.cst (.bool true))))))))))) (.isb none (.bv 0) (.isb none (.cst (.bool true)) (.done [] (some (.cst (.bool true)))))))))) h14_3 .skip) h14_2) Q env w := rfl
def h14_5 : HC := (.reg (.chk none (.bin .add) (.cons (.inp 15) (.cons (.cst (.int .i64 1)) .nil)) (.done [(15, (.op (.bin .add) (.cons (.inp 15) (.cons (.cst (.int .i64 1)) .nil))))] none)))
@[simp] theorem h14_5_wp {P : Program} {F : PF P} {Q : EX → List Value → World → Prop} {env : List Value} {w : World} : h14_5.wp F Q env w = HC.wp F (.reg (.chk none (.bin .add) (.cons (.inp 15) (.cons (.cst (.int .i64 1)) .nil)) (.done [(15, (.op (.bin .add) (.cons (.inp 15) (.cons (.cst (.int .i64 1)) .nil))))] none))) Q env w := rfl
def h14_6 : HC := (.regq (some 0) (.chk (some ((.inp 14), false)) (.idxL 1) (.cons (.inp 13) (.cons (.inp 15) .nil)) (.ite (.inp 14) false (.eff (.ld false 1) (.cons (.ite (.inp 14) false (.op (.idxL 1) (.cons (.inp 13) (.cons (.inp 15) .nil))) (.cst (.tuple #[]))) .nil) (.chk none (.fld 0) (.cons (.inp 11) .nil) (.eff (.ld false 1) (.cons (.op (.fld 0) (.cons (.inp 11) .nil)) .nil) (.chk none (.bin .eql) (.cons (.bv 0) (.cons (.bv 1) .nil)) (.isb none (.inp 14) (.done [(14, (.op (.bin .eql) (.cons (.bv 0) (.cons (.bv 1) .nil))))] none)))))) (.isb none (.inp 14) (.done [(14, (.cst (.bool true)))] none)))))
@[simp] theorem h14_6_wp {P : Program} {F : PF P} {Q : EX → List Value → World → Prop} {env : List Value} {w : World} : h14_6.wp F Q env w = HC.wp F (.regq (some 0) (.chk (some ((.inp 14), false)) (.idxL 1) (.cons (.inp 13) (.cons (.inp 15) .nil)) (.ite (.inp 14) false (.eff (.ld false 1) (.cons (.ite (.inp 14) false (.op (.idxL 1) (.cons (.inp 13) (.cons (.inp 15) .nil))) (.cst (.tuple #[]))) .nil) (.chk none (.fld 0) (.cons (.inp 11) .nil) (.eff (.ld false 1) (.cons (.op (.fld 0) (.cons (.inp 11) .nil)) .nil) (.chk none (.bin .eql) (.cons (.bv 0) (.cons (.bv 1) .nil)) (.isb none (.inp 14) (.done [(14, (.op (.bin .eql) (.cons (.bv 0) (.cons (.bv 1) .nil))))] none)))))) (.isb none (.inp 14) (.done [(14, (.cst (.bool true)))] none))))) Q env w := rfl
def h14_7 : HC := (.seq (.block 7 h14_6) h14_5)
@[simp] theorem h14_7_wp {P : Program} {F : PF P} {Q : EX → List Value → World → Prop} {env : List Value} {w : World} : h14_7.wp F Q env w = HC.wp F (.seq (.block 7 h14_6) h14_5) Q env w := rfl
def h14_8 : HC := (.seq (.br (.chk none .lenL (.cons (.inp 13) .nil) (.chk none (.bin .lss) (.cons (.inp 15) (.cons (.op .lenL (.cons (.inp 13) .nil)) .nil)) (.done [] (some (.op (.bin .lss) (.cons (.inp 15) (.cons (.op .lenL (.cons (.inp 13) .nil)) .nil))))))) .skip (.exit 6)) h14_7)
@[simp] theorem h14_8_wp {P : Program} {F : PF P} {Q : EX → List Value → World → Prop} {env : List Value} {w : World} : h14_8.wp F Q env w = HC.wp F (.seq (.br (.chk none .lenL (.cons (.inp 13) .nil) (.chk none (.bin .lss) (.cons (.inp 15) (.cons (.op .lenL (.cons (.inp 13) .nil)) .nil)) (.done [] (some (.op (.bin .lss) (.cons (.inp 15) (.cons (.op .lenL (.cons (.inp 13) .nil)) .nil))))))) .skip (.exit 6)) h14_7) Q env w := rfl
def h14_9 : HC := (.loop h14_8)
@[simp] theorem h14_9_wp {P : Program} {F : PF P} {Q : EX → List Value → World → Prop} {env : List Value} {w : World} : h14_9.wp F Q env w = HC.wp F (.loop h14_8) Q env w := rfl
def h14_10 : HC := (.seq (.block 6 h14_9) h14_4)
@[simp] theorem h14_10_wp {P : Program} {F : PF P} {Q : EX → List Value → World → Prop} {env : List Value} {w : World} : h14_10.wp F Q env w = HC.wp F (.seq (.block 6 h14_9) h14_4) Q env w := rfl
def h14_11 : HC := (.seq (.reg (.done [(15, (.cst (.int .i64 0)))] none)) h14_10)
@[simp] theorem h14_11_wp {P : Program} {F : PF P} {Q : EX → List Value → World → Prop} {env : List Value} {w : World} : h14_11.wp F Q env w = HC.wp F (.seq (.reg (.done [(15, (.cst (.int .i64 0)))] none)) h14_10) Q env w := rfl
def h14_12 : HC := (.seq (.reg (.done [(14, (.cst (.bool false)))] none)) h14_11)
@[simp] theorem h14_12_wp {P : Program} {F : PF P} {Q : EX → List Value → World → Prop} {env : List Value} {w : World} : h14_12.wp F Q env w = HC.wp F (.seq (.reg (.done [(14, (.cst (.bool false)))] none)) h14_11) Q env w := rfl
def h14_13 : HC := (.seq (.reg (.chk none (.fld 3) (.cons (.inp 11) .nil) (.eff (.ld false 1) (.cons (.op (.fld 3) (.cons (.inp 11) .nil)) .nil) (.eff (.call 20) (.cons (.inp 0) (.cons (.bv 0) .nil)) (.done [(13, (.bv 1))] none))))) h14_12)
@[simp] theorem h14_13_wp {P : Program} {F : PF P} {Q : EX → List Value → World → Prop} {env : List Value} {w : World} : h14_13.wp F Q env w = HC.wp F (.seq (.reg (.chk none (.fld 3) (.cons (.inp 11) .nil) (.eff (.ld false 1) (.cons (.op (.fld 3) (.cons (.inp 11) .nil)) .nil) (.eff (.call 20) (.cons (.inp 0) (.cons (.bv 0) .nil)) (.done [(13, (.bv 1))] none))))) h14_12) Q env w := rfl
def h14_14 : HC := (.br (.chk none (.fld 3) (.cons (.inp 11) .nil) (.eff (.ld false 1) (.cons (.op (.fld 3) (.cons (.inp 11) .nil)) .nil) (.chk none (.bin .neq) (.cons (.bv 0) (.cons (.cst (.int .i64 0)) .nil)) (.done [] (some (.op (.bin .neq) (.cons (.bv 0) (.cons (.cst (.int .i64 0)) .nil)))))))) h14_13 .skip)
@[simp] theorem h14_14_wp {P : Program} {F : PF P} {Q : EX → List Value → World → Prop} {env : List Value} {w : World} : h14_14.wp F Q env w = HC.wp F (.br (.chk none (.fld 3) (.cons (.inp 11) .nil) (.eff (.ld false 1) (.cons (.op (.fld 3) (.cons (.inp 11) .nil)) .nil) (.chk none (.bin .neq) (.cons (.bv 0) (.cons (.cst (.int .i64 0)) .nil)) (.done [] (some (.op (.bin .neq) (.cons (.bv 0) (.cons (.cst (.int .i64 0)) .nil)))))))) h14_13 .skip) Q env w := rfl
def h14_15 : HC := (.seq (.reg (.done [(1, (.cst (.bool false)))] none)) .ret)
@[simp] theorem h14_15_wp {P : Program} {F : PF P} {Q : EX → List Value → World → Prop} {env : List Value} {w : World} : h14_15.wp F Q env w = HC.wp F (.seq (.reg (.done [(1, (.cst (.bool false)))] none)) .ret) Q env w := rfl
def h14_16 : HC := (.seq (.brq (some 0) (.chk none (.cal 10) (.cons (.inp 12) .nil) (.chk none (.bin .neq) (.cons (.op (.cal 10) (.cons (.inp 12) .nil)) (.cons (.cst (.int .i64 0)) .nil)) (.bnd (.op (.bin .neq) (.cons (.op (.cal 10) (.cons (.inp 12) .nil)) (.cons (.cst (.int .i64 0)) .nil))) (.ite (.bv 0) false (.eff (.ld true 4) (.cons (.inp 11) .nil) (.chk none (.idxL 4) (.cons (.inp 2) (.cons (.inp 10) .nil)) (.eff (.ld true 4) (.cons (.op (.idxL 4) (.cons (.inp 2) (.cons (.inp 10) .nil))) .nil) (.eff (.bin .neq 44 (.tmp 126) (.tmp 130)) (.cons (.bv 1) (.cons (.bv 2) .nil)) (.isb none (.bv 0) (.chk (some ((.bv 3), false)) (.fld 0) (.cons (.inp 11) .nil) (.ite (.bv 3) false (.eff (.ld false 1) (.cons (.ite (.bv 3) false (.op (.fld 0) (.cons (.inp 11) .nil)) (.cst (.tuple #[]))) .nil) (.chk none (.bin .add) (.cons (.inp 10) (.cons (.cst (.int .i64 1)) .nil)) (.chk none (.bin .neq) (.cons (.bv 4) (.cons (.op (.bin .add) (.cons (.inp 10) (.cons (.cst (.int .i64 1)) .nil))) .nil)) (.isb none (.bv 3) (.done [] (some (.op (.bin .neq) (.cons (.bv 4) (.cons (.op (.bin .add) (.cons (.inp 10) (.cons (.cst (.int .i64 1)) .nil))) .nil))))))))) (.isb none (.bv 3) (.done [] (some (.cst (.bool true)))))))))))) (.isb none (.bv 0) (.isb none (.cst (.bool true)) (.done [] (some (.cst (.bool true)))))))))) h14_15 .skip) h14_14)
@[simp] theorem h14_16_wp {P : Program} {F : PF P} {Q : EX → List Value → World → Prop} {env : List Value} {w : World} : h14_16.wp F Q env w = HC.wp F (.seq (.brq (some 0) (.chk none (.cal 10) (.cons (.inp 12) .nil) (.chk none (.bin .neq) (.cons (.op (.cal 10) (.cons (.inp 12) .nil)) (.cons (.cst (.int .i64 0)) .nil)) (.bnd (.op (.bin .neq) (.cons (.op (.cal 10) (.cons (.inp 12) .nil)) (.cons (.cst (.int .i64 0)) .nil))) (.ite (.bv 0) false (.eff (.ld true 4) (.cons (.inp 11) .nil) (.chk none (.idxL 4) (.cons (.inp 2) (.cons (.inp 10) .nil)) (.eff (.ld true 4) (.cons (.op (.idxL 4) (.cons (.inp 2) (.cons (.inp 10) .nil))) .nil) (.eff (.bin .neq 44 (.tmp 126) (.tmp 130)) (.cons (.bv 1) (.cons (.bv 2) .nil)) (.isb none (.bv 0) (.chk (some ((.bv 3), false)) (.fld 0) (.cons (.inp 11) .nil) (.ite (.bv 3) false (.eff (.ld false 1) (.cons (.ite (.bv 3) false (.op (.fld 0) (.cons (.inp 11) .nil)) (.cst (.tuple #[]))) .nil) (.chk none (.bin .add) (.cons (.inp 10) (.cons (.cst (.int .i64 1)) .nil)) (.chk none (.bin .neq) (.cons (.bv 4) (.cons (.op (.bin .add) (.cons (.inp 10) (.cons (.cst (.int .i64 1)) .nil))) .nil)) (.isb none (.bv 3) (.done [] (some (.op (.bin .neq) (.cons (.bv 4) (.cons (.op (.bin .add) (.cons (.inp 10) (.cons (.cst (.int .i64 1)) .nil))) .nil))))))))) (.isb none (.bv 3) (.done [] (some (.cst (.bool true)))))))))))) (.isb none (.bv 0) (.isb none (.cst (.bool true)) (.done [] (some (.cst (.bool true)))))))))) h14_15 .skip) h14_14) Q env w := rfl
def h14_17 : HC := (.seq (.reg (.chk none (.bin .add) (.cons (.inp 10) (.cons (.cst (.int .i64 1)) .nil)) (.eff (.call 32) (.cons (.inp 0) (.cons (.op (.bin .add) (.cons (.inp 10) (.cons (.cst (.int .i64 1)) .nil))) .nil)) (.chk none (.ext 0) (.cons (.bv 0) .nil) (.chk none (.ext 1) (.cons (.bv 0) .nil) (.eff (.new 44 (.agg #[(.int .i64 0), (.int .i64 0), (.int .i64 0), (.int .i64 0)])) .nil (.eff (.st 4) (.cons (.bv 1) (.cons (.op (.ext 0) (.cons (.bv 0) .nil)) .nil)) (.done [(11, (.bv 1)), (12, (.op (.ext 1) (.cons (.bv 0) .nil)))] none)))))))) h14_16)
@[simp] theorem h14_17_wp {P : Program} {F : PF P} {Q : EX → List Value → World → Prop} {env : List Value} {w : World} : h14_17.wp F Q env w = HC.wp F (.seq (.reg (.chk none (.bin .add) (.cons (.inp 10) (.cons (.cst (.int .i64 1)) .nil)) (.eff (.call 32) (.cons (.inp 0) (.cons (.op (.bin .add) (.cons (.inp 10) (.cons (.cst (.int .i64 1)) .nil))) .nil)) (.chk none (.ext 0) (.cons (.bv 0) .nil) (.chk none (.ext 1) (.cons (.bv 0) .nil) (.eff (.new 44 (.agg #[(.int .i64 0), (.int .i64 0), (.int .i64 0), (.int .i64 0)])) .nil (.eff (.st 4) (.cons (.bv 1) (.cons (.op (.ext 0) (.cons (.bv 0) .nil)) .nil)) (.done [(11, (.bv 1)), (12, (.op (.ext 1) (.cons (.bv 0) .nil)))] none)))))))) h14_16) Q env w := rfl
def h14_18 : HC := (.seq (.block 5 h14_17) h14_1)
@[simp] theorem h14_18_wp {P : Program} {F : PF P} {Q : EX → List Value → World → Prop} {env : List Value} {w : World} : h14_18.wp F Q env w = HC.wp F (.seq (.block 5 h14_17) h14_1) Q env w := rfl
def h14_19 : HC := (.seq (.br (.chk none .lenL (.cons (.inp 2) .nil) (.chk none (.bin .lss) (.cons (.inp 10) (.cons (.op .lenL (.cons (.inp 2) .nil)) .nil)) (.done [] (some (.op (.bin .lss) (.cons (.inp 10) (.cons (.op .lenL (.cons (.inp 2) .nil)) .nil))))))) .skip (.exit 4)) h14_18)
@[simp] theorem h14_19_wp {P : Program} {F : PF P} {Q : EX → List Value → World → Prop} {env : List Value} {w : World} : h14_19.wp F Q env w = HC.wp F (.seq (.br (.chk none .lenL (.cons (.inp 2) .nil) (.chk none (.bin .lss) (.cons (.inp 10) (.cons (.op .lenL (.cons (.inp 2) .nil)) .nil)) (.done [] (some (.op (.bin .lss) (.cons (.inp 10) (.cons (.op .lenL (.cons (.inp 2) .nil)) .nil))))))) .skip (.exit 4)) h14_18) Q env w := rfl
def h14_20 : HC := (.loop h14_19)
@[simp] theorem h14_20_wp {P : Program} {F : PF P} {Q : EX → List Value → World → Prop} {env : List Value} {w : World} : h14_20.wp F Q env w = HC.wp F (.loop h14_19) Q env w := rfl
def h14_21 : HC := (.seq (.block 4 h14_20) h14_0)
@[simp] theorem h14_21_wp {P : Program} {F : PF P} {Q : EX → List Value → World → Prop} {env : List Value} {w : World} : h14_21.wp F Q env w = HC.wp F (.seq (.block 4 h14_20) h14_0) Q env w := rfl
def h14_22 : HC := (.seq (.reg (.done [(10, (.cst (.int .i64 0)))] none)) h14_21)
@[simp] theorem h14_22_wp {P : Program} {F : PF P} {Q : EX → List Value → World → Prop} {env : List Value} {w : World} : h14_22.wp F Q env w = HC.wp F (.seq (.reg (.done [(10, (.cst (.int .i64 0)))] none)) h14_21) Q env w := rfl
def h14_23 : HC := (.reg (.chk none (.bin .add) (.cons (.inp 4) (.cons (.cst (.int .i64 1)) .nil)) (.done [(4, (.op (.bin .add) (.cons (.inp 4) (.cons (.cst (.int .i64 1)) .nil))))] none)))
@[simp] theorem h14_23_wp {P : Program} {F : PF P} {Q : EX → List Value → World → Prop} {env : List Value} {w : World} : h14_23.wp F Q env w = HC.wp F (.reg (.chk none (.bin .add) (.cons (.inp 4) (.cons (.cst (.int .i64 1)) .nil)) (.done [(4, (.op (.bin .add) (.cons (.inp 4) (.cons (.cst (.int .i64 1)) .nil))))] none))) Q env w := rfl
def h14_24 : HC := (.seq (.reg (.done [(1, (.cst (.bool false)))] none)) .ret)
@[simp] theorem h14_24_wp {P : Program} {F : PF P} {Q : EX → List Value → World → Prop} {env : List Value} {w : World} : h14_24.wp F Q env w = HC.wp F (.seq (.reg (.done [(1, (.cst (.bool false)))] none)) .ret) Q env w := rfl
def h14_25 : HC := (.br (.eff (.ld true 16) (.cons (.inp 6) .nil) (.eff (.bld 74 []) .nil (.eff (.bin .neq 74 (.tmp 106) (.tmp 107)) (.cons (.bv 0) (.cons (.bv 1) .nil)) (.done [] (some (.bv 2)))))) h14_24 .skip)
@[simp] theorem h14_25_wp {P : Program} {F : PF P} {Q : EX → List Value → World → Prop} {env : List Value} {w : World} : h14_25.wp F Q env w = HC.wp F (.br (.eff (.ld true 16) (.cons (.inp 6) .nil) (.eff (.bld 74 []) .nil (.eff (.bin .neq 74 (.tmp 106) (.tmp 107)) (.cons (.bv 0) (.cons (.bv 1) .nil)) (.done [] (some (.bv 2)))))) h14_24 .skip) Q env w := rfl
def h14_26 : HC := (.reg (.chk none (.bin .add) (.cons (.inp 7) (.cons (.cst (.int .i64 1)) .nil)) (.done [(7, (.op (.bin .add) (.cons (.inp 7) (.cons (.cst (.int .i64 1)) .nil))))] none)))
@[simp] theorem h14_26_wp {P : Program} {F : PF P} {Q : EX → List Value → World → Prop} {env : List Value} {w : World} : h14_26.wp F Q env w = HC.wp F (.reg (.chk none (.bin .add) (.cons (.inp 7) (.cons (.cst (.int .i64 1)) .nil)) (.done [(7, (.op (.bin .add) (.cons (.inp 7) (.cons (.cst (.int .i64 1)) .nil))))] none))) Q env w := rfl
def h14_27 : HC := (.reg (.chk none (.fld 1) (.cons (.inp 8) .nil) (.eff (.ld false 1) (.cons (.op (.fld 1) (.cons (.inp 8) .nil)) .nil) (.chk none (.idxP 16 1) (.cons (.inp 6) (.cons (.bv 0) .nil)) (.eff (.ld false 1) (.cons (.op (.idxP 16 1) (.cons (.inp 6) (.cons (.bv 0) .nil))) .nil) (.chk none (.bin .sub) (.cons (.bv 1) (.cons (.cst (.int .i64 1)) .nil)) (.chk none (.idxP 16 1) (.cons (.inp 6) (.cons (.bv 0) .nil)) (.eff (.st 1) (.cons (.op (.idxP 16 1) (.cons (.inp 6) (.cons (.bv 0) .nil))) (.cons (.op (.bin .sub) (.cons (.bv 1) (.cons (.cst (.int .i64 1)) .nil))) .nil)) (.done [] none)))))))))
@[simp] theorem h14_27_wp {P : Program} {F : PF P} {Q : EX → List Value → World → Prop} {env : List Value} {w : World} : h14_27.wp F Q env w = HC.wp F (.reg (.chk none (.fld 1) (.cons (.inp 8) .nil) (.eff (.ld false 1) (.cons (.op (.fld 1) (.cons (.inp 8) .nil)) .nil) (.chk none (.idxP 16 1) (.cons (.inp 6) (.cons (.bv 0) .nil)) (.eff (.ld false 1) (.cons (.op (.idxP 16 1) (.cons (.inp 6) (.cons (.bv 0) .nil))) .nil) (.chk none (.bin .sub) (.cons (.bv 1) (.cons (.cst (.int .i64 1)) .nil)) (.chk none (.idxP 16 1) (.cons (.inp 6) (.cons (.bv 0) .nil)) (.eff (.st 1) (.cons (.op (.idxP 16 1) (.cons (.inp 6) (.cons (.bv 0) .nil))) (.cons (.op (.bin .sub) (.cons (.bv 1) (.cons (.cst (.int .i64 1)) .nil))) .nil)) (.done [] none))))))))) Q env w := rfl
def h14_28 : HC := (.seq (.reg (.done [(1, (.cst (.bool false)))] none)) .ret)
@[simp] theorem h14_28_wp {P : Program} {F : PF P} {Q : EX → List Value → World → Prop} {env : List Value} {w : World} : h14_28.wp F Q env w = HC.wp F (.seq (.reg (.done [(1, (.cst (.bool false)))] none)) .ret) Q env w := rfl
def h14_29 : HC := (.seq (.brq (some 0) (.chk none (.cal 10) (.cons (.inp 9) .nil) (.chk none (.bin .neq) (.cons (.op (.cal 10) (.cons (.inp 9) .nil)) (.cons (.cst (.int .i64 0)) .nil)) (.bnd (.op (.bin .neq) (.cons (.op (.cal 10) (.cons (.inp 9) .nil)) (.cons (.cst (.int .i64 0)) .nil))) (.chk (some ((.bv 0), false)) (.fld 2) (.cons (.inp 8) .nil) (.ite (.bv 0) false (.eff (.ld false 1) (.cons (.ite (.bv 0) false (.op (.fld 2) (.cons (.inp 8) .nil)) (.cst (.tuple #[]))) .nil) (.chk none (.bin .neq) (.cons (.bv 1) (.cons (.inp 4) .nil)) (.isb none (.bv 0) (.bnd (.op (.bin .neq) (.cons (.bv 1) (.cons (.inp 4) .nil))) (.chk (some ((.bv 2), false)) (.fld 3) (.cons (.inp 8) .nil) (.ite (.bv 2) false (.eff (.ld false 1) (.cons (.ite (.bv 2) false (.op (.fld 3) (.cons (.inp 8) .nil)) (.cst (.tuple #[]))) .nil) (.chk none (.bin .neq) (.cons (.bv 3) (.cons (.cst (.int .i64 0)) .nil)) (.isb none (.bv 2) (.bnd (.op (.bin .neq) (.cons (.bv 3) (.cons (.cst (.int .i64 0)) .nil))) (.chk (some ((.bv 4), false)) (.bin .gtr) (.cons (.inp 7) (.cons (.cst (.int .i64 0)) .nil)) (.bnd (.ite (.bv 4) false (.op (.bin .gtr) (.cons (.inp 7) (.cons (.cst (.int .i64 0)) .nil))) (.cst (.tuple #[]))) (.chk (some ((.bv 5), true)) (.idxL 1) (.cons (.inp 5) (.cons (.inp 7) .nil)) (.ite (.bv 5) true (.eff (.ld false 1) (.cons (.ite (.bv 5) true (.op (.idxL 1) (.cons (.inp 5) (.cons (.inp 7) .nil))) (.cst (.tuple #[]))) .nil) (.chk none (.bin .sub) (.cons (.inp 7) (.cons (.cst (.int .i64 1)) .nil)) (.chk none (.idxL 1) (.cons (.inp 5) (.cons (.op (.bin .sub) (.cons (.inp 7) (.cons (.cst (.int .i64 1)) .nil))) .nil)) (.eff (.ld false 1) (.cons (.op (.idxL 1) (.cons (.inp 5) (.cons (.op (.bin .sub) (.cons (.inp 7) (.cons (.cst (.int .i64 1)) .nil))) .nil))) .nil) (.chk none (.bin .leq) (.cons (.bv 6) (.cons (.bv 7) .nil)) (.isb (some ((.bv 4), false)) (.bv 5) (.isb none (.bv 4) (.bnd (.ite (.bv 4) true (.cst (.bool true)) (.op (.bin .leq) (.cons (.bv 6) (.cons (.bv 7) .nil)))) (.chk (some ((.bv 8), false)) (.fld 1) (.cons (.inp 8) .nil) (.ite (.bv 8) false (.eff (.ld false 1) (.cons (.ite (.bv 8) false (.op (.fld 1) (.cons (.inp 8) .nil)) (.cst (.tuple #[]))) .nil) (.chk none (.bin .lss) (.cons (.bv 9) (.cons (.cst (.int .i64 0)) .nil)) (.isb none (.bv 8) (.bnd (.op (.bin .lss) (.cons (.bv 9) (.cons (.cst (.int .i64 0)) .nil))) (.chk (some ((.bv 10), false)) (.fld 1) (.cons (.inp 8) .nil) (.ite (.bv 10) false (.eff (.ld false 1) (.cons (.ite (.bv 10) false (.op (.fld 1) (.cons (.inp 8) .nil)) (.cst (.tuple #[]))) .nil) (.chk none (.bin .gtr) (.cons (.bv 11) (.cons (.cst (.int .i64 15)) .nil)) (.isb none (.bv 10) (.done [] (some (.op (.bin .gtr) (.cons (.bv 11) (.cons (.cst (.int .i64 15)) .nil)))))))) (.isb none (.bv 10) (.done [] (some (.cst (.bool true))))))))))) (.isb none (.bv 8) (.isb none (.cst (.bool true)) (.done [] (some (.cst (.bool true)))))))))))))))) (.isb (some ((.bv 4), false)) (.bv 5) (.isb none (.bv 4) (.bnd (.ite (.bv 4) true (.cst (.bool true)) (.cst (.bool false))) (.chk (some ((.bv 6), false)) (.fld 1) (.cons (.inp 8) .nil) (.ite (.bv 6) false (.eff (.ld false 1) (.cons (.ite (.bv 6) false (.op (.fld 1) (.cons (.inp 8) .nil)) (.cst (.tuple #[]))) .nil) (.chk none (.bin .lss) (.cons (.bv 7) (.cons (.cst (.int .i64 0)) .nil)) (.isb none (.bv 6) (.bnd (.op (.bin .lss) (.cons (.bv 7) (.cons (.cst (.int .i64 0)) .nil))) (.chk (some ((.bv 8), false)) (.fld 1) (.cons (.inp 8) .nil) (.ite (.bv 8) false (.eff (.ld false 1) (.cons (.ite (.bv 8) false (.op (.fld 1) (.cons (.inp 8) .nil)) (.cst (.tuple #[]))) .nil) (.chk none (.bin .gtr) (.cons (.bv 9) (.cons (.cst (.int .i64 15)) .nil)) (.isb none (.bv 8) (.done [] (some (.op (.bin .gtr) (.cons (.bv 9) (.cons (.cst (.int .i64 15)) .nil)))))))) (.isb none (.bv 8) (.done [] (some (.cst (.bool true))))))))))) (.isb none (.bv 6) (.isb none (.cst (.bool true)) (.done [] (some (.cst (.bool true))))))))))))))))))) (.isb none (.bv 2) (.isb none (.cst (.bool true)) (.isb none (.cst (.bool true)) (.isb none (.cst (.bool true)) (.done [] (some (.cst (.bool true)))))))))))))) (.isb none (.bv 0) (.isb none (.cst (.bool true)) (.isb none (.cst (.bool true)) (.isb none (.cst (.bool true)) (.isb none (.cst (.bool true)) (.done [] (some (.cst (.bool true)))))))))))))) h14_28 .skip) h14_27)
@[simp] theorem h14_29_wp {P : Program} {F : PF P} {Q : EX → List Value → World → Prop} {env : List Value} {w : World} : h14_29.wp F Q env w = HC.wp F (.seq (.brq (some 0) (.chk none (.cal 10) (.cons (.inp 9) .nil) (.chk none (.bin .neq) (.cons (.op (.cal 10) (.cons (.inp 9) .nil)) (.cons (.cst (.int .i64 0)) .nil)) (.bnd (.op (.bin .neq) (.cons (.op (.cal 10) (.cons (.inp 9) .nil)) (.cons (.cst (.int .i64 0)) .nil))) (.chk (some ((.bv 0), false)) (.fld 2) (.cons (.inp 8) .nil) (.ite (.bv 0) false (.eff (.ld false 1) (.cons (.ite (.bv 0) false (.op (.fld 2) (.cons (.inp 8) .nil)) (.cst (.tuple #[]))) .nil) (.chk none (.bin .neq) (.cons (.bv 1) (.cons (.inp 4) .nil)) (.isb none (.bv 0) (.bnd (.op (.bin .neq) (.cons (.bv 1) (.cons (.inp 4) .nil))) (.chk (some ((.bv 2), false)) (.fld 3) (.cons (.inp 8) .nil) (.ite (.bv 2) false (.eff (.ld false 1) (.cons (.ite (.bv 2) false (.op (.fld 3) (.cons (.inp 8) .nil)) (.cst (.tuple #[]))) .nil) (.chk none (.bin .neq) (.cons (.bv 3) (.cons (.cst (.int .i64 0)) .nil)) (.isb none (.bv 2) (.bnd (.op (.bin .neq) (.cons (.bv 3) (.cons (.cst (.int .i64 0)) .nil))) (.chk (some ((.bv 4), false)) (.bin .gtr) (.cons (.inp 7) (.cons (.cst (.int .i64 0)) .nil)) (.bnd (.ite (.bv 4) false (.op (.bin .gtr) (.cons (.inp 7) (.cons (.cst (.int .i64 0)) .nil))) (.cst (.tuple #[]))) (.chk (some ((.bv 5), true)) (.idxL 1) (.cons (.inp 5) (.cons (.inp 7) .nil)) (.ite (.bv 5) true (.eff (.ld false 1) (.cons (.ite (.bv 5) true (.op (.idxL 1) (.cons (.inp 5) (.cons (.inp 7) .nil))) (.cst (.tuple #[]))) .nil) (.chk none (.bin .sub) (.cons (.inp 7) (.cons (.cst (.int .i64 1)) .nil)) (.chk none (.idxL 1) (.cons (.inp 5) (.cons (.op (.bin .sub) (.cons (.inp 7) (.cons (.cst (.int .i64 1)) .nil))) .nil)) (.eff (.ld false 1) (.cons (.op (.idxL 1) (.cons (.inp 5) (.cons (.op (.bin .sub) (.cons (.inp 7) (.cons (.cst (.int .i64 1)) .nil))) .nil))) .nil) (.chk none (.bin .leq) (.cons (.bv 6) (.cons (.bv 7) .nil)) (.isb (some ((.bv 4), false)) (.bv 5) (.isb none (.bv 4) (.bnd (.ite (.bv 4) true (.cst (.bool true)) (.op (.bin .leq) (.cons (.bv 6) (.cons (.bv 7) .nil)))) (.chk (some ((.bv 8), false)) (.fld 1) (.cons (.inp 8) .nil) (.ite (.bv 8) false (.eff (.ld false 1) (.cons (.ite (.bv 8) false (.op (.fld 1) (.cons (.inp 8) .nil)) (.cst (.tuple #[]))) .nil) (.chk none (.bin .lss) (.cons (.bv 9) (.cons (.cst (.int .i64 0)) .nil)) (.isb none (.bv 8) (.bnd (.op (.bin .lss) (.cons (.bv 9) (.cons (.cst (.int .i64 0)) .nil))) (.chk (some ((.bv 10), false)) (.fld 1) (.cons (.inp 8) .nil) (.ite (.bv 10) false (.eff (.ld false 1) (.cons (.ite (.bv 10) false (.op (.fld 1) (.cons (.inp 8) .nil)) (.cst (.tuple #[]))) .nil) (.chk none (.bin .gtr) (.cons (.bv 11) (.cons (.cst (.int .i64 15)) .nil)) (.isb none (.bv 10) (.done [] (some (.op (.bin .gtr) (.cons (.bv 11) (.cons (.cst (.int .i64 15)) .nil)))))))) (.isb none (.bv 10) (.done [] (some (.cst (.bool true))))))))))) (.isb none (.bv 8) (.isb none (.cst (.bool true)) (.done [] (some (.cst (.bool true)))))))))))))))) (.isb (some ((.bv 4), false)) (.bv 5) (.isb none (.bv 4) (.bnd (.ite (.bv 4) true (.cst (.bool true)) (.cst (.bool false))) (.chk (some ((.bv 6), false)) (.fld 1) (.cons (.inp 8) .nil) (.ite (.bv 6) false (.eff (.ld false 1) (.cons (.ite (.bv 6) false (.op (.fld 1) (.cons (.inp 8) .nil)) (.cst (.tuple #[]))) .nil) (.chk none (.bin .lss) (.cons (.bv 7) (.cons (.cst (.int .i64 0)) .nil)) (.isb none (.bv 6) (.bnd (.op (.bin .lss) (.cons (.bv 7) (.cons (.cst (.int .i64 0)) .nil))) (.chk (some ((.bv 8), false)) (.fld 1) (.cons (.inp 8) .nil) (.ite (.bv 8) false (.eff (.ld false 1) (.cons (.ite (.bv 8) false (.op (.fld 1) (.cons (.inp 8) .nil)) (.cst (.tuple #[]))) .nil) (.chk none (.bin .gtr) (.cons (.bv 9) (.cons (.cst (.int .i64 15)) .nil)) (.isb none (.bv 8) (.done [] (some (.op (.bin .gtr) (.cons (.bv 9) (.cons (.cst (.int .i64 15)) .nil)))))))) (.isb none (.bv 8) (.done [] (some (.cst (.bool true))))))))))) (.isb none (.bv 6) (.isb none (.cst (.bool true)) (.done [] (some (.cst (.bool true))))))))))))))))))) (.isb none (.bv 2) (.isb none (.cst (.bool true)) (.isb none (.cst (.bool true)) (.isb none (.cst (.bool true)) (.done [] (some (.cst (.bool true)))))))))))))) (.isb none (.bv 0) (.isb none (.cst (.bool true)) (.isb none (.cst (.bool true)) (.isb none (.cst (.bool true)) (.isb none (.cst (.bool true)) (.done [] (some (.cst (.bool true)))))))))))))) h14_28 .skip) h14_27) Q env w := rfl
def h14_30 : HC := (.seq (.reg (.chk none (.idxL 1) (.cons (.inp 5) (.cons (.inp 7) .nil)) (.eff (.ld false 1) (.cons (.op (.idxL 1) (.cons (.inp 5) (.cons (.inp 7) .nil))) .nil) (.eff (.call 32) (.cons (.inp 0) (.cons (.bv 0) .nil)) (.chk none (.ext 0) (.cons (.bv 1) .nil) (.chk none (.ext 1) (.cons (.bv 1) .nil) (.eff (.new 44 (.agg #[(.int .i64 0), (.int .i64 0), (.int .i64 0), (.int .i64 0)])) .nil (.eff (.st 4) (.cons (.bv 2) (.cons (.op (.ext 0) (.cons (.bv 1) .nil)) .nil)) (.done [(8, (.bv 2)), (9, (.op (.ext 1) (.cons (.bv 1) .nil)))] none))))))))) h14_29)
@[simp] theorem h14_30_wp {P : Program} {F : PF P} {Q : EX → List Value → World → Prop} {env : List Value} {w : World} : h14_30.wp F Q env w = HC.wp F (.seq (.reg (.chk none (.idxL 1) (.cons (.inp 5) (.cons (.inp 7) .nil)) (.eff (.ld false 1) (.cons (.op (.idxL 1) (.cons (.inp 5) (.cons (.inp 7) .nil))) .nil) (.eff (.call 32) (.cons (.inp 0) (.cons (.bv 0) .nil)) (.chk none (.ext 0) (.cons (.bv 1) .nil) (.chk none (.ext 1) (.cons (.bv 1) .nil) (.eff (.new 44 (.agg #[(.int .i64 0), (.int .i64 0), (.int .i64 0), (.int .i64 0)])) .nil (.eff (.st 4) (.cons (.bv 2) (.cons (.op (.ext 0) (.cons (.bv 1) .nil)) .nil)) (.done [(8, (.bv 2)), (9, (.op (.ext 1) (.cons (.bv 1) .nil)))] none))))))))) h14_29) Q env w := rfl
def h14_31 : HC := (.seq (.block 3 h14_30) h14_26)
@[simp] theorem h14_31_wp {P : Program} {F : PF P} {Q : EX → List Value → World → Prop} {env : List Value} {w : World} : h14_31.wp F Q env w = HC.wp F (.seq (.block 3 h14_30) h14_26) Q env w := rfl
def h14_32 : HC := (.seq (.br (.chk none .lenL (.cons (.inp 5) .nil) (.chk none (.bin .lss) (.cons (.inp 7) (.cons (.op .lenL (.cons (.inp 5) .nil)) .nil)) (.done [] (some (.op (.bin .lss) (.cons (.inp 7) (.cons (.op .lenL (.cons (.inp 5) .nil)) .nil))))))) .skip (.exit 2)) h14_31)
@[simp] theorem h14_32_wp {P : Program} {F : PF P} {Q : EX → List Value → World → Prop} {env : List Value} {w : World} : h14_32.wp F Q env w = HC.wp F (.seq (.br (.chk none .lenL (.cons (.inp 5) .nil) (.chk none (.bin .lss) (.cons (.inp 7) (.cons (.op .lenL (.cons (.inp 5) .nil)) .nil)) (.done [] (some (.op (.bin .lss) (.cons (.inp 7) (.cons (.op .lenL (.cons (.inp 5) .nil)) .nil))))))) .skip (.exit 2)) h14_31) Q env w := rfl
def h14_33 : HC := (.loop h14_32)
@[simp] theorem h14_33_wp {P : Program} {F : PF P} {Q : EX → List Value → World → Prop} {env : List Value} {w : World} : h14_33.wp F Q env w = HC.wp F (.loop h14_32) Q env w := rfl
def h14_34 : HC := (.seq (.block 2 h14_33) h14_25)
@[simp] theorem h14_34_wp {P : Program} {F : PF P} {Q : EX → List Value → World → Prop} {env : List Value} {w : World} : h14_34.wp F Q env w = HC.wp F (.seq (.block 2 h14_33) h14_25) Q env w := rfl
def h14_35 : HC := (.seq (.reg (.done [(7, (.cst (.int .i64 0)))] none)) h14_34)
@[simp] theorem h14_35_wp {P : Program} {F : PF P} {Q : EX → List Value → World → Prop} {env : List Value} {w : World} : h14_35.wp F Q env w = HC.wp F (.seq (.reg (.done [(7, (.cst (.int .i64 0)))] none)) h14_34) Q env w := rfl
def h14_36 : HC := (.seq (.reg (.chk none .lenL (.cons (.inp 5) .nil) (.chk none (.bin .add) (.cons (.inp 3) (.cons (.op .lenL (.cons (.inp 5) .nil)) .nil)) (.done [(3, (.op (.bin .add) (.cons (.inp 3) (.cons (.op .lenL (.cons (.inp 5) .nil)) .nil))))] none)))) h14_35)
@[simp] theorem h14_36_wp {P : Program} {F : PF P} {Q : EX → List Value → World → Prop} {env : List Value} {w : World} : h14_36.wp F Q env w = HC.wp F (.seq (.reg (.chk none .lenL (.cons (.inp 5) .nil) (.chk none (.bin .add) (.cons (.inp 3) (.cons (.op .lenL (.cons (.inp 5) .nil)) .nil)) (.done [(3, (.op (.bin .add) (.cons (.inp 3) (.cons (.op .lenL (.cons (.inp 5) .nil)) .nil))))] none)))) h14_35) Q env w := rfl
def h14_37 : HC := (.seq (.reg (.eff (.call 31) (.cons (.inp 0) (.cons (.inp 4) .nil)) (.eff (.new 74 (.agg #[(.int .i64 0), (.int .i64 0), (.int .i64 0), (.int .i64 0), (.int .i64 0), (.int .i64 0), (.int .i64 0), (.int .i64 0), (.int .i64 0), (.int .i64 0), (.int .i64 0), (.int .i64 0), (.int .i64 0), (.int .i64 0), (.int .i64 0), (.int .i64 0)])) .nil (.eff (.st 16) (.cons (.bv 1) (.cons (.bv 0) .nil)) (.done [(6, (.bv 1))] none))))) h14_36)
@[simp] theorem h14_37_wp {P : Program} {F : PF P} {Q : EX → List Value → World → Prop} {env : List Value} {w : World} : h14_37.wp F Q env w = HC.wp F (.seq (.reg (.eff (.call 31) (.cons (.inp 0) (.cons (.inp 4) .nil)) (.eff (.new 74 (.agg #[(.int .i64 0), (.int .i64 0), (.int .i64 0), (.int .i64 0), (.int .i64 0), (.int .i64 0), (.int .i64 0), (.int .i64 0), (.int .i64 0), (.int .i64 0), (.int .i64 0), (.int .i64 0), (.int .i64 0), (.int .i64 0), (.int .i64 0), (.int .i64 0)])) .nil (.eff (.st 16) (.cons (.bv 1) (.cons (.bv 0) .nil)) (.done [(6, (.bv 1))] none))))) h14_36) Q env w := rfl
def h14_38 : HC := (.seq (.reg (.eff (.call 19) (.cons (.inp 0) (.cons (.inp 4) .nil)) (.done [(5, (.bv 0))] none))) h14_37)
@[simp] theorem h14_38_wp {P : Program} {F : PF P} {Q : EX → List Value → World → Prop} {env : List Value} {w : World} : h14_38.wp F Q env w = HC.wp F (.seq (.reg (.eff (.call 19) (.cons (.inp 0) (.cons (.inp 4) .nil)) (.done [(5, (.bv 0))] none))) h14_37) Q env w := rfl
def h14_39 : HC := (.seq (.block 1 h14_38) h14_23)
@[simp] theorem h14_39_wp {P : Program} {F : PF P} {Q : EX → List Value → World → Prop} {env : List Value} {w : World} : h14_39.wp F Q env w = HC.wp F (.seq (.block 1 h14_38) h14_23) Q env w := rfl
def h14_40 : HC := (.seq (.br (.chk none (.bin .lss) (.cons (.inp 4) (.cons (.cst (.int .i64 64)) .nil)) (.done [] (some (.op (.bin .lss) (.cons (.inp 4) (.cons (.cst (.int .i64 64)) .nil)))))) .skip (.exit 0)) h14_39)
@[simp] theorem h14_40_wp {P : Program} {F : PF P} {Q : EX → List Value → World → Prop} {env : List Value} {w : World} : h14_40.wp F Q env w = HC.wp F (.seq (.br (.chk none (.bin .lss) (.cons (.inp 4) (.cons (.cst (.int .i64 64)) .nil)) (.done [] (some (.op (.bin .lss) (.cons (.inp 4) (.cons (.cst (.int .i64 64)) .nil)))))) .skip (.exit 0)) h14_39) Q env w := rfl
def h14_41 : HC := (.loop h14_40)
@[simp] theorem h14_41_wp {P : Program} {F : PF P} {Q : EX → List Value → World → Prop} {env : List Value} {w : World} : h14_41.wp F Q env w = HC.wp F (.loop h14_40) Q env w := rfl
def h14_42 : HC := (.seq (.block 0 h14_41) h14_22)
@[simp] theorem h14_42_wp {P : Program} {F : PF P} {Q : EX → List Value → World → Prop} {env : List Value} {w : World} : h14_42.wp F Q env w = HC.wp F (.seq (.block 0 h14_41) h14_22) Q env w := rfl
def h14_43 : HC := (.seq (.reg (.done [(4, (.cst (.int .i64 0)))] none)) h14_42)
@[simp] theorem h14_43_wp {P : Program} {F : PF P} {Q : EX → List Value → World → Prop} {env : List Value} {w : World} : h14_43.wp F Q env w = HC.wp F (.seq (.reg (.done [(4, (.cst (.int .i64 0)))] none)) h14_42) Q env w := rfl
def h14_44 : HC := (.seq (.reg (.done [(3, (.cst (.int .i64 0)))] none)) h14_43)
@[simp] theorem h14_44_wp {P : Program} {F : PF P} {Q : EX → List Value → World → Prop} {env : List Value} {w : World} : h14_44.wp F Q env w = HC.wp F (.seq (.reg (.done [(3, (.cst (.int .i64 0)))] none)) h14_43) Q env w := rfl
def h14_45 : HC := (.seq (.reg (.done [(1, (.cst (.bool false)))] none)) .ret)
@[simp] theorem h14_45_wp {P : Program} {F : PF P} {Q : EX → List Value → World → Prop} {env : List Value} {w : World} : h14_45.wp F Q env w = HC.wp F (.seq (.reg (.done [(1, (.cst (.bool false)))] none)) .ret) Q env w := rfl
def h14_46 : HC := (.seq (.br (.chk none .lenL (.cons (.inp 2) .nil) (.eff (.call 30) (.cons (.inp 0) .nil) (.chk none (.bin .neq) (.cons (.op .lenL (.cons (.inp 2) .nil)) (.cons (.bv 0) .nil)) (.bnd (.op (.bin .neq) (.cons (.op .lenL (.cons (.inp 2) .nil)) (.cons (.bv 0) .nil))) (.chk (some ((.bv 1), false)) .lenL (.cons (.inp 2) .nil) (.ite (.bv 1) false (.eff (.call 18) (.cons (.ite (.bv 1) false (.inp 0) (.cst (.tuple #[]))) .nil) (.chk none (.bin .gtr) (.cons (.ite (.bv 1) false (.op .lenL (.cons (.inp 2) .nil)) (.cst (.tuple #[]))) (.cons (.bv 2) .nil)) (.isb none (.bv 1) (.done [] (some (.op (.bin .gtr) (.cons (.ite (.bv 1) false (.op .lenL (.cons (.inp 2) .nil)) (.cst (.tuple #[]))) (.cons (.bv 2) .nil)))))))) (.isb none (.bv 1) (.done [] (some (.cst (.bool true))))))))))) h14_45 .skip) h14_44)
@[simp] theorem h14_46_wp {P : Program} {F : PF P} {Q : EX → List Value → World → Prop} {env : List Value} {w : World} : h14_46.wp F Q env w = HC.wp F (.seq (.br (.chk none .lenL (.cons (.inp 2) .nil) (.eff (.call 30) (.cons (.inp 0) .nil) (.chk none (.bin .neq) (.cons (.op .lenL (.cons (.inp 2) .nil)) (.cons (.bv 0) .nil)) (.bnd (.op (.bin .neq) (.cons (.op .lenL (.cons (.inp 2) .nil)) (.cons (.bv 0) .nil))) (.chk (some ((.bv 1), false)) .lenL (.cons (.inp 2) .nil) (.ite (.bv 1) false (.eff (.call 18) (.cons (.ite (.bv 1) false (.inp 0) (.cst (.tuple #[]))) .nil) (.chk none (.bin .gtr) (.cons (.ite (.bv 1) false (.op .lenL (.cons (.inp 2) .nil)) (.cst (.tuple #[]))) (.cons (.bv 2) .nil)) (.isb none (.bv 1) (.done [] (some (.op (.bin .gtr) (.cons (.ite (.bv 1) false (.op .lenL (.cons (.inp 2) .nil)) (.cst (.tuple #[]))) (.cons (.bv 2) .nil)))))))) (.isb none (.bv 1) (.done [] (some (.cst (.bool true))))))))))) h14_45 .skip) h14_44) Q env w := rfl
def h14_47 : HC := (.seq (.reg (.eff (.call 11) (.cons (.inp 0) .nil) (.done [(2, (.bv 0))] none))) h14_46)
@[simp] theorem h14_47_wp {P : Program} {F : PF P} {Q : EX → List Value → World → Prop} {env : List Value} {w : World} : h14_47.wp F Q env w = HC.wp F (.seq (.reg (.eff (.call 11) (.cons (.inp 0) .nil) (.done [(2, (.bv 0))] none))) h14_46) Q env w := rfl
def l14 : Lifted := ⟨[0, 2, 3, 4, 5, 6, 7, 8, 9, 10, 11, 12, 13, 14, 15, 16], 181, [.slot 1], (.seq (.reg (.done [(1, (.cst (.bool false)))] none)) h14_47)⟩
theorem l14_ok : liftFn G1 14 400 = some l14 := by kernel_rfl


/-- goods that stand right -/
structure GI (lim : Int) (its : List It) : Prop extends WF its where
  len : (its.length : Int) ≤ lim
  lim : lim ≤ 512
  place : ∀ x ∈ its, (x.con = 0 ∧ 0 ≤ x.acc ∧ x.acc < 64) ∨ (0 < x.con ∧ x.acc = -1)
def seenF (its : List It) (n : Int) : Nat := (its.filter fun x => !decide (0 < x.con) && (decide (0 ≤ x.acc) && decide (x.acc < n))).length
theorem seen_zero (its : List It) : seenF its 0 = 0 := by
  unfold seenF
  rw [List.length_eq_zero_iff, List.filter_eq_nil_iff]
  intro x _
  by_cases h : 0 ≤ x.acc
  · have : ¬ x.acc < 0 := by omega
    simp [this]
  · simp [h]
theorem seen_succ : ∀ (its : List It) (n : Nat), seenF its ((n : Int) + 1) = seenF its n + (its.filter (ofP n)).length
  | [], n => rfl
  | x :: its, n => by
    have ih := seen_succ its n
    unfold seenF at ih ⊢
    by_cases h : 0 < x.con
    · rw [List.filter_cons_of_neg (by simp [h]), List.filter_cons_of_neg (by simp [h]), List.filter_cons_of_neg (by simp [ofP, h]), ih]
    by_cases h1 : x.acc = n
    · have a1 : (0 : Int) ≤ x.acc := by omega
      have a2 : x.acc < (n : Int) + 1 := by omega
      have a3 : ¬ x.acc < (n : Int) := by omega
      rw [List.filter_cons_of_pos (by simp [h, a1, a2]), List.filter_cons_of_neg (by simp [h, a3]), List.filter_cons_of_pos (by simp [ofP, h, h1]), List.length_cons, List.length_cons, ih]; omega
    by_cases h2 : 0 ≤ x.acc ∧ x.acc < n
    · have a2 : x.acc < (n : Int) + 1 := by omega
      rw [List.filter_cons_of_pos (by simp [h, h2.1, a2]), List.filter_cons_of_pos (by simp [h, h2.1, h2.2]), List.filter_cons_of_neg (by simp [ofP, h, h1]), List.length_cons, List.length_cons, ih]; omega
    · have a2 : ¬ (0 ≤ x.acc ∧ x.acc < (n : Int) + 1) := by omega
      rw [List.filter_cons_of_neg (by simp [h]; omega), List.filter_cons_of_neg (by simp [h]; omega), List.filter_cons_of_neg (by simp [ofP, h, h1]), ih]
theorem seen_le (its : List It) (n : Int) : seenF its n ≤ its.length := List.length_filter_le _ _
def heldN (its : List It) : Nat := (its.filter fun x => decide (x.con ≠ 0)).length
theorem seen_all {lim : Int} {its : List It} (hg : GI lim its) : seenF its 64 + heldN its = its.length := by
  have key : ∀ l : List It, (∀ x ∈ l, (x.con = 0 ∧ 0 ≤ x.acc ∧ x.acc < 64) ∨ (0 < x.con ∧ x.acc = -1)) → seenF l 64 + heldN l = l.length := by
    intro l hl
    induction l with
    | nil => rfl
    | cons x l ih =>
      have ih := ih fun y hy => hl y (List.mem_cons_of_mem _ hy)
      unfold seenF heldN at ih ⊢
      rcases hl x (List.mem_cons_self ..) with ⟨h1, h2, h3⟩ | ⟨h1, h2⟩
      · rw [List.filter_cons_of_pos (by simp [h1, h2, h3]), List.filter_cons_of_neg (by simp [h1]), List.length_cons, List.length_cons]; omega
      · rw [List.filter_cons_of_neg (by simp [h1]), List.filter_cons_of_pos (by simp; omega), List.length_cons, List.length_cons]; omega
  exact key its hg.place
theorem tally_cons (l : List It) (x : It) (k : Nat) (hk : k < 16) (hx : x.kind = (k : Int)) : (tally (x :: l)).set k (((x :: l).filter fun x => decide (x.kind = (k : Int))).length - 1 : Int) = tally l := by
  apply List.ext_getElem?
  intro j
  by_cases hj : j < 16
  · rw [tally_at _ _ hj]
    by_cases e : j = k
    · subst e
      rw [List.getElem?_set_self (by rw [tally_len]; exact hj)]
      simp [hx]
    · rw [List.getElem?_set_ne (by omega), tally_at _ _ hj]
      have : ¬ x.kind = (j : Int) := by omega
      simp [this]
  · rw [List.getElem?_eq_none (by rw [List.length_set, tally_len]; omega), List.getElem?_eq_none (by rw [tally_len]; omega)]
theorem nums_up {its : List It} (h : WF its) : its.Pairwise fun x y => x.num < y.num := by
  rw [List.pairwise_iff_getElem]
  intro i j hi hj hij
  rw [h.num i hi, h.num j hj]; omega
theorem of_up {its : List It} (h : WF its) (a : Int) {i : Nat} (hi : i + 1 < (its.filter (ofP a)).length) : (its.filter (ofP a))[i].num < (its.filter (ofP a))[i + 1].num :=
  (List.pairwise_iff_getElem.1 ((nums_up h).filter (ofP a))) i (i + 1) (by omega) hi (by omega)
theorem get_at {its : List It} {k : Nat} (h : k < its.length) : getF its ((k : Int) + 1) = (its[k], 0) := by
  unfold getF
  rw [if_pos (by omega)]
  have : ((k : Int) + 1).toNat - 1 = k := by omega
  simp [this, h]
theorem arrT : IntArray Try.prog 74 16 := ⟨⟨3, .i64, by kernel_rfl, by kernel_rfl, by kernel_rfl, by kernel_rfl⟩, by kernel_rfl⟩
theorem ints_holds (l : List Int) : holdsInts (ints l).toArray 0 l := by
  intro j u hu
  rw [Nat.zero_add]
  simp [ints, hu]
theorem zero_holds : holdsInts #[.int .i64 0, .int .i64 0, .int .i64 0, .int .i64 0, .int .i64 0, .int .i64 0, .int .i64 0, .int .i64 0, .int .i64 0, .int .i64 0, .int .i64 0, .int .i64 0, .int .i64 0, .int .i64 0, .int .i64 0, .int .i64 0] 0 (tally []) := by
  have e : (ints (tally [])).toArray = #[.int .i64 0, .int .i64 0, .int .i64 0, .int .i64 0, .int .i64 0, .int .i64 0, .int .i64 0, .int .i64 0, .int .i64 0, .int .i64 0, .int .i64 0, .int .i64 0, .int .i64 0, .int .i64 0, .int .i64 0, .int .i64 0] := by rfl
  rw [← e]
  exact ints_holds _
theorem once_second (p : Nat) (lim : Int) (its : List It) (a : Option Addr) (cap : Nat) (n5 n6 n7 n8 n9 : Value) (v4 : Value) (w0 w : World) (A : Asn) (hg : GI lim its) (s : St w0 (A * gds p lim its * own 44 4 (.slice a its.length cap) its.length (flat its)) w) :
    HC.wp G1 h14_22 (endQ Try.prog [RV.slot 1] fun r w' => r = Value.bool true ∧ St w0 (A * gds p lim its) w')
      [.pointer (some ⟨p, 0, none⟩), .bool false, .slice a its.length cap, .int .i64 (seenF its 64), v4, n5, n6, n7, n8, n9, undef, undef, undef, undef, undef, undef] w := by
  have hlen := hg.len
  have hlim := hg.lim
  have hall := seen_all hg
  simp
  refine loopI (fun env w' => ∃ (i : Nat) (o11 o12 o13 o14 o15 : Value), env = [.pointer (some ⟨p, 0, none⟩), .bool false, .slice a its.length cap, .int .i64 ((seenF its 64 + heldN (its.take i) : Nat) : Int), v4, n5, n6, n7, n8, n9, .int .i64 i, o11, o12, o13, o14, o15] ∧ i ≤ its.length ∧
      St w0 (A * gds p lim its * own 44 4 (.slice a its.length cap) its.length (flat its)) w')
    (fun env _ => its.length - slotN env 10) ⟨0, _, _, _, _, _, rfl, by omega, s⟩ ?_
  rintro LQ env w' ⟨i, o11, o12, o13, o14, o15, rfl, hi, s'⟩ hN hE hR
  simp
  refine cndI (fun h => ?_) (fun h => ?_)
  · simp at h
    have hw1 : IntKind.i64.wrap ((i : Int) + 1) = (i : Int) + 1 := wrap64 (by omega) (by omega)
    have htake : its.take (i + 1) = its.take i ++ [its[i]] := List.take_succ_eq_append_getElem h
    have hnum := hg.num i h
    have hhl : heldN (its.take (i + 1)) ≤ heldN its := ((List.take_sublist (i + 1) its).filter _).length_le
    simp [hw1]
    refine eff_call ((Get_spec p lim its ((i : Int) + 1) w0 w' (A * own 44 4 (.slice a its.length cap) its.length (flat its)) (by omega) (s'.to (by ac_rfl))).mono ?_)
    rintro r w1 ⟨rfl, s1⟩
    rw [get_at h]
    simp
    refine eff_new s1 ?_
    intro xb w2 s2
    simp
    refine eff_stA (vs := its[i].cs) s2 rfl rfl (cs_one _) (by simp) ?_
    intro w3 s3
    simp
    have s4 : St w0 (A * gds p lim its * pt xb (.cells its[i].cs.toArray 44 (0, 0)) * own 44 4 (.slice a its.length cap) its.length (flat its)) w3 := by
      have := s3.to (B := A * gds p lim its * pt xb _ * own 44 4 (.slice a its.length cap) its.length (flat its)) (by ac_rfl)
      simpa using this
    obtain ⟨g, o, cap', hv, hcR⟩ := (row_own s4).at (by omega)
    cases hv
    refine brqI s4 ?_
    simp
    refine effq_ldcs (vs := its[i].cs) (off := 0) (fun w s => s.swap.row_cells) rfl ?_
    simp [h]
    refine effq_ldcs (vs := its[i].cs) (fun w s j u hu => by rw [Nat.add_assoc]; exact hcR w s _ _ (flat_at h j u hu)) rfl ?_
    simp
    refine effq_neqS itemT _ _ rfl rfl its[i].cs_holds its[i].cs_holds ?_
    simp
    refine effq_ldc (v := .int .i64 ((i : Int) + 1)) (fun w s => by rw [cell_of s.swap.look, ← hnum]; rfl) ?_
    simp [hw1]
    intro w4 s5
    refine eff_ldc (v := .int .i64 its[i].con) (by rw [cell_of s5.swap.look]; rfl) ?_
    simp
    refine cndI (fun h2 => ?_) (fun h2 => ?_)
    · simp at h2
      have hpl : 0 < its[i].con ∧ its[i].acc = -1 := by
        rcases hg.place its[i] (List.getElem_mem h) with h' | h'
        · exact absurd h'.1 h2
        · exact h'
      have hheld : heldN (its.take (i + 1)) = heldN (its.take i) + 1 := by
        unfold heldN
        rw [htake, List.filter_append, List.filter_cons_of_pos (by simp [h2])]; simp
      simp
      refine eff_ldc (v := .int .i64 its[i].con) (by rw [cell_of s5.swap.look]; rfl) ?_
      simp
      refine eff_call ((In_spec p lim its its[i].con w0 w4 (A * pt xb (.cells its[i].cs.toArray 44 (0, 0)) * own 44 4 (.slice (some ⟨g, o, none⟩) its.length cap) its.length (flat its)) (by omega) (s5.to (by ac_rfl))).mono ?_)
      intro vl w5 s6
      obtain ⟨la, lcap, rfl, _⟩ := s6.own_val
      simp
      have hin : (inF its its[i].con).contains its[i].num = true := by
        rw [List.contains_iff_mem]
        unfold inF
        exact List.mem_map.2 ⟨its[i], List.mem_filter.2 ⟨List.getElem_mem h, by simp [hpl.1]⟩, rfl⟩
      have hlenI : (inF its its[i].con).length ≤ its.length := by
        unfold inF; rw [List.length_map]; exact List.length_filter_le _ _
      refine loopI (fun env w' => ∃ (k : Nat) (f : Bool), env = [.pointer (some ⟨p, 0, none⟩), .bool false, .slice (some ⟨g, o, none⟩) its.length cap, .int .i64 ((seenF its 64 : Int) + (heldN (its.take i) : Int)), v4, n5, n6, n7, n8, n9, .int .i64 i, .pointer (some ⟨xb, 0, none⟩), .int .i64 0, .slice la (inF its its[i].con).length lcap, .bool f, .int .i64 k] ∧ k ≤ (inF its its[i].con).length ∧ (f = true ↔ its[i].num ∈ (inF its its[i].con).take k) ∧
          St w0 (A * pt xb (.cells its[i].cs.toArray 44 (0, 0)) * own 44 4 (.slice (some ⟨g, o, none⟩) its.length cap) its.length (flat its) * gds p lim its * own 3 1 (.slice la (inF its its[i].con).length lcap) (inF its its[i].con).length (ints (inF its its[i].con))) w')
        (fun env _ => (inF its its[i].con).length - slotN env 15) ⟨0, false, rfl, by omega, by simp, s6⟩ ?_
      rintro LQ2 env w' ⟨k, f, rfl, hk, hf, t⟩ hN2 hE2 hR2
      simp
      refine cndI (fun h3 => ?_) (fun h3 => ?_)
      · simp at h3
        obtain ⟨g2, o2, cap2, hv, hcL⟩ := (row_own t).at (by omega)
        cases hv
        have htk : (inF its its[i].con).take (k + 1) = (inF its its[i].con).take k ++ [(inF its its[i].con)[k]] := List.take_succ_eq_append_getElem h3
        simp
        refine regqI t ?_
        cases f with
        | true =>
          simp
          intro w6 t2
          try simp (disch := omega) only [wrap64]
          refine hN2 _ _ ⟨k + 1, _, by simp; exact rfl, by omega, ?_, t2⟩ (by simp [slotN]; omega)
          rw [htk, List.mem_append]
          simp only [true_iff]
          exact .inl (hf.1 rfl)
        | false =>
          simp [h3]
          refine effq_ldc (v := .int .i64 (inF its its[i].con)[k]) (fun w s => hcL w s k _ (ints_at h3)) ?_
          simp
          refine effq_ldc (v := .int .i64 its[i].num) (fun w s => by rw [cell_of s.drop.drop.drop.look]; rfl) ?_
          simp
          intro w6 t2
          try simp (disch := omega) only [wrap64]
          refine hN2 _ _ ⟨k + 1, _, by simp; exact rfl, by omega, ?_, t2⟩ (by simp [slotN]; omega)
          rw [htk, List.mem_append, List.mem_singleton, decide_eq_true_eq, ← hf]
          simp [eq_comm]
      · simp at h3
        have hke : k = (inF its its[i].con).length := by omega
        subst hke
        rw [List.take_length] at hf
        have hft : f = true := hf.2 (List.contains_iff_mem.1 hin)
        subst hft
        simp
        refine hE2 _ _ _ ?_
        simp
        have t2 := t.drop.drop.drop
        refine eff_ldc (v := .int .i64 its[i].con) (by rw [cell_of t2.look]; rfl) ?_
        have hnn : ¬ its[i].con < 0 := by omega
        simp [hnn]
        refine eff_ldc (v := .int .i64 its[i].acc) (by rw [cell_of t2.look]; rfl) ?_
        simp [hpl.2]
        try simp (disch := omega) only [wrap64]
        refine hN _ _ ⟨i + 1, _, _, _, _, _, by rw [hheld]; simp; exact ⟨by omega, rfl, rfl, rfl, rfl, rfl⟩, by omega, ?_⟩ (by simp [slotN]; omega)
        exact St.cut (pt xb (.cells its[i].cs.toArray 44 (0, 0)) * own 3 1 (.slice la (inF its its[i].con).length lcap) (inF its its[i].con).length (ints (inF its its[i].con))) t (by ac_rfl)
    · simp at h2
      have hheld : heldN (its.take (i + 1)) = heldN (its.take i) := by
        unfold heldN
        rw [htake, List.filter_append, List.filter_cons_of_neg (by simp [h2])]; simp
      simp
      try simp (disch := omega) only [wrap64]
      refine hN _ _ ⟨i + 1, _, _, _, _, _, by rw [hheld]; simp; exact ⟨rfl, rfl, rfl, rfl, rfl⟩, by omega, ?_⟩ (by simp [slotN]; omega)
      exact St.cut (pt xb (.cells its[i].cs.toArray 44 (0, 0))) s5 (by ac_rfl)
  · simp at h
    simp
    refine hE _ _ _ ?_
    simp
    have e : i = its.length := by omega
    subst e
    rw [List.take_length]
    exact ⟨by omega, s'.drop⟩
theorem once_spec (p : Nat) (lim : Int) (its : List It) (w0 w : World) (A : Asn) (hg : GI lim its) (s : St w0 (A * gds p lim its) w) :
    CallW Try.prog 14 [.pointer (some ⟨p, 0, none⟩)] (fun r w' => r = .bool true ∧ St w0 (A * gds p lim its) w') w := by
  have hlen := hg.len
  have hlim := hg.lim
  refine callW_of_lift l14_ok (by simp [l14]) ?_
  simp [l14]
  refine eff_call ((Rows_spec p lim its w0 w A (by omega) s).mono ?_)
  intro v w1 s1
  obtain ⟨a, cap, rfl, _⟩ := s1.own_val
  simp
  refine eff_call ((Len_spec p lim its w0 w1 _ s1.swap).mono ?_)
  rintro r w2 ⟨rfl, s2⟩
  simp
  refine eff_call ((Limit_spec p lim its w0 w2 _ s2).mono ?_)
  rintro r w3 ⟨rfl, s3⟩
  have hl2 : ¬ lim < its.length := by omega
  simp [hl2]
  refine loopI (fun env w' => ∃ (n : Nat) (o5 o6 o7 o8 o9 : Value), env = [.pointer (some ⟨p, 0, none⟩), .bool false, .slice a its.length cap, .int .i64 (seenF its n), .int .i64 n, o5, o6, o7, o8, o9, undef, undef, undef, undef, undef, undef] ∧ n ≤ 64 ∧
      St w0 (A * gds p lim its * own 44 4 (.slice a its.length cap) its.length (flat its)) w')
    (fun env _ => 64 - slotN env 4) ⟨0, _, _, _, _, _, by rw [show seenF its ((0 : Nat) : Int) = 0 from seen_zero its]; rfl, by omega, s3.to (by ac_rfl)⟩ ?_
  rintro LQ env w' ⟨n, o5, o6, o7, o8, o9, rfl, hn, s'⟩ hN hE hR
  simp
  refine cndI (fun h => ?_) (fun h => ?_)
  · simp at h
    have hle := List.length_filter_le (ofP (n : Int)) its
    simp
    refine eff_call ((Of_spec p lim its n w0 w' (A * own 44 4 (.slice a its.length cap) its.length (flat its)) (by omega) (s'.to (by ac_rfl))).mono ?_)
    intro vl w4 s4
    obtain ⟨la, lcap, rfl, _⟩ := s4.own_val
    simp
    refine eff_call ((Kinds_spec p lim its n w0 w4 (A * own 44 4 (.slice a its.length cap) its.length (flat its) * own 3 1 (.slice la (ofF its n).length lcap) (ofF its n).length (ints (ofF its n))) hg.toWF (by omega) (s4.to (by ac_rfl))).mono ?_)
    rintro r w5 ⟨rfl, s5⟩
    simp
    refine eff_new s5 ?_
    intro kb w6 s6
    simp
    refine eff_stA (vs := ints (tally (its.filter (ofP n)))) s6 (by simp) (by simp [ints, tally_len]) (ints_one _) (by simp) ?_
    intro w7 s7
    simp
    have hof : ofF its n = (its.filter (ofP n)).map It.num := rfl
    have hlenL : (ofF its n).length = (its.filter (ofP n)).length := by rw [hof, List.length_map]
    have hsl := seen_le its ((n : Int) + 1)
    have hss := seen_succ its n
    have hww : IntKind.i64.wrap (((seenF its n : Nat) : Int) + ((ofF its n).length : Int)) = (seenF its ((n : Int) + 1) : Int) := by
      rw [wrap64 (by omega) (by omega)]; omega
    rw [hww]
    have hz : (List.drop 4 ([] : List Value)) = [] := rfl
    have s8 : St w0 (A * own 44 4 (.slice a its.length cap) its.length (flat its) * own 3 1 (.slice la (ofF its n).length lcap) (ofF its n).length (ints (ofF its n)) * gds p lim its * pt kb (.cells (ints (tally ((its.filter (ofP n)).drop 0))).toArray 74 (0, 0))) w7 := by simpa using s7
    refine loopI (fun env w' => ∃ (i : Nat) (o8 o9 : Value), env = [.pointer (some ⟨p, 0, none⟩), .bool false, .slice a its.length cap, .int .i64 (seenF its ((n : Int) + 1)), .int .i64 n, .slice la (ofF its n).length lcap, .pointer (some ⟨kb, 0, none⟩), .int .i64 i, o8, o9, undef, undef, undef, undef, undef, undef] ∧ i ≤ (its.filter (ofP n)).length ∧
        St w0 (A * own 44 4 (.slice a its.length cap) its.length (flat its) * own 3 1 (.slice la (ofF its n).length lcap) (ofF its n).length (ints (ofF its n)) * gds p lim its * pt kb (.cells (ints (tally ((its.filter (ofP n)).drop i))).toArray 74 (0, 0))) w')
      (fun env _ => (its.filter (ofP n)).length - slotN env 7) ⟨0, _, _, rfl, by omega, s8⟩ ?_
    rintro LQ2 env w' ⟨i, o8, o9, rfl, hi, t⟩ hN2 hE2 hR2
    simp
    refine cndI (fun h2 => ?_) (fun h2 => ?_)
    · simp at h2
      have h2L : i < (its.filter (ofP n)).length := by omega
      have hm := List.mem_filter.1 (List.getElem_mem h2L)
      obtain ⟨k, hk, ek⟩ := List.getElem_of_mem hm.1
      have hnum : (its.filter (ofP n))[i].num = (k : Int) + 1 := by rw [← ek]; exact hg.num k hk
      have hacc : ¬ 0 < its[k].con ∧ its[k].acc = n := by
        have := hm.2
        rw [← ek] at this
        simpa [ofP] using this
      have hcon : its[k].con = 0 := by
        rcases hg.place its[k] (List.getElem_mem hk) with h | h
        · exact h.1
        · exact absurd h.1 hacc.1
      obtain ⟨kd, hkd⟩ : ∃ m : Nat, its[k].kind = m := ⟨its[k].kind.toNat, by have := hg.kind its[k] (List.getElem_mem hk); omega⟩
      have hkd16 : kd < 16 := by have := hg.kind its[k] (List.getElem_mem hk); omega
      obtain ⟨g, cap', hv, _, hc⟩ := t.swap.drop.swap.own_at (by omega)
      cases hv
      simp [h2]
      refine eff_ldc (v := .int .i64 ((k : Int) + 1)) (hc i _ (by rw [hof]; simp [ints, h2L, hnum])) ?_
      simp
      refine eff_call ((Get_spec p lim its ((k : Int) + 1) w0 w' (A * own 44 4 (.slice a its.length cap) its.length (flat its) * own 3 1 (.slice (some ⟨g, 0, none⟩) (ofF its n).length lcap) (ofF its n).length (ints (ofF its n)) * pt kb (.cells (ints (tally ((its.filter (ofP n)).drop i))).toArray 74 (0, 0))) (by omega) (t.to (by ac_rfl))).mono ?_)
      rintro r w8 ⟨rfl, t2⟩
      rw [get_at hk]
      simp
      refine eff_new t2 ?_
      intro xb w9 t3
      simp
      refine eff_stA (vs := its[k].cs) t3 rfl rfl (cs_one _) (by simp) ?_
      intro w10 t4
      simp
      have t5 : St w0 (A * own 44 4 (.slice a its.length cap) its.length (flat its) * gds p lim its * pt xb (.cells its[k].cs.toArray 44 (0, 0)) * pt kb (.cells (ints (tally ((its.filter (ofP n)).drop i))).toArray 74 (0, 0)) * own 3 1 (.slice (some ⟨g, 0, none⟩) (ofF its n).length lcap) (ofF its n).length (ints (ofF its n))) w10 := by
        have := t4.to (B := A * own 44 4 (.slice a its.length cap) its.length (flat its) * gds p lim its * pt xb _ * pt kb (.cells (ints (tally ((its.filter (ofP n)).drop i))).toArray 74 (0, 0)) * own 3 1 (.slice (some ⟨g, 0, none⟩) (ofF its n).length lcap) (ofF its n).length (ints (ofF its n))) (by ac_rfl)
        simpa using this
      obtain ⟨g', o', cap2, hv, hcR⟩ := (row_own t5).at (by omega)
      cases hv
      have q1 : ∀ w, St w0 (A * own 44 4 (.slice a its.length cap) its.length (flat its) * gds p lim its * pt xb (.cells its[k].cs.toArray 44 (0, 0)) * pt kb (.cells (ints (tally ((its.filter (ofP n)).drop i))).toArray 74 (0, 0)) * own 3 1 (.slice (some ⟨g, 0, none⟩) (ofF its n).length lcap) (ofF its n).length (ints (ofF its n))) w → w.cell? ⟨xb, 1, none⟩ = some (.int .i64 kd) := fun w s => by rw [cell_of s.drop.swap.look]; simp [It.cs, hkd]
      have hkdb : ¬ (kd : Int) < 0 ∧ ¬ 15 < (kd : Int) := by omega
      refine brqI t5 ?_
      simp
      refine effq_ldc (v := .int .i64 its[k].acc) (fun w s => by rw [cell_of s.drop.swap.look]; rfl) ?_
      simp [hacc.2]
      refine effq_ldc (v := .int .i64 its[k].con) (fun w s => by rw [cell_of s.drop.swap.look]; rfl) ?_
      simp [hcon]
      by_cases hi0 : 0 < i
      case' pos =>
        simp [hi0]
        have hi1 : i < (ofF its n).length := by omega
        have hprev : i - 1 < (its.filter (ofP n)).length := by omega
        have hup := of_up hg.toWF n (i := i - 1) (by omega)
        have hwi : IntKind.i64.wrap ((i : Int) - 1) = ((i - 1 : Nat) : Int) := by rw [wrap64 (by omega) (by omega)]; omega
        have hup' : (its.filter (ofP n))[i - 1].num < (k : Int) + 1 := by
          rw [← hnum]
          have e : i - 1 + 1 = i := by omega
          simpa [e] using hup
        have hupn : ¬ (k : Int) + 1 ≤ (its.filter (ofP n))[i - 1].num := by omega
        simp [hi1, hwi]
        refine effq_ldc (v := .int .i64 ((k : Int) + 1)) (fun w s => by have := hcR w s i _ (show (ints (ofF its n))[i]? = some (.int .i64 ((k : Int) + 1)) by rw [hof]; simp [ints, h2L, hnum]); rw [Nat.zero_add] at this; exact this) ?_
        have hi1' : i - 1 < (ofF its n).length := by omega
        simp [hi1', hwi]
        refine effq_ldc (v := .int .i64 (its.filter (ofP n))[i - 1].num) (fun w s => by have := hcR w s (i - 1) _ (show (ints (ofF its n))[i - 1]? = some (.int .i64 (its.filter (ofP n))[i - 1].num) by rw [hof]; simp [ints, hprev]); rw [Nat.zero_add] at this; exact this) ?_
        simp [hupn]
        refine effq_ldc q1 ?_
        simp [hkdb.1]
        refine effq_ldc q1 ?_
        simp [hkdb.2]
      case' neg =>
        simp [hi0]
        refine effq_ldc q1 ?_
        simp [hkdb.1]
        refine effq_ldc q1 ?_
        simp [hkdb.2]
      all_goals
        intro w11 t6
        refine eff_ldc (q1 _ t6) ?_
        have hkdi : (kd : Int) < 16 := by omega
        simp [hkdi]
        have hdr : (its.filter (ofP n)).drop i = its[k] :: (its.filter (ofP n)).drop (i + 1) := by rw [List.drop_eq_getElem_cons h2L, ek]
        have hcl := List.length_filter_le (fun x : It => decide (x.kind = (kd : Int))) ((its.filter (ofP n)).drop i)
        rw [List.length_drop] at hcl
        refine eff_ldc (a := ⟨kb, kd, none⟩) (v := .int .i64 ((((its.filter (ofP n)).drop i).filter fun x => decide (x.kind = (kd : Int))).length : Int)) (by rw [cell_of t6.swap.look]; simp [ints, tally_at _ _ hkd16]) ?_
        simp [hkdi]
        have hww2 : IntKind.i64.wrap (((((its.filter (ofP n)).drop i).filter fun x => decide (x.kind = (kd : Int))).length : Int) - 1) = ((((its.filter (ofP n)).drop i).filter fun x => decide (x.kind = (kd : Int))).length : Int) - 1 := wrap64 (by omega) (by omega)
        rw [hww2]
        refine eff_st1 t6.swap rfl (by simp [ints, tally_len, hkd16]) ?_
        intro w12 t7
        simp
        try simp (disch := omega) only [wrap64]
        refine hN2 _ _ ⟨i + 1, _, _, by simp; exact ⟨rfl, rfl⟩, by omega, ?_⟩ (by simp [slotN]; omega)
        have e9 : (ints (tally ((its.filter (ofP n)).drop i))).toArray.setIfInBounds kd (.int .i64 (((((its.filter (ofP n)).drop i).filter fun x => decide (x.kind = (kd : Int))).length : Int) - 1)) = (ints (tally ((its.filter (ofP n)).drop (i + 1)))).toArray := by
          rw [hdr, ← tally_cons ((its.filter (ofP n)).drop (i + 1)) its[k] kd hkd16 hkd]
          simp [ints, List.map_set]
        rw [e9] at t7
        exact St.cut (pt xb (.cells its[k].cs.toArray 44 (0, 0))) t7 (by ac_rfl)
    · simp at h2
      simp
      refine hE2 _ _ _ ?_
      simp
      have hie : i = (its.filter (ofP n)).length := by omega
      subst hie
      rw [List.drop_length] at t
      refine eff_ldcs (vs := ints (tally [])) (off := 0) t.row_cells (by simp [ints, tally_len]) ?_
      simp
      refine eff_bld0 (e := 3) (n := 16) (z := .agg #[.int .i64 0, .int .i64 0, .int .i64 0, .int .i64 0, .int .i64 0, .int .i64 0, .int .i64 0, .int .i64 0, .int .i64 0, .int .i64 0, .int .i64 0, .int .i64 0, .int .i64 0, .int .i64 0, .int .i64 0, .int .i64 0]) (by kernel_rfl) (by kernel_rfl) (by kernel_rfl) ?_
      simp
      refine eff_neqA arrT (tally []) (tally []) (tally_len _) (tally_len _) (ints_holds _) zero_holds ?_
      simp
      try simp (disch := omega) only [wrap64]
      refine hN _ _ ⟨n + 1, _, _, _, _, _, by simp; exact ⟨rfl, rfl, rfl, rfl, rfl⟩, by omega, ?_⟩ (by simp [slotN]; omega)
      exact St.cut (own 3 1 (.slice la (ofF its n).length lcap) (ofF its n).length (ints (ofF its n))) t.drop (by ac_rfl)
  · simp at h
    simp
    refine hE _ _ _ ?_
    simp
    have : n = 64 := by omega
    subst this
    simpa using once_second p lim its a cap o5 o6 o7 o8 o9 _ w0 w' A hg s'
end Go.HL.Gd
