/-
  Wheel: the law of steps: its ends. No condition.
-/
import Derived.Test.YtngjaibngkhidaaWhW
namespace Go.HL.Wh
open Go.HL Go.Proofs
set_option maxRecDepth 4000
set_option linter.unusedSimpArgs false
set_option linter.unusedVariables false
-- bazaar/bazaarlaw09.WheelSteps
def h5_0 : HC := (.seq (.reg (.chk none .lenL (.cons (.inp 24) .nil) (.eff (.call 15) (.cons (.inp 5) .nil) (.chk none (.bin .eql) (.cons (.op .lenL (.cons (.inp 24) .nil)) (.cons (.bv 0) .nil)) (.bnd (.op (.bin .eql) (.cons (.op .lenL (.cons (.inp 24) .nil)) (.cons (.bv 0) .nil))) (.chk (some ((.bv 1), true)) .lenL (.cons (.inp 24) .nil) (.ite (.bv 1) true (.eff (.call 15) (.cons (.ite (.bv 1) true (.inp 22) (.cst (.tuple #[]))) .nil) (.chk none (.bin .eql) (.cons (.ite (.bv 1) true (.op .lenL (.cons (.inp 24) .nil)) (.cst (.tuple #[]))) (.cons (.bv 2) .nil)) (.isb none (.bv 1) (.done [(4, (.op (.bin .eql) (.cons (.ite (.bv 1) true (.op .lenL (.cons (.inp 24) .nil)) (.cst (.tuple #[]))) (.cons (.bv 2) .nil))))] none)))) (.isb none (.bv 1) (.done [(4, (.cst (.bool false)))] none))))))))) .ret)
@[simp] theorem h5_0_wp {P : Program} {F : PF P} {Q : EX → List Value → World → Prop} {env : List Value} {w : World} : h5_0.wp F Q env w = HC.wp F (.seq (.reg (.chk none .lenL (.cons (.inp 24) .nil) (.eff (.call 15) (.cons (.inp 5) .nil) (.chk none (.bin .eql) (.cons (.op .lenL (.cons (.inp 24) .nil)) (.cons (.bv 0) .nil)) (.bnd (.op (.bin .eql) (.cons (.op .lenL (.cons (.inp 24) .nil)) (.cons (.bv 0) .nil))) (.chk (some ((.bv 1), true)) .lenL (.cons (.inp 24) .nil) (.ite (.bv 1) true (.eff (.call 15) (.cons (.ite (.bv 1) true (.inp 22) (.cst (.tuple #[]))) .nil) (.chk none (.bin .eql) (.cons (.ite (.bv 1) true (.op .lenL (.cons (.inp 24) .nil)) (.cst (.tuple #[]))) (.cons (.bv 2) .nil)) (.isb none (.bv 1) (.done [(4, (.op (.bin .eql) (.cons (.ite (.bv 1) true (.op .lenL (.cons (.inp 24) .nil)) (.cst (.tuple #[]))) (.cons (.bv 2) .nil))))] none)))) (.isb none (.bv 1) (.done [(4, (.cst (.bool false)))] none))))))))) .ret) Q env w := rfl
def h5_1 : HC := (.reg (.chk none (.bin .add) (.cons (.inp 33) (.cons (.cst (.int .i64 1)) .nil)) (.done [(33, (.op (.bin .add) (.cons (.inp 33) (.cons (.cst (.int .i64 1)) .nil))))] none)))
@[simp] theorem h5_1_wp {P : Program} {F : PF P} {Q : EX → List Value → World → Prop} {env : List Value} {w : World} : h5_1.wp F Q env w = HC.wp F (.reg (.chk none (.bin .add) (.cons (.inp 33) (.cons (.cst (.int .i64 1)) .nil)) (.done [(33, (.op (.bin .add) (.cons (.inp 33) (.cons (.cst (.int .i64 1)) .nil))))] none))) Q env w := rfl
def h5_2 : HC := (.seq (.reg (.done [(4, (.cst (.bool false)))] none)) .ret)
@[simp] theorem h5_2_wp {P : Program} {F : PF P} {Q : EX → List Value → World → Prop} {env : List Value} {w : World} : h5_2.wp F Q env w = HC.wp F (.seq (.reg (.done [(4, (.cst (.bool false)))] none)) .ret) Q env w := rfl
def h5_3 : HC := (.br (.eff (.call 21) (.cons (.inp 5) (.cons (.inp 33) .nil)) (.eff (.call 21) (.cons (.inp 7) (.cons (.inp 33) .nil)) (.eff (.call 23) (.cons (.bv 0) (.cons (.bv 1) .nil)) (.chk none (.un .not) (.cons (.bv 2) .nil) (.bnd (.op (.un .not) (.cons (.bv 2) .nil)) (.ite (.bv 3) false (.eff (.call 21) (.cons (.ite (.bv 3) false (.inp 5) (.cst (.tuple #[]))) (.cons (.ite (.bv 3) false (.inp 33) (.cst (.tuple #[]))) .nil)) (.eff (.call 21) (.cons (.inp 22) (.cons (.inp 33) .nil)) (.eff (.call 23) (.cons (.bv 4) (.cons (.bv 5) .nil)) (.chk none (.un .not) (.cons (.bv 6) .nil) (.isb none (.bv 3) (.done [] (some (.op (.un .not) (.cons (.bv 6) .nil))))))))) (.isb none (.bv 3) (.done [] (some (.cst (.bool true))))))))))) h5_2 .skip)
@[simp] theorem h5_3_wp {P : Program} {F : PF P} {Q : EX → List Value → World → Prop} {env : List Value} {w : World} : h5_3.wp F Q env w = HC.wp F (.br (.eff (.call 21) (.cons (.inp 5) (.cons (.inp 33) .nil)) (.eff (.call 21) (.cons (.inp 7) (.cons (.inp 33) .nil)) (.eff (.call 23) (.cons (.bv 0) (.cons (.bv 1) .nil)) (.chk none (.un .not) (.cons (.bv 2) .nil) (.bnd (.op (.un .not) (.cons (.bv 2) .nil)) (.ite (.bv 3) false (.eff (.call 21) (.cons (.ite (.bv 3) false (.inp 5) (.cst (.tuple #[]))) (.cons (.ite (.bv 3) false (.inp 33) (.cst (.tuple #[]))) .nil)) (.eff (.call 21) (.cons (.inp 22) (.cons (.inp 33) .nil)) (.eff (.call 23) (.cons (.bv 4) (.cons (.bv 5) .nil)) (.chk none (.un .not) (.cons (.bv 6) .nil) (.isb none (.bv 3) (.done [] (some (.op (.un .not) (.cons (.bv 6) .nil))))))))) (.isb none (.bv 3) (.done [] (some (.cst (.bool true))))))))))) h5_2 .skip) Q env w := rfl
def h5_4 : HC := (.seq (.block 9 h5_3) h5_1)
@[simp] theorem h5_4_wp {P : Program} {F : PF P} {Q : EX → List Value → World → Prop} {env : List Value} {w : World} : h5_4.wp F Q env w = HC.wp F (.seq (.block 9 h5_3) h5_1) Q env w := rfl
def h5_5 : HC := (.seq (.br (.chk none (.bin .lss) (.cons (.inp 33) (.cons (.cst (.int .i64 5)) .nil)) (.done [] (some (.op (.bin .lss) (.cons (.inp 33) (.cons (.cst (.int .i64 5)) .nil)))))) .skip (.exit 8)) h5_4)
@[simp] theorem h5_5_wp {P : Program} {F : PF P} {Q : EX → List Value → World → Prop} {env : List Value} {w : World} : h5_5.wp F Q env w = HC.wp F (.seq (.br (.chk none (.bin .lss) (.cons (.inp 33) (.cons (.cst (.int .i64 5)) .nil)) (.done [] (some (.op (.bin .lss) (.cons (.inp 33) (.cons (.cst (.int .i64 5)) .nil)))))) .skip (.exit 8)) h5_4) Q env w := rfl
def h5_6 : HC := (.loop h5_5)
@[simp] theorem h5_6_wp {P : Program} {F : PF P} {Q : EX → List Value → World → Prop} {env : List Value} {w : World} : h5_6.wp F Q env w = HC.wp F (.loop h5_5) Q env w := rfl
def h5_7 : HC := (.seq (.block 8 h5_6) h5_0)
@[simp] theorem h5_7_wp {P : Program} {F : PF P} {Q : EX → List Value → World → Prop} {env : List Value} {w : World} : h5_7.wp F Q env w = HC.wp F (.seq (.block 8 h5_6) h5_0) Q env w := rfl
def h5_8 : HC := (.seq (.reg (.done [(33, (.cst (.int .i64 0)))] none)) h5_7)
@[simp] theorem h5_8_wp {P : Program} {F : PF P} {Q : EX → List Value → World → Prop} {env : List Value} {w : World} : h5_8.wp F Q env w = HC.wp F (.seq (.reg (.done [(33, (.cst (.int .i64 0)))] none)) h5_7) Q env w := rfl
def h5_9 : HC := (.reg (.chk none (.bin .add) (.cons (.inp 25) (.cons (.cst (.int .i64 1)) .nil)) (.done [(25, (.op (.bin .add) (.cons (.inp 25) (.cons (.cst (.int .i64 1)) .nil))))] none)))
@[simp] theorem h5_9_wp {P : Program} {F : PF P} {Q : EX → List Value → World → Prop} {env : List Value} {w : World} : h5_9.wp F Q env w = HC.wp F (.reg (.chk none (.bin .add) (.cons (.inp 25) (.cons (.cst (.int .i64 1)) .nil)) (.done [(25, (.op (.bin .add) (.cons (.inp 25) (.cons (.cst (.int .i64 1)) .nil))))] none))) Q env w := rfl
def h5_10 : HC := (.seq (.reg (.done [(4, (.cst (.bool false)))] none)) .ret)
@[simp] theorem h5_10_wp {P : Program} {F : PF P} {Q : EX → List Value → World → Prop} {env : List Value} {w : World} : h5_10.wp F Q env w = HC.wp F (.seq (.reg (.done [(4, (.cst (.bool false)))] none)) .ret) Q env w := rfl
def h5_11 : HC := (.br (.chk none (.cal 10) (.cons (.inp 32) .nil) (.chk none (.bin .neq) (.cons (.op (.cal 10) (.cons (.inp 32) .nil)) (.cons (.cst (.int .i64 0)) .nil)) (.bnd (.op (.bin .neq) (.cons (.op (.cal 10) (.cons (.inp 32) .nil)) (.cons (.cst (.int .i64 0)) .nil))) (.chk (some ((.bv 0), false)) (.bin .neq) (.cons (.inp 26) (.cons (.inp 28) .nil)) (.isb none (.bv 0) (.bnd (.ite (.bv 0) true (.cst (.bool true)) (.op (.bin .neq) (.cons (.inp 26) (.cons (.inp 28) .nil)))) (.chk (some ((.bv 1), false)) (.bin .neq) (.cons (.inp 27) (.cons (.inp 29) .nil)) (.isb none (.bv 1) (.bnd (.ite (.bv 1) true (.cst (.bool true)) (.op (.bin .neq) (.cons (.inp 27) (.cons (.inp 29) .nil)))) (.chk (some ((.bv 2), false)) (.bin .neq) (.cons (.inp 26) (.cons (.inp 30) .nil)) (.isb none (.bv 2) (.bnd (.ite (.bv 2) true (.cst (.bool true)) (.op (.bin .neq) (.cons (.inp 26) (.cons (.inp 30) .nil)))) (.chk (some ((.bv 3), false)) (.bin .neq) (.cons (.inp 27) (.cons (.inp 31) .nil)) (.isb none (.bv 3) (.done [] (some (.ite (.bv 3) true (.cst (.bool true)) (.op (.bin .neq) (.cons (.inp 27) (.cons (.inp 31) .nil)))))))))))))))))))) h5_10 .skip)
@[simp] theorem h5_11_wp {P : Program} {F : PF P} {Q : EX → List Value → World → Prop} {env : List Value} {w : World} : h5_11.wp F Q env w = HC.wp F (.br (.chk none (.cal 10) (.cons (.inp 32) .nil) (.chk none (.bin .neq) (.cons (.op (.cal 10) (.cons (.inp 32) .nil)) (.cons (.cst (.int .i64 0)) .nil)) (.bnd (.op (.bin .neq) (.cons (.op (.cal 10) (.cons (.inp 32) .nil)) (.cons (.cst (.int .i64 0)) .nil))) (.chk (some ((.bv 0), false)) (.bin .neq) (.cons (.inp 26) (.cons (.inp 28) .nil)) (.isb none (.bv 0) (.bnd (.ite (.bv 0) true (.cst (.bool true)) (.op (.bin .neq) (.cons (.inp 26) (.cons (.inp 28) .nil)))) (.chk (some ((.bv 1), false)) (.bin .neq) (.cons (.inp 27) (.cons (.inp 29) .nil)) (.isb none (.bv 1) (.bnd (.ite (.bv 1) true (.cst (.bool true)) (.op (.bin .neq) (.cons (.inp 27) (.cons (.inp 29) .nil)))) (.chk (some ((.bv 2), false)) (.bin .neq) (.cons (.inp 26) (.cons (.inp 30) .nil)) (.isb none (.bv 2) (.bnd (.ite (.bv 2) true (.cst (.bool true)) (.op (.bin .neq) (.cons (.inp 26) (.cons (.inp 30) .nil)))) (.chk (some ((.bv 3), false)) (.bin .neq) (.cons (.inp 27) (.cons (.inp 31) .nil)) (.isb none (.bv 3) (.done [] (some (.ite (.bv 3) true (.cst (.bool true)) (.op (.bin .neq) (.cons (.inp 27) (.cons (.inp 31) .nil)))))))))))))))))))) h5_10 .skip) Q env w := rfl
def h5_12 : HC := (.seq (.reg (.chk none (.idxL 2) (.cons (.inp 24) (.cons (.inp 25) .nil)) (.chk none (.fld 0) (.cons (.op (.idxL 2) (.cons (.inp 24) (.cons (.inp 25) .nil))) .nil) (.eff (.ld false 1) (.cons (.op (.fld 0) (.cons (.op (.idxL 2) (.cons (.inp 24) (.cons (.inp 25) .nil))) .nil)) .nil) (.eff (.call 25) (.cons (.inp 22) (.cons (.bv 0) .nil)) (.chk none (.ext 0) (.cons (.bv 1) .nil) (.chk none (.ext 1) (.cons (.bv 1) .nil) (.chk none (.ext 2) (.cons (.bv 1) .nil) (.done [(30, (.op (.ext 0) (.cons (.bv 1) .nil))), (31, (.op (.ext 1) (.cons (.bv 1) .nil))), (32, (.op (.ext 2) (.cons (.bv 1) .nil)))] none))))))))) h5_11)
@[simp] theorem h5_12_wp {P : Program} {F : PF P} {Q : EX → List Value → World → Prop} {env : List Value} {w : World} : h5_12.wp F Q env w = HC.wp F (.seq (.reg (.chk none (.idxL 2) (.cons (.inp 24) (.cons (.inp 25) .nil)) (.chk none (.fld 0) (.cons (.op (.idxL 2) (.cons (.inp 24) (.cons (.inp 25) .nil))) .nil) (.eff (.ld false 1) (.cons (.op (.fld 0) (.cons (.op (.idxL 2) (.cons (.inp 24) (.cons (.inp 25) .nil))) .nil)) .nil) (.eff (.call 25) (.cons (.inp 22) (.cons (.bv 0) .nil)) (.chk none (.ext 0) (.cons (.bv 1) .nil) (.chk none (.ext 1) (.cons (.bv 1) .nil) (.chk none (.ext 2) (.cons (.bv 1) .nil) (.done [(30, (.op (.ext 0) (.cons (.bv 1) .nil))), (31, (.op (.ext 1) (.cons (.bv 1) .nil))), (32, (.op (.ext 2) (.cons (.bv 1) .nil)))] none))))))))) h5_11) Q env w := rfl
def h5_13 : HC := (.seq (.reg (.chk none (.idxL 2) (.cons (.inp 24) (.cons (.inp 25) .nil)) (.chk none (.fld 0) (.cons (.op (.idxL 2) (.cons (.inp 24) (.cons (.inp 25) .nil))) .nil) (.eff (.ld false 1) (.cons (.op (.fld 0) (.cons (.op (.idxL 2) (.cons (.inp 24) (.cons (.inp 25) .nil))) .nil)) .nil) (.eff (.call 25) (.cons (.inp 7) (.cons (.bv 0) .nil)) (.chk none (.ext 0) (.cons (.bv 1) .nil) (.chk none (.ext 1) (.cons (.bv 1) .nil) (.chk none (.ext 2) (.cons (.bv 1) .nil) (.done [(28, (.op (.ext 0) (.cons (.bv 1) .nil))), (29, (.op (.ext 1) (.cons (.bv 1) .nil)))] none))))))))) h5_12)
@[simp] theorem h5_13_wp {P : Program} {F : PF P} {Q : EX → List Value → World → Prop} {env : List Value} {w : World} : h5_13.wp F Q env w = HC.wp F (.seq (.reg (.chk none (.idxL 2) (.cons (.inp 24) (.cons (.inp 25) .nil)) (.chk none (.fld 0) (.cons (.op (.idxL 2) (.cons (.inp 24) (.cons (.inp 25) .nil))) .nil) (.eff (.ld false 1) (.cons (.op (.fld 0) (.cons (.op (.idxL 2) (.cons (.inp 24) (.cons (.inp 25) .nil))) .nil)) .nil) (.eff (.call 25) (.cons (.inp 7) (.cons (.bv 0) .nil)) (.chk none (.ext 0) (.cons (.bv 1) .nil) (.chk none (.ext 1) (.cons (.bv 1) .nil) (.chk none (.ext 2) (.cons (.bv 1) .nil) (.done [(28, (.op (.ext 0) (.cons (.bv 1) .nil))), (29, (.op (.ext 1) (.cons (.bv 1) .nil)))] none))))))))) h5_12) Q env w := rfl
def h5_14 : HC := (.seq (.reg (.chk none (.idxL 2) (.cons (.inp 24) (.cons (.inp 25) .nil)) (.chk none (.fld 0) (.cons (.op (.idxL 2) (.cons (.inp 24) (.cons (.inp 25) .nil))) .nil) (.eff (.ld false 1) (.cons (.op (.fld 0) (.cons (.op (.idxL 2) (.cons (.inp 24) (.cons (.inp 25) .nil))) .nil)) .nil) (.eff (.call 25) (.cons (.inp 5) (.cons (.bv 0) .nil)) (.chk none (.ext 0) (.cons (.bv 1) .nil) (.chk none (.ext 1) (.cons (.bv 1) .nil) (.chk none (.ext 2) (.cons (.bv 1) .nil) (.done [(26, (.op (.ext 0) (.cons (.bv 1) .nil))), (27, (.op (.ext 1) (.cons (.bv 1) .nil)))] none))))))))) h5_13)
@[simp] theorem h5_14_wp {P : Program} {F : PF P} {Q : EX → List Value → World → Prop} {env : List Value} {w : World} : h5_14.wp F Q env w = HC.wp F (.seq (.reg (.chk none (.idxL 2) (.cons (.inp 24) (.cons (.inp 25) .nil)) (.chk none (.fld 0) (.cons (.op (.idxL 2) (.cons (.inp 24) (.cons (.inp 25) .nil))) .nil) (.eff (.ld false 1) (.cons (.op (.fld 0) (.cons (.op (.idxL 2) (.cons (.inp 24) (.cons (.inp 25) .nil))) .nil)) .nil) (.eff (.call 25) (.cons (.inp 5) (.cons (.bv 0) .nil)) (.chk none (.ext 0) (.cons (.bv 1) .nil) (.chk none (.ext 1) (.cons (.bv 1) .nil) (.chk none (.ext 2) (.cons (.bv 1) .nil) (.done [(26, (.op (.ext 0) (.cons (.bv 1) .nil))), (27, (.op (.ext 1) (.cons (.bv 1) .nil)))] none))))))))) h5_13) Q env w := rfl
def h5_15 : HC := (.seq (.block 7 h5_14) h5_9)
@[simp] theorem h5_15_wp {P : Program} {F : PF P} {Q : EX → List Value → World → Prop} {env : List Value} {w : World} : h5_15.wp F Q env w = HC.wp F (.seq (.block 7 h5_14) h5_9) Q env w := rfl
def h5_16 : HC := (.seq (.br (.chk none .lenL (.cons (.inp 24) .nil) (.chk none (.bin .lss) (.cons (.inp 25) (.cons (.op .lenL (.cons (.inp 24) .nil)) .nil)) (.done [] (some (.op (.bin .lss) (.cons (.inp 25) (.cons (.op .lenL (.cons (.inp 24) .nil)) .nil))))))) .skip (.exit 6)) h5_15)
@[simp] theorem h5_16_wp {P : Program} {F : PF P} {Q : EX → List Value → World → Prop} {env : List Value} {w : World} : h5_16.wp F Q env w = HC.wp F (.seq (.br (.chk none .lenL (.cons (.inp 24) .nil) (.chk none (.bin .lss) (.cons (.inp 25) (.cons (.op .lenL (.cons (.inp 24) .nil)) .nil)) (.done [] (some (.op (.bin .lss) (.cons (.inp 25) (.cons (.op .lenL (.cons (.inp 24) .nil)) .nil))))))) .skip (.exit 6)) h5_15) Q env w := rfl
def h5_17 : HC := (.loop h5_16)
@[simp] theorem h5_17_wp {P : Program} {F : PF P} {Q : EX → List Value → World → Prop} {env : List Value} {w : World} : h5_17.wp F Q env w = HC.wp F (.loop h5_16) Q env w := rfl
def h5_18 : HC := (.seq (.block 6 h5_17) h5_8)
@[simp] theorem h5_18_wp {P : Program} {F : PF P} {Q : EX → List Value → World → Prop} {env : List Value} {w : World} : h5_18.wp F Q env w = HC.wp F (.seq (.block 6 h5_17) h5_8) Q env w := rfl
def h5_19 : HC := (.seq (.reg (.done [(25, (.cst (.int .i64 0)))] none)) h5_18)
@[simp] theorem h5_19_wp {P : Program} {F : PF P} {Q : EX → List Value → World → Prop} {env : List Value} {w : World} : h5_19.wp F Q env w = HC.wp F (.seq (.reg (.done [(25, (.cst (.int .i64 0)))] none)) h5_18) Q env w := rfl
def h5_20 : HC := (.seq (.reg (.eff (.call 20) (.cons (.inp 7) .nil) (.done [(24, (.bv 0))] none))) h5_19)
@[simp] theorem h5_20_wp {P : Program} {F : PF P} {Q : EX → List Value → World → Prop} {env : List Value} {w : World} : h5_20.wp F Q env w = HC.wp F (.seq (.reg (.eff (.call 20) (.cons (.inp 7) .nil) (.done [(24, (.bv 0))] none))) h5_19) Q env w := rfl
def h5_21 : HC := (.seq (.reg (.done [(4, (.cst (.bool false)))] none)) .ret)
@[simp] theorem h5_21_wp {P : Program} {F : PF P} {Q : EX → List Value → World → Prop} {env : List Value} {w : World} : h5_21.wp F Q env w = HC.wp F (.seq (.reg (.done [(4, (.cst (.bool false)))] none)) .ret) Q env w := rfl
def h5_22 : HC := (.seq (.br (.chk none (.cal 10) (.cons (.inp 23) .nil) (.chk none (.bin .neq) (.cons (.op (.cal 10) (.cons (.inp 23) .nil)) (.cons (.cst (.int .i64 0)) .nil)) (.done [] (some (.op (.bin .neq) (.cons (.op (.cal 10) (.cons (.inp 23) .nil)) (.cons (.cst (.int .i64 0)) .nil))))))) h5_21 .skip) h5_20)
@[simp] theorem h5_22_wp {P : Program} {F : PF P} {Q : EX → List Value → World → Prop} {env : List Value} {w : World} : h5_22.wp F Q env w = HC.wp F (.seq (.br (.chk none (.cal 10) (.cons (.inp 23) .nil) (.chk none (.bin .neq) (.cons (.op (.cal 10) (.cons (.inp 23) .nil)) (.cons (.cst (.int .i64 0)) .nil)) (.done [] (some (.op (.bin .neq) (.cons (.op (.cal 10) (.cons (.inp 23) .nil)) (.cons (.cst (.int .i64 0)) .nil))))))) h5_21 .skip) h5_20) Q env w := rfl
def h5_23 : HC := (.seq (.reg (.eff (.call 20) (.cons (.inp 5) .nil) (.eff (.call 18) (.cons (.inp 11) (.cons (.bv 0) .nil)) (.chk none (.ext 0) (.cons (.bv 1) .nil) (.chk none (.ext 1) (.cons (.bv 1) .nil) (.done [(22, (.op (.ext 0) (.cons (.bv 1) .nil))), (23, (.op (.ext 1) (.cons (.bv 1) .nil)))] none)))))) h5_22)
@[simp] theorem h5_23_wp {P : Program} {F : PF P} {Q : EX → List Value → World → Prop} {env : List Value} {w : World} : h5_23.wp F Q env w = HC.wp F (.seq (.reg (.eff (.call 20) (.cons (.inp 5) .nil) (.eff (.call 18) (.cons (.inp 11) (.cons (.bv 0) .nil)) (.chk none (.ext 0) (.cons (.bv 1) .nil) (.chk none (.ext 1) (.cons (.bv 1) .nil) (.done [(22, (.op (.ext 0) (.cons (.bv 1) .nil))), (23, (.op (.ext 1) (.cons (.bv 1) .nil)))] none)))))) h5_22) Q env w := rfl
def h5_24 : HC := (.reg (.chk none (.bin .add) (.cons (.inp 21) (.cons (.cst (.int .i64 1)) .nil)) (.done [(21, (.op (.bin .add) (.cons (.inp 21) (.cons (.cst (.int .i64 1)) .nil))))] none)))
@[simp] theorem h5_24_wp {P : Program} {F : PF P} {Q : EX → List Value → World → Prop} {env : List Value} {w : World} : h5_24.wp F Q env w = HC.wp F (.reg (.chk none (.bin .add) (.cons (.inp 21) (.cons (.cst (.int .i64 1)) .nil)) (.done [(21, (.op (.bin .add) (.cons (.inp 21) (.cons (.cst (.int .i64 1)) .nil))))] none))) Q env w := rfl
def h5_25 : HC := (.seq (.reg (.done [(4, (.cst (.bool false)))] none)) .ret)
@[simp] theorem h5_25_wp {P : Program} {F : PF P} {Q : EX → List Value → World → Prop} {env : List Value} {w : World} : h5_25.wp F Q env w = HC.wp F (.seq (.reg (.done [(4, (.cst (.bool false)))] none)) .ret) Q env w := rfl
def h5_26 : HC := (.brq (some 0) (.chk none (.idxL 2) (.cons (.inp 12) (.cons (.inp 21) .nil)) (.eff (.ld true 2) (.cons (.op (.idxL 2) (.cons (.inp 12) (.cons (.inp 21) .nil))) .nil) (.chk none (.idxL 2) (.cons (.inp 19) (.cons (.inp 21) .nil)) (.eff (.ld true 2) (.cons (.op (.idxL 2) (.cons (.inp 19) (.cons (.inp 21) .nil))) .nil) (.eff (.bin .neq 32 (.tmp 174) (.tmp 178)) (.cons (.bv 0) (.cons (.bv 1) .nil)) (.done [] (some (.bv 2)))))))) h5_25 .skip)
@[simp] theorem h5_26_wp {P : Program} {F : PF P} {Q : EX → List Value → World → Prop} {env : List Value} {w : World} : h5_26.wp F Q env w = HC.wp F (.brq (some 0) (.chk none (.idxL 2) (.cons (.inp 12) (.cons (.inp 21) .nil)) (.eff (.ld true 2) (.cons (.op (.idxL 2) (.cons (.inp 12) (.cons (.inp 21) .nil))) .nil) (.chk none (.idxL 2) (.cons (.inp 19) (.cons (.inp 21) .nil)) (.eff (.ld true 2) (.cons (.op (.idxL 2) (.cons (.inp 19) (.cons (.inp 21) .nil))) .nil) (.eff (.bin .neq 32 (.tmp 174) (.tmp 178)) (.cons (.bv 0) (.cons (.bv 1) .nil)) (.done [] (some (.bv 2)))))))) h5_25 .skip) Q env w := rfl
def h5_27 : HC := (.seq (.block 5 h5_26) h5_24)
@[simp] theorem h5_27_wp {P : Program} {F : PF P} {Q : EX → List Value → World → Prop} {env : List Value} {w : World} : h5_27.wp F Q env w = HC.wp F (.seq (.block 5 h5_26) h5_24) Q env w := rfl
def h5_28 : HC := (.seq (.br (.chk none .lenL (.cons (.inp 19) .nil) (.chk none (.bin .lss) (.cons (.inp 21) (.cons (.op .lenL (.cons (.inp 19) .nil)) .nil)) (.done [] (some (.op (.bin .lss) (.cons (.inp 21) (.cons (.op .lenL (.cons (.inp 19) .nil)) .nil))))))) .skip (.exit 4)) h5_27)
@[simp] theorem h5_28_wp {P : Program} {F : PF P} {Q : EX → List Value → World → Prop} {env : List Value} {w : World} : h5_28.wp F Q env w = HC.wp F (.seq (.br (.chk none .lenL (.cons (.inp 19) .nil) (.chk none (.bin .lss) (.cons (.inp 21) (.cons (.op .lenL (.cons (.inp 19) .nil)) .nil)) (.done [] (some (.op (.bin .lss) (.cons (.inp 21) (.cons (.op .lenL (.cons (.inp 19) .nil)) .nil))))))) .skip (.exit 4)) h5_27) Q env w := rfl
def h5_29 : HC := (.loop h5_28)
@[simp] theorem h5_29_wp {P : Program} {F : PF P} {Q : EX → List Value → World → Prop} {env : List Value} {w : World} : h5_29.wp F Q env w = HC.wp F (.loop h5_28) Q env w := rfl
def h5_30 : HC := (.seq (.block 4 h5_29) h5_23)
@[simp] theorem h5_30_wp {P : Program} {F : PF P} {Q : EX → List Value → World → Prop} {env : List Value} {w : World} : h5_30.wp F Q env w = HC.wp F (.seq (.block 4 h5_29) h5_23) Q env w := rfl
def h5_31 : HC := (.seq (.reg (.done [(21, (.cst (.int .i64 0)))] none)) h5_30)
@[simp] theorem h5_31_wp {P : Program} {F : PF P} {Q : EX → List Value → World → Prop} {env : List Value} {w : World} : h5_31.wp F Q env w = HC.wp F (.seq (.reg (.done [(21, (.cst (.int .i64 0)))] none)) h5_30) Q env w := rfl
def h5_32 : HC := (.seq (.reg (.done [(4, (.cst (.bool false)))] none)) .ret)
@[simp] theorem h5_32_wp {P : Program} {F : PF P} {Q : EX → List Value → World → Prop} {env : List Value} {w : World} : h5_32.wp F Q env w = HC.wp F (.seq (.reg (.done [(4, (.cst (.bool false)))] none)) .ret) Q env w := rfl
def h5_33 : HC := (.seq (.br (.chk none (.cal 10) (.cons (.inp 18) .nil) (.chk none (.bin .neq) (.cons (.op (.cal 10) (.cons (.inp 18) .nil)) (.cons (.cst (.int .i64 0)) .nil)) (.bnd (.op (.bin .neq) (.cons (.op (.cal 10) (.cons (.inp 18) .nil)) (.cons (.cst (.int .i64 0)) .nil))) (.chk (some ((.bv 0), false)) (.cal 10) (.cons (.inp 20) .nil) (.chk (some ((.bv 0), false)) (.bin .neq) (.cons (.op (.cal 10) (.cons (.inp 20) .nil)) (.cons (.cst (.int .i64 0)) .nil)) (.isb none (.bv 0) (.bnd (.ite (.bv 0) true (.cst (.bool true)) (.op (.bin .neq) (.cons (.op (.cal 10) (.cons (.inp 20) .nil)) (.cons (.cst (.int .i64 0)) .nil)))) (.chk (some ((.bv 1), false)) .lenL (.cons (.inp 12) .nil) (.chk (some ((.bv 1), false)) .lenL (.cons (.inp 19) .nil) (.chk (some ((.bv 1), false)) (.bin .neq) (.cons (.op .lenL (.cons (.inp 12) .nil)) (.cons (.op .lenL (.cons (.inp 19) .nil)) .nil)) (.isb none (.bv 1) (.bnd (.ite (.bv 1) true (.cst (.bool true)) (.op (.bin .neq) (.cons (.op .lenL (.cons (.inp 12) .nil)) (.cons (.op .lenL (.cons (.inp 19) .nil)) .nil)))) (.ite (.bv 2) false (.eff (.call 17) (.cons (.ite (.bv 2) false (.inp 5) (.cst (.tuple #[]))) .nil) (.eff (.call 17) (.cons (.inp 7) .nil) (.chk none (.bin .lss) (.cons (.bv 3) (.cons (.bv 4) .nil)) (.isb none (.bv 2) (.done [] (some (.op (.bin .lss) (.cons (.bv 3) (.cons (.bv 4) .nil))))))))) (.isb none (.bv 2) (.done [] (some (.cst (.bool true)))))))))))))))))) h5_32 .skip) h5_31)
@[simp] theorem h5_33_wp {P : Program} {F : PF P} {Q : EX → List Value → World → Prop} {env : List Value} {w : World} : h5_33.wp F Q env w = HC.wp F (.seq (.br (.chk none (.cal 10) (.cons (.inp 18) .nil) (.chk none (.bin .neq) (.cons (.op (.cal 10) (.cons (.inp 18) .nil)) (.cons (.cst (.int .i64 0)) .nil)) (.bnd (.op (.bin .neq) (.cons (.op (.cal 10) (.cons (.inp 18) .nil)) (.cons (.cst (.int .i64 0)) .nil))) (.chk (some ((.bv 0), false)) (.cal 10) (.cons (.inp 20) .nil) (.chk (some ((.bv 0), false)) (.bin .neq) (.cons (.op (.cal 10) (.cons (.inp 20) .nil)) (.cons (.cst (.int .i64 0)) .nil)) (.isb none (.bv 0) (.bnd (.ite (.bv 0) true (.cst (.bool true)) (.op (.bin .neq) (.cons (.op (.cal 10) (.cons (.inp 20) .nil)) (.cons (.cst (.int .i64 0)) .nil)))) (.chk (some ((.bv 1), false)) .lenL (.cons (.inp 12) .nil) (.chk (some ((.bv 1), false)) .lenL (.cons (.inp 19) .nil) (.chk (some ((.bv 1), false)) (.bin .neq) (.cons (.op .lenL (.cons (.inp 12) .nil)) (.cons (.op .lenL (.cons (.inp 19) .nil)) .nil)) (.isb none (.bv 1) (.bnd (.ite (.bv 1) true (.cst (.bool true)) (.op (.bin .neq) (.cons (.op .lenL (.cons (.inp 12) .nil)) (.cons (.op .lenL (.cons (.inp 19) .nil)) .nil)))) (.ite (.bv 2) false (.eff (.call 17) (.cons (.ite (.bv 2) false (.inp 5) (.cst (.tuple #[]))) .nil) (.eff (.call 17) (.cons (.inp 7) .nil) (.chk none (.bin .lss) (.cons (.bv 3) (.cons (.bv 4) .nil)) (.isb none (.bv 2) (.done [] (some (.op (.bin .lss) (.cons (.bv 3) (.cons (.bv 4) .nil))))))))) (.isb none (.bv 2) (.done [] (some (.cst (.bool true)))))))))))))))))) h5_32 .skip) h5_31) Q env w := rfl
def h5_34 : HC := (.seq (.reg (.eff (.call 14) (.cons (.inp 7) (.cons (.inp 11) .nil)) (.chk none (.ext 0) (.cons (.bv 0) .nil) (.chk none (.ext 1) (.cons (.bv 0) .nil) (.done [(19, (.op (.ext 0) (.cons (.bv 0) .nil))), (20, (.op (.ext 1) (.cons (.bv 0) .nil)))] none))))) h5_33)
@[simp] theorem h5_34_wp {P : Program} {F : PF P} {Q : EX → List Value → World → Prop} {env : List Value} {w : World} : h5_34.wp F Q env w = HC.wp F (.seq (.reg (.eff (.call 14) (.cons (.inp 7) (.cons (.inp 11) .nil)) (.chk none (.ext 0) (.cons (.bv 0) .nil) (.chk none (.ext 1) (.cons (.bv 0) .nil) (.done [(19, (.op (.ext 0) (.cons (.bv 0) .nil))), (20, (.op (.ext 1) (.cons (.bv 0) .nil)))] none))))) h5_33) Q env w := rfl
def h5_35 : HC := (.seq (.reg (.eff (.app 38 38 32 2 16 (.agg #[(.int .i64 0), (.int .i64 0)])) (.cons (.inp 12) (.cons (.inp 17) .nil)) (.done [(12, (.bv 0))] none))) h5_34)
@[simp] theorem h5_35_wp {P : Program} {F : PF P} {Q : EX → List Value → World → Prop} {env : List Value} {w : World} : h5_35.wp F Q env w = HC.wp F (.seq (.reg (.eff (.app 38 38 32 2 16 (.agg #[(.int .i64 0), (.int .i64 0)])) (.cons (.inp 12) (.cons (.inp 17) .nil)) (.done [(12, (.bv 0))] none))) h5_34) Q env w := rfl
def h5_36 : HC := (.seq (.reg (.eff (.call 14) (.cons (.inp 5) (.cons (.inp 11) .nil)) (.chk none (.ext 0) (.cons (.bv 0) .nil) (.chk none (.ext 1) (.cons (.bv 0) .nil) (.done [(17, (.op (.ext 0) (.cons (.bv 0) .nil))), (18, (.op (.ext 1) (.cons (.bv 0) .nil)))] none))))) h5_35)
@[simp] theorem h5_36_wp {P : Program} {F : PF P} {Q : EX → List Value → World → Prop} {env : List Value} {w : World} : h5_36.wp F Q env w = HC.wp F (.seq (.reg (.eff (.call 14) (.cons (.inp 5) (.cons (.inp 11) .nil)) (.chk none (.ext 0) (.cons (.bv 0) .nil) (.chk none (.ext 1) (.cons (.bv 0) .nil) (.done [(17, (.op (.ext 0) (.cons (.bv 0) .nil))), (18, (.op (.ext 1) (.cons (.bv 0) .nil)))] none))))) h5_35) Q env w := rfl
def h5_37 : HC := (.reg (.chk none (.bin .add) (.cons (.inp 14) (.cons (.cst (.int .i64 1)) .nil)) (.done [(14, (.op (.bin .add) (.cons (.inp 14) (.cons (.cst (.int .i64 1)) .nil))))] none)))
@[simp] theorem h5_37_wp {P : Program} {F : PF P} {Q : EX → List Value → World → Prop} {env : List Value} {w : World} : h5_37.wp F Q env w = HC.wp F (.reg (.chk none (.bin .add) (.cons (.inp 14) (.cons (.cst (.int .i64 1)) .nil)) (.done [(14, (.op (.bin .add) (.cons (.inp 14) (.cons (.cst (.int .i64 1)) .nil))))] none))) Q env w := rfl
def h5_38 : HC := (.reg (.eff (.app 38 38 32 2 16 (.agg #[(.int .i64 0), (.int .i64 0)])) (.cons (.inp 12) (.cons (.inp 15) .nil)) (.done [(12, (.bv 0))] none)))
@[simp] theorem h5_38_wp {P : Program} {F : PF P} {Q : EX → List Value → World → Prop} {env : List Value} {w : World} : h5_38.wp F Q env w = HC.wp F (.reg (.eff (.app 38 38 32 2 16 (.agg #[(.int .i64 0), (.int .i64 0)])) (.cons (.inp 12) (.cons (.inp 15) .nil)) (.done [(12, (.bv 0))] none))) Q env w := rfl
def h5_39 : HC := (.seq (.reg (.done [(4, (.cst (.bool false)))] none)) .ret)
@[simp] theorem h5_39_wp {P : Program} {F : PF P} {Q : EX → List Value → World → Prop} {env : List Value} {w : World} : h5_39.wp F Q env w = HC.wp F (.seq (.reg (.done [(4, (.cst (.bool false)))] none)) .ret) Q env w := rfl
def h5_40 : HC := (.seq (.br (.chk none (.cal 10) (.cons (.inp 16) .nil) (.chk none (.bin .neq) (.cons (.op (.cal 10) (.cons (.inp 16) .nil)) (.cons (.cst (.int .i64 0)) .nil)) (.done [] (some (.op (.bin .neq) (.cons (.op (.cal 10) (.cons (.inp 16) .nil)) (.cons (.cst (.int .i64 0)) .nil))))))) h5_39 .skip) h5_38)
@[simp] theorem h5_40_wp {P : Program} {F : PF P} {Q : EX → List Value → World → Prop} {env : List Value} {w : World} : h5_40.wp F Q env w = HC.wp F (.seq (.br (.chk none (.cal 10) (.cons (.inp 16) .nil) (.chk none (.bin .neq) (.cons (.op (.cal 10) (.cons (.inp 16) .nil)) (.cons (.cst (.int .i64 0)) .nil)) (.done [] (some (.op (.bin .neq) (.cons (.op (.cal 10) (.cons (.inp 16) .nil)) (.cons (.cst (.int .i64 0)) .nil))))))) h5_39 .skip) h5_38) Q env w := rfl
def h5_41 : HC := (.seq (.reg (.eff (.call 14) (.cons (.inp 5) (.cons (.inp 13) .nil)) (.chk none (.ext 0) (.cons (.bv 0) .nil) (.chk none (.ext 1) (.cons (.bv 0) .nil) (.done [(15, (.op (.ext 0) (.cons (.bv 0) .nil))), (16, (.op (.ext 1) (.cons (.bv 0) .nil)))] none))))) h5_40)
@[simp] theorem h5_41_wp {P : Program} {F : PF P} {Q : EX → List Value → World → Prop} {env : List Value} {w : World} : h5_41.wp F Q env w = HC.wp F (.seq (.reg (.eff (.call 14) (.cons (.inp 5) (.cons (.inp 13) .nil)) (.chk none (.ext 0) (.cons (.bv 0) .nil) (.chk none (.ext 1) (.cons (.bv 0) .nil) (.done [(15, (.op (.ext 0) (.cons (.bv 0) .nil))), (16, (.op (.ext 1) (.cons (.bv 0) .nil)))] none))))) h5_40) Q env w := rfl
def h5_42 : HC := (.seq (.br (.chk none (.bin .gtr) (.cons (.inp 13) (.cons (.inp 11) .nil)) (.done [] (some (.op (.bin .gtr) (.cons (.inp 13) (.cons (.inp 11) .nil)))))) (.exit 2) .skip) h5_41)
@[simp] theorem h5_42_wp {P : Program} {F : PF P} {Q : EX → List Value → World → Prop} {env : List Value} {w : World} : h5_42.wp F Q env w = HC.wp F (.seq (.br (.chk none (.bin .gtr) (.cons (.inp 13) (.cons (.inp 11) .nil)) (.done [] (some (.op (.bin .gtr) (.cons (.inp 13) (.cons (.inp 11) .nil)))))) (.exit 2) .skip) h5_41) Q env w := rfl
def h5_43 : HC := (.seq (.reg (.chk none (.idxL 1) (.cons (.inp 2) (.cons (.inp 14) .nil)) (.eff (.ld false 1) (.cons (.op (.idxL 1) (.cons (.inp 2) (.cons (.inp 14) .nil))) .nil) (.chk none (.cal 8) (.cons (.bv 0) (.cons (.cst (.int .i64 16777216)) .nil)) (.chk none (.bin .add) (.cons (.inp 13) (.cons (.op (.cal 8) (.cons (.bv 0) (.cons (.cst (.int .i64 16777216)) .nil))) .nil)) (.done [(13, (.op (.bin .add) (.cons (.inp 13) (.cons (.op (.cal 8) (.cons (.bv 0) (.cons (.cst (.int .i64 16777216)) .nil))) .nil))))] none)))))) h5_42)
@[simp] theorem h5_43_wp {P : Program} {F : PF P} {Q : EX → List Value → World → Prop} {env : List Value} {w : World} : h5_43.wp F Q env w = HC.wp F (.seq (.reg (.chk none (.idxL 1) (.cons (.inp 2) (.cons (.inp 14) .nil)) (.eff (.ld false 1) (.cons (.op (.idxL 1) (.cons (.inp 2) (.cons (.inp 14) .nil))) .nil) (.chk none (.cal 8) (.cons (.bv 0) (.cons (.cst (.int .i64 16777216)) .nil)) (.chk none (.bin .add) (.cons (.inp 13) (.cons (.op (.cal 8) (.cons (.bv 0) (.cons (.cst (.int .i64 16777216)) .nil))) .nil)) (.done [(13, (.op (.bin .add) (.cons (.inp 13) (.cons (.op (.cal 8) (.cons (.bv 0) (.cons (.cst (.int .i64 16777216)) .nil))) .nil))))] none)))))) h5_42) Q env w := rfl
def h5_44 : HC := (.seq (.block 3 h5_43) h5_37)
@[simp] theorem h5_44_wp {P : Program} {F : PF P} {Q : EX → List Value → World → Prop} {env : List Value} {w : World} : h5_44.wp F Q env w = HC.wp F (.seq (.block 3 h5_43) h5_37) Q env w := rfl
def h5_45 : HC := (.seq (.br (.chk none .lenL (.cons (.inp 2) .nil) (.chk none (.bin .lss) (.cons (.inp 14) (.cons (.op .lenL (.cons (.inp 2) .nil)) .nil)) (.done [] (some (.op (.bin .lss) (.cons (.inp 14) (.cons (.op .lenL (.cons (.inp 2) .nil)) .nil))))))) .skip (.exit 2)) h5_44)
@[simp] theorem h5_45_wp {P : Program} {F : PF P} {Q : EX → List Value → World → Prop} {env : List Value} {w : World} : h5_45.wp F Q env w = HC.wp F (.seq (.br (.chk none .lenL (.cons (.inp 2) .nil) (.chk none (.bin .lss) (.cons (.inp 14) (.cons (.op .lenL (.cons (.inp 2) .nil)) .nil)) (.done [] (some (.op (.bin .lss) (.cons (.inp 14) (.cons (.op .lenL (.cons (.inp 2) .nil)) .nil))))))) .skip (.exit 2)) h5_44) Q env w := rfl
def h5_46 : HC := (.loop h5_45)
@[simp] theorem h5_46_wp {P : Program} {F : PF P} {Q : EX → List Value → World → Prop} {env : List Value} {w : World} : h5_46.wp F Q env w = HC.wp F (.loop h5_45) Q env w := rfl
def h5_47 : HC := (.seq (.block 2 h5_46) h5_36)
@[simp] theorem h5_47_wp {P : Program} {F : PF P} {Q : EX → List Value → World → Prop} {env : List Value} {w : World} : h5_47.wp F Q env w = HC.wp F (.seq (.block 2 h5_46) h5_36) Q env w := rfl
def h5_48 : HC := (.seq (.reg (.done [(14, (.cst (.int .i64 0)))] none)) h5_47)
@[simp] theorem h5_48_wp {P : Program} {F : PF P} {Q : EX → List Value → World → Prop} {env : List Value} {w : World} : h5_48.wp F Q env w = HC.wp F (.seq (.reg (.done [(14, (.cst (.int .i64 0)))] none)) h5_47) Q env w := rfl
def h5_49 : HC := (.seq (.reg (.done [(13, (.inp 0))] none)) h5_48)
@[simp] theorem h5_49_wp {P : Program} {F : PF P} {Q : EX → List Value → World → Prop} {env : List Value} {w : World} : h5_49.wp F Q env w = HC.wp F (.seq (.reg (.done [(13, (.inp 0))] none)) h5_48) Q env w := rfl
def h5_50 : HC := (.seq (.reg (.done [(12, (.cst (.slice none 0 0)))] none)) h5_49)
@[simp] theorem h5_50_wp {P : Program} {F : PF P} {Q : EX → List Value → World → Prop} {env : List Value} {w : World} : h5_50.wp F Q env w = HC.wp F (.seq (.reg (.done [(12, (.cst (.slice none 0 0)))] none)) h5_49) Q env w := rfl
def h5_51 : HC := (.seq (.reg (.chk none (.cal 11) (.cons (.inp 3) .nil) (.chk none (.bin .add) (.cons (.inp 0) (.cons (.op (.cal 11) (.cons (.inp 3) .nil)) .nil)) (.done [(11, (.op (.bin .add) (.cons (.inp 0) (.cons (.op (.cal 11) (.cons (.inp 3) .nil)) .nil))))] none)))) h5_50)
@[simp] theorem h5_51_wp {P : Program} {F : PF P} {Q : EX → List Value → World → Prop} {env : List Value} {w : World} : h5_51.wp F Q env w = HC.wp F (.seq (.reg (.chk none (.cal 11) (.cons (.inp 3) .nil) (.chk none (.bin .add) (.cons (.inp 0) (.cons (.op (.cal 11) (.cons (.inp 3) .nil)) .nil)) (.done [(11, (.op (.bin .add) (.cons (.inp 0) (.cons (.op (.cal 11) (.cons (.inp 3) .nil)) .nil))))] none)))) h5_50) Q env w := rfl
def h5_52 : HC := (.reg (.chk none (.bin .add) (.cons (.inp 9) (.cons (.cst (.int .i64 1)) .nil)) (.done [(9, (.op (.bin .add) (.cons (.inp 9) (.cons (.cst (.int .i64 1)) .nil))))] none)))
@[simp] theorem h5_52_wp {P : Program} {F : PF P} {Q : EX → List Value → World → Prop} {env : List Value} {w : World} : h5_52.wp F Q env w = HC.wp F (.reg (.chk none (.bin .add) (.cons (.inp 9) (.cons (.cst (.int .i64 1)) .nil)) (.done [(9, (.op (.bin .add) (.cons (.inp 9) (.cons (.cst (.int .i64 1)) .nil))))] none))) Q env w := rfl
def h5_53 : HC := (.seq (.reg (.done [(4, (.cst (.bool false)))] none)) .ret)
@[simp] theorem h5_53_wp {P : Program} {F : PF P} {Q : EX → List Value → World → Prop} {env : List Value} {w : World} : h5_53.wp F Q env w = HC.wp F (.seq (.reg (.done [(4, (.cst (.bool false)))] none)) .ret) Q env w := rfl
def h5_54 : HC := (.brq (some 2) (.chk none (.idxL 3) (.cons (.inp 1) (.cons (.inp 9) .nil)) (.chk none (.fld 1) (.cons (.op (.idxL 3) (.cons (.inp 1) (.cons (.inp 9) .nil))) .nil) (.eff (.ld false 1) (.cons (.op (.fld 1) (.cons (.op (.idxL 3) (.cons (.inp 1) (.cons (.inp 9) .nil))) .nil)) .nil) (.eff (.call 12) (.cons (.inp 5) (.cons (.bv 0) (.cons (.inp 10) .nil))) (.chk none (.cal 10) (.cons (.bv 1) .nil) (.chk none (.idxL 3) (.cons (.inp 1) (.cons (.inp 9) .nil)) (.chk none (.fld 1) (.cons (.op (.idxL 3) (.cons (.inp 1) (.cons (.inp 9) .nil))) .nil) (.eff (.ld false 1) (.cons (.op (.fld 1) (.cons (.op (.idxL 3) (.cons (.inp 1) (.cons (.inp 9) .nil))) .nil)) .nil) (.eff (.call 12) (.cons (.inp 7) (.cons (.bv 2) (.cons (.inp 10) .nil))) (.chk none (.cal 10) (.cons (.bv 3) .nil) (.chk none (.bin .neq) (.cons (.op (.cal 10) (.cons (.bv 1) .nil)) (.cons (.op (.cal 10) (.cons (.bv 3) .nil)) .nil)) (.done [] (some (.op (.bin .neq) (.cons (.op (.cal 10) (.cons (.bv 1) .nil)) (.cons (.op (.cal 10) (.cons (.bv 3) .nil)) .nil)))))))))))))))) h5_53 .skip)
@[simp] theorem h5_54_wp {P : Program} {F : PF P} {Q : EX → List Value → World → Prop} {env : List Value} {w : World} : h5_54.wp F Q env w = HC.wp F (.brq (some 2) (.chk none (.idxL 3) (.cons (.inp 1) (.cons (.inp 9) .nil)) (.chk none (.fld 1) (.cons (.op (.idxL 3) (.cons (.inp 1) (.cons (.inp 9) .nil))) .nil) (.eff (.ld false 1) (.cons (.op (.fld 1) (.cons (.op (.idxL 3) (.cons (.inp 1) (.cons (.inp 9) .nil))) .nil)) .nil) (.eff (.call 12) (.cons (.inp 5) (.cons (.bv 0) (.cons (.inp 10) .nil))) (.chk none (.cal 10) (.cons (.bv 1) .nil) (.chk none (.idxL 3) (.cons (.inp 1) (.cons (.inp 9) .nil)) (.chk none (.fld 1) (.cons (.op (.idxL 3) (.cons (.inp 1) (.cons (.inp 9) .nil))) .nil) (.eff (.ld false 1) (.cons (.op (.fld 1) (.cons (.op (.idxL 3) (.cons (.inp 1) (.cons (.inp 9) .nil))) .nil)) .nil) (.eff (.call 12) (.cons (.inp 7) (.cons (.bv 2) (.cons (.inp 10) .nil))) (.chk none (.cal 10) (.cons (.bv 3) .nil) (.chk none (.bin .neq) (.cons (.op (.cal 10) (.cons (.bv 1) .nil)) (.cons (.op (.cal 10) (.cons (.bv 3) .nil)) .nil)) (.done [] (some (.op (.bin .neq) (.cons (.op (.cal 10) (.cons (.bv 1) .nil)) (.cons (.op (.cal 10) (.cons (.bv 3) .nil)) .nil)))))))))))))))) h5_53 .skip) Q env w := rfl
def h5_55 : HC := (.seq (.reg (.chk none (.idxL 3) (.cons (.inp 1) (.cons (.inp 9) .nil)) (.chk none (.fld 2) (.cons (.op (.idxL 3) (.cons (.inp 1) (.cons (.inp 9) .nil))) .nil) (.eff (.ld false 1) (.cons (.op (.fld 2) (.cons (.op (.idxL 3) (.cons (.inp 1) (.cons (.inp 9) .nil))) .nil)) .nil) (.chk none (.cal 11) (.cons (.bv 0) .nil) (.chk none (.bin .add) (.cons (.inp 0) (.cons (.op (.cal 11) (.cons (.bv 0) .nil)) .nil)) (.done [(10, (.op (.bin .add) (.cons (.inp 0) (.cons (.op (.cal 11) (.cons (.bv 0) .nil)) .nil))))] none))))))) h5_54)
@[simp] theorem h5_55_wp {P : Program} {F : PF P} {Q : EX → List Value → World → Prop} {env : List Value} {w : World} : h5_55.wp F Q env w = HC.wp F (.seq (.reg (.chk none (.idxL 3) (.cons (.inp 1) (.cons (.inp 9) .nil)) (.chk none (.fld 2) (.cons (.op (.idxL 3) (.cons (.inp 1) (.cons (.inp 9) .nil))) .nil) (.eff (.ld false 1) (.cons (.op (.fld 2) (.cons (.op (.idxL 3) (.cons (.inp 1) (.cons (.inp 9) .nil))) .nil)) .nil) (.chk none (.cal 11) (.cons (.bv 0) .nil) (.chk none (.bin .add) (.cons (.inp 0) (.cons (.op (.cal 11) (.cons (.bv 0) .nil)) .nil)) (.done [(10, (.op (.bin .add) (.cons (.inp 0) (.cons (.op (.cal 11) (.cons (.bv 0) .nil)) .nil))))] none))))))) h5_54) Q env w := rfl
def h5_56 : HC := (.seq (.block 1 h5_55) h5_52)
@[simp] theorem h5_56_wp {P : Program} {F : PF P} {Q : EX → List Value → World → Prop} {env : List Value} {w : World} : h5_56.wp F Q env w = HC.wp F (.seq (.block 1 h5_55) h5_52) Q env w := rfl
def h5_57 : HC := (.seq (.br (.chk none .lenL (.cons (.inp 1) .nil) (.chk none (.bin .lss) (.cons (.inp 9) (.cons (.op .lenL (.cons (.inp 1) .nil)) .nil)) (.done [] (some (.op (.bin .lss) (.cons (.inp 9) (.cons (.op .lenL (.cons (.inp 1) .nil)) .nil))))))) .skip (.exit 0)) h5_56)
@[simp] theorem h5_57_wp {P : Program} {F : PF P} {Q : EX → List Value → World → Prop} {env : List Value} {w : World} : h5_57.wp F Q env w = HC.wp F (.seq (.br (.chk none .lenL (.cons (.inp 1) .nil) (.chk none (.bin .lss) (.cons (.inp 9) (.cons (.op .lenL (.cons (.inp 1) .nil)) .nil)) (.done [] (some (.op (.bin .lss) (.cons (.inp 9) (.cons (.op .lenL (.cons (.inp 1) .nil)) .nil))))))) .skip (.exit 0)) h5_56) Q env w := rfl
def h5_58 : HC := (.loop h5_57)
@[simp] theorem h5_58_wp {P : Program} {F : PF P} {Q : EX → List Value → World → Prop} {env : List Value} {w : World} : h5_58.wp F Q env w = HC.wp F (.loop h5_57) Q env w := rfl
def h5_59 : HC := (.seq (.block 0 h5_58) h5_51)
@[simp] theorem h5_59_wp {P : Program} {F : PF P} {Q : EX → List Value → World → Prop} {env : List Value} {w : World} : h5_59.wp F Q env w = HC.wp F (.seq (.block 0 h5_58) h5_51) Q env w := rfl
def h5_60 : HC := (.seq (.reg (.done [(9, (.cst (.int .i64 0)))] none)) h5_59)
@[simp] theorem h5_60_wp {P : Program} {F : PF P} {Q : EX → List Value → World → Prop} {env : List Value} {w : World} : h5_60.wp F Q env w = HC.wp F (.seq (.reg (.done [(9, (.cst (.int .i64 0)))] none)) h5_59) Q env w := rfl
def h5_61 : HC := (.seq (.reg (.done [(4, (.cst (.bool false)))] none)) .ret)
@[simp] theorem h5_61_wp {P : Program} {F : PF P} {Q : EX → List Value → World → Prop} {env : List Value} {w : World} : h5_61.wp F Q env w = HC.wp F (.seq (.reg (.done [(4, (.cst (.bool false)))] none)) .ret) Q env w := rfl
def h5_62 : HC := (.seq (.br (.chk none (.cal 10) (.cons (.inp 6) .nil) (.chk none (.bin .neq) (.cons (.op (.cal 10) (.cons (.inp 6) .nil)) (.cons (.cst (.int .i64 0)) .nil)) (.bnd (.op (.bin .neq) (.cons (.op (.cal 10) (.cons (.inp 6) .nil)) (.cons (.cst (.int .i64 0)) .nil))) (.chk (some ((.bv 0), false)) (.cal 10) (.cons (.inp 8) .nil) (.chk (some ((.bv 0), false)) (.bin .neq) (.cons (.op (.cal 10) (.cons (.inp 8) .nil)) (.cons (.cst (.int .i64 0)) .nil)) (.isb none (.bv 0) (.done [] (some (.ite (.bv 0) true (.cst (.bool true)) (.op (.bin .neq) (.cons (.op (.cal 10) (.cons (.inp 8) .nil)) (.cons (.cst (.int .i64 0)) .nil)))))))))))) h5_61 .skip) h5_60)
@[simp] theorem h5_62_wp {P : Program} {F : PF P} {Q : EX → List Value → World → Prop} {env : List Value} {w : World} : h5_62.wp F Q env w = HC.wp F (.seq (.br (.chk none (.cal 10) (.cons (.inp 6) .nil) (.chk none (.bin .neq) (.cons (.op (.cal 10) (.cons (.inp 6) .nil)) (.cons (.cst (.int .i64 0)) .nil)) (.bnd (.op (.bin .neq) (.cons (.op (.cal 10) (.cons (.inp 6) .nil)) (.cons (.cst (.int .i64 0)) .nil))) (.chk (some ((.bv 0), false)) (.cal 10) (.cons (.inp 8) .nil) (.chk (some ((.bv 0), false)) (.bin .neq) (.cons (.op (.cal 10) (.cons (.inp 8) .nil)) (.cons (.cst (.int .i64 0)) .nil)) (.isb none (.bv 0) (.done [] (some (.ite (.bv 0) true (.cst (.bool true)) (.op (.bin .neq) (.cons (.op (.cal 10) (.cons (.inp 8) .nil)) (.cons (.cst (.int .i64 0)) .nil)))))))))))) h5_61 .skip) h5_60) Q env w := rfl
def h5_63 : HC := (.seq (.reg (.eff (.call 9) (.cons (.inp 0) .nil) (.chk none (.ext 0) (.cons (.bv 0) .nil) (.chk none (.ext 1) (.cons (.bv 0) .nil) (.done [(7, (.op (.ext 0) (.cons (.bv 0) .nil))), (8, (.op (.ext 1) (.cons (.bv 0) .nil)))] none))))) h5_62)
@[simp] theorem h5_63_wp {P : Program} {F : PF P} {Q : EX → List Value → World → Prop} {env : List Value} {w : World} : h5_63.wp F Q env w = HC.wp F (.seq (.reg (.eff (.call 9) (.cons (.inp 0) .nil) (.chk none (.ext 0) (.cons (.bv 0) .nil) (.chk none (.ext 1) (.cons (.bv 0) .nil) (.done [(7, (.op (.ext 0) (.cons (.bv 0) .nil))), (8, (.op (.ext 1) (.cons (.bv 0) .nil)))] none))))) h5_62) Q env w := rfl
def h5_64 : HC := (.seq (.reg (.eff (.call 9) (.cons (.inp 0) .nil) (.chk none (.ext 0) (.cons (.bv 0) .nil) (.chk none (.ext 1) (.cons (.bv 0) .nil) (.done [(5, (.op (.ext 0) (.cons (.bv 0) .nil))), (6, (.op (.ext 1) (.cons (.bv 0) .nil)))] none))))) h5_63)
@[simp] theorem h5_64_wp {P : Program} {F : PF P} {Q : EX → List Value → World → Prop} {env : List Value} {w : World} : h5_64.wp F Q env w = HC.wp F (.seq (.reg (.eff (.call 9) (.cons (.inp 0) .nil) (.chk none (.ext 0) (.cons (.bv 0) .nil) (.chk none (.ext 1) (.cons (.bv 0) .nil) (.done [(5, (.op (.ext 0) (.cons (.bv 0) .nil))), (6, (.op (.ext 1) (.cons (.bv 0) .nil)))] none))))) h5_63) Q env w := rfl
def h5_65 : HC := (.seq (.reg (.chk none (.cal 8) (.cons (.inp 0) (.cons (.cst (.int .i64 549755813888)) .nil)) (.done [(0, (.op (.cal 8) (.cons (.inp 0) (.cons (.cst (.int .i64 549755813888)) .nil))))] none))) h5_64)
@[simp] theorem h5_65_wp {P : Program} {F : PF P} {Q : EX → List Value → World → Prop} {env : List Value} {w : World} : h5_65.wp F Q env w = HC.wp F (.seq (.reg (.chk none (.cal 8) (.cons (.inp 0) (.cons (.cst (.int .i64 549755813888)) .nil)) (.done [(0, (.op (.cal 8) (.cons (.inp 0) (.cons (.cst (.int .i64 549755813888)) .nil))))] none))) h5_64) Q env w := rfl
def h5_66 : HC := (.seq (.reg (.done [(4, (.cst (.bool false)))] none)) .ret)
@[simp] theorem h5_66_wp {P : Program} {F : PF P} {Q : EX → List Value → World → Prop} {env : List Value} {w : World} : h5_66.wp F Q env w = HC.wp F (.seq (.reg (.done [(4, (.cst (.bool false)))] none)) .ret) Q env w := rfl
def h5_67 : HC := (.seq (.br (.eff (.call 7) .nil (.chk none (.un .not) (.cons (.bv 0) .nil) (.done [] (some (.op (.un .not) (.cons (.bv 0) .nil)))))) h5_66 .skip) h5_65)
@[simp] theorem h5_67_wp {P : Program} {F : PF P} {Q : EX → List Value → World → Prop} {env : List Value} {w : World} : h5_67.wp F Q env w = HC.wp F (.seq (.br (.eff (.call 7) .nil (.chk none (.un .not) (.cons (.bv 0) .nil) (.done [] (some (.op (.un .not) (.cons (.bv 0) .nil)))))) h5_66 .skip) h5_65) Q env w := rfl
def l5 : Lifted := ⟨[0, 1, 2, 3, 8, 9, 10, 11, 12, 13, 14, 15, 16, 17, 18, 19, 20, 21, 22, 23, 24, 25, 26, 27, 28, 29, 30, 31, 33, 34, 36, 37, 38, 39], 288, [.slot 4], (.seq (.reg (.done [(4, (.cst (.bool false)))] none)) h5_67)⟩
theorem l5_ok : liftFn U2 5 400 = some l5 := by kernel_rfl

-- bazaar/bazaarlaw09.ints
def h23_0 : HC := (.seq (.reg (.done [(2, (.cst (.bool true)))] none)) .ret)
@[simp] theorem h23_0_wp {P : Program} {F : PF P} {Q : EX → List Value → World → Prop} {env : List Value} {w : World} : h23_0.wp F Q env w = HC.wp F (.seq (.reg (.done [(2, (.cst (.bool true)))] none)) .ret) Q env w := rfl
def h23_1 : HC := (.reg (.chk none (.bin .add) (.cons (.inp 3) (.cons (.cst (.int .i64 1)) .nil)) (.done [(3, (.op (.bin .add) (.cons (.inp 3) (.cons (.cst (.int .i64 1)) .nil))))] none)))
@[simp] theorem h23_1_wp {P : Program} {F : PF P} {Q : EX → List Value → World → Prop} {env : List Value} {w : World} : h23_1.wp F Q env w = HC.wp F (.reg (.chk none (.bin .add) (.cons (.inp 3) (.cons (.cst (.int .i64 1)) .nil)) (.done [(3, (.op (.bin .add) (.cons (.inp 3) (.cons (.cst (.int .i64 1)) .nil))))] none))) Q env w := rfl
def h23_2 : HC := (.seq (.reg (.done [(2, (.cst (.bool false)))] none)) .ret)
@[simp] theorem h23_2_wp {P : Program} {F : PF P} {Q : EX → List Value → World → Prop} {env : List Value} {w : World} : h23_2.wp F Q env w = HC.wp F (.seq (.reg (.done [(2, (.cst (.bool false)))] none)) .ret) Q env w := rfl
def h23_3 : HC := (.brq (some 0) (.chk none (.idxL 1) (.cons (.inp 0) (.cons (.inp 3) .nil)) (.eff (.ld false 1) (.cons (.op (.idxL 1) (.cons (.inp 0) (.cons (.inp 3) .nil))) .nil) (.chk none (.idxL 1) (.cons (.inp 1) (.cons (.inp 3) .nil)) (.eff (.ld false 1) (.cons (.op (.idxL 1) (.cons (.inp 1) (.cons (.inp 3) .nil))) .nil) (.chk none (.bin .neq) (.cons (.bv 0) (.cons (.bv 1) .nil)) (.done [] (some (.op (.bin .neq) (.cons (.bv 0) (.cons (.bv 1) .nil)))))))))) h23_2 .skip)
@[simp] theorem h23_3_wp {P : Program} {F : PF P} {Q : EX → List Value → World → Prop} {env : List Value} {w : World} : h23_3.wp F Q env w = HC.wp F (.brq (some 0) (.chk none (.idxL 1) (.cons (.inp 0) (.cons (.inp 3) .nil)) (.eff (.ld false 1) (.cons (.op (.idxL 1) (.cons (.inp 0) (.cons (.inp 3) .nil))) .nil) (.chk none (.idxL 1) (.cons (.inp 1) (.cons (.inp 3) .nil)) (.eff (.ld false 1) (.cons (.op (.idxL 1) (.cons (.inp 1) (.cons (.inp 3) .nil))) .nil) (.chk none (.bin .neq) (.cons (.bv 0) (.cons (.bv 1) .nil)) (.done [] (some (.op (.bin .neq) (.cons (.bv 0) (.cons (.bv 1) .nil)))))))))) h23_2 .skip) Q env w := rfl
def h23_4 : HC := (.seq (.block 1 h23_3) h23_1)
@[simp] theorem h23_4_wp {P : Program} {F : PF P} {Q : EX → List Value → World → Prop} {env : List Value} {w : World} : h23_4.wp F Q env w = HC.wp F (.seq (.block 1 h23_3) h23_1) Q env w := rfl
def h23_5 : HC := (.seq (.br (.chk none .lenL (.cons (.inp 0) .nil) (.chk none (.bin .lss) (.cons (.inp 3) (.cons (.op .lenL (.cons (.inp 0) .nil)) .nil)) (.done [] (some (.op (.bin .lss) (.cons (.inp 3) (.cons (.op .lenL (.cons (.inp 0) .nil)) .nil))))))) .skip (.exit 0)) h23_4)
@[simp] theorem h23_5_wp {P : Program} {F : PF P} {Q : EX → List Value → World → Prop} {env : List Value} {w : World} : h23_5.wp F Q env w = HC.wp F (.seq (.br (.chk none .lenL (.cons (.inp 0) .nil) (.chk none (.bin .lss) (.cons (.inp 3) (.cons (.op .lenL (.cons (.inp 0) .nil)) .nil)) (.done [] (some (.op (.bin .lss) (.cons (.inp 3) (.cons (.op .lenL (.cons (.inp 0) .nil)) .nil))))))) .skip (.exit 0)) h23_4) Q env w := rfl
def h23_6 : HC := (.loop h23_5)
@[simp] theorem h23_6_wp {P : Program} {F : PF P} {Q : EX → List Value → World → Prop} {env : List Value} {w : World} : h23_6.wp F Q env w = HC.wp F (.loop h23_5) Q env w := rfl
def h23_7 : HC := (.seq (.block 0 h23_6) h23_0)
@[simp] theorem h23_7_wp {P : Program} {F : PF P} {Q : EX → List Value → World → Prop} {env : List Value} {w : World} : h23_7.wp F Q env w = HC.wp F (.seq (.block 0 h23_6) h23_0) Q env w := rfl
def h23_8 : HC := (.seq (.reg (.done [(3, (.cst (.int .i64 0)))] none)) h23_7)
@[simp] theorem h23_8_wp {P : Program} {F : PF P} {Q : EX → List Value → World → Prop} {env : List Value} {w : World} : h23_8.wp F Q env w = HC.wp F (.seq (.reg (.done [(3, (.cst (.int .i64 0)))] none)) h23_7) Q env w := rfl
def h23_9 : HC := (.seq (.reg (.done [(2, (.cst (.bool false)))] none)) .ret)
@[simp] theorem h23_9_wp {P : Program} {F : PF P} {Q : EX → List Value → World → Prop} {env : List Value} {w : World} : h23_9.wp F Q env w = HC.wp F (.seq (.reg (.done [(2, (.cst (.bool false)))] none)) .ret) Q env w := rfl
def h23_10 : HC := (.seq (.br (.chk none .lenL (.cons (.inp 0) .nil) (.chk none .lenL (.cons (.inp 1) .nil) (.chk none (.bin .neq) (.cons (.op .lenL (.cons (.inp 0) .nil)) (.cons (.op .lenL (.cons (.inp 1) .nil)) .nil)) (.done [] (some (.op (.bin .neq) (.cons (.op .lenL (.cons (.inp 0) .nil)) (.cons (.op .lenL (.cons (.inp 1) .nil)) .nil)))))))) h23_9 .skip) h23_8)
@[simp] theorem h23_10_wp {P : Program} {F : PF P} {Q : EX → List Value → World → Prop} {env : List Value} {w : World} : h23_10.wp F Q env w = HC.wp F (.seq (.br (.chk none .lenL (.cons (.inp 0) .nil) (.chk none .lenL (.cons (.inp 1) .nil) (.chk none (.bin .neq) (.cons (.op .lenL (.cons (.inp 0) .nil)) (.cons (.op .lenL (.cons (.inp 1) .nil)) .nil)) (.done [] (some (.op (.bin .neq) (.cons (.op .lenL (.cons (.inp 0) .nil)) (.cons (.op .lenL (.cons (.inp 1) .nil)) .nil)))))))) h23_9 .skip) h23_8) Q env w := rfl
def l23 : Lifted := ⟨[0, 1, 4, 5], 26, [.slot 2], (.seq (.reg (.done [(2, (.cst (.bool false)))] none)) h23_10)⟩
theorem l23_ok : liftFn U2 23 400 = some l23 := by kernel_rfl


theorem ints_at {l : List Int} {i : Nat} (h : i < l.length) : (l.map (Value.int .i64))[i]? = some (.int .i64 l[i]) := by simp [h]
theorem ints_spec (x y : List Int) (v1 v2 : Value) (w0 w : World) (A : Asn) (hx : x.length ≤ 1048576) (h1 : Row w0 A v1 x.length 1 (x.map (Value.int .i64))) (h2 : Row w0 A v2 y.length 1 (y.map (Value.int .i64))) (s : St w0 A w) :
    CallW Try.prog 23 [v1, v2] (fun r w' => r = .bool (x == y) ∧ St w0 A w') w := by
  obtain ⟨a1, c1, rfl⟩ := h1.val
  obtain ⟨a2, c2, rfl⟩ := h2.val
  refine callW_of_lift l23_ok (by simp [l23]) ?_
  simp [l23]
  refine cndI (fun h => ?_) (fun h => ?_)
  · simp at h
    have : (x == y) = false := by
      simp only [beq_eq_false_iff_ne]
      rintro rfl
      exact h rfl
    simp [this]
    exact s
  simp at h
  simp
  refine loopI (fun env w' => ∃ (i : Nat), env = [.slice a1 x.length c1, .slice a2 y.length c2, .bool false, .int .i64 i] ∧ i ≤ x.length ∧ x.take i = y.take i ∧ St w0 A w')
    (fun env _ => x.length - slotN env 3) ⟨0, rfl, by omega, rfl, s⟩ ?_
  rintro LQ env w' ⟨i, rfl, hi, ht, s'⟩ hN hE hR
  simp
  refine cndI (fun h3 => ?_) (fun h3 => ?_)
  · simp at h3
    obtain ⟨g1, o1, c1', e1, k1⟩ := h1.at (by omega)
    cases e1
    obtain ⟨g2, o2, c2', e2, k2⟩ := h2.at (by omega)
    cases e2
    have hy : i < y.length := by omega
    refine brqI s' ?_
    simp [h3]
    refine effq_ldc (fun w s => k1 w s i _ (ints_at h3)) ?_
    simp [hy]
    refine effq_ldc (fun w s => k2 w s i _ (ints_at hy)) ?_
    simp
    intro w2 s2
    refine cndI (fun h4 => ?_) (fun h4 => ?_)
    · simp at h4
      have : (x == y) = false := by
        simp only [beq_eq_false_iff_ne]
        rintro rfl
        exact h4 rfl
      simp
      refine hR _ _ ?_
      simp [this]
      exact s2
    · simp at h4
      simp [thenQ]
      try simp (disch := omega) only [wrap64]
      refine hN _ _ ⟨i + 1, by simp, by omega, ?_, s2⟩ (by simp [slotN]; omega)
      rw [List.take_succ_eq_append_getElem h3, List.take_succ_eq_append_getElem hy, ht, h4]
  · simp at h3
    simp
    refine hE _ _ _ ?_
    simp
    have e : i = x.length := by omega
    have e2 : i = y.length := by omega
    rw [e, List.take_length, ← e, e2, List.take_length] at ht
    subst ht
    simp
    exact s'
theorem row_ints {A B : Asn} {v : Value} {l : List Int} {w0 w : World} (s : St w0 A w) (h : A = B * intsA v l) : Row w0 A v l.length 1 (l.map (Value.int .i64)) := row_in s h
theorem row_outs {A B : Asn} {v : Value} {l : List (Int × Int)} {w0 w : World} (s : St w0 A w) (h : A = B * outs v l) : Row w0 A v l.length 2 (l.flatMap encT) := row_in s h
abbrev QS (w0 : World) (A : Asn) : EX → List Value → World → Prop := endQ Try.prog [.slot 4] fun r w' => r = .bool true ∧ St w0 A w'
theorem ldF_len (now : Nat) (L : List (Int × Int)) (level : Int) : (ldF now L level).length ≤ 64 := by
  unfold ldF
  split
  · simp
  · split
    · simp
    · simp
structure StE (to : Nat) (ts us cs : List Tm) : Prop where
  a : plOK to ts
  b : plOK to us
  c : plOK to cs
  la : ts.length ≤ 65536
  ab : ts.map tmr = us.map tmr
  ac : (ts.map tmr).Perm (cs.map tmr)
theorem StE.lb {to : Nat} {ts us cs : List Tm} (h : StE to ts us cs) : us.length = ts.length := by
  have := congrArg List.length h.ab
  simpa using this.symm
theorem StE.lc {to : Nat} {ts us cs : List Tm} (h : StE to ts us cs) : cs.length = ts.length := by
  have := h.ac.length_eq
  simpa using this.symm
set_option maxHeartbeats 1000000 in
theorem loads_part (p q c to m1 m2 m3 ln lc : Nat) (la : Option Addr) (ts us cs : List Tm) (w0 w : World) (A : Asn) (x0 x1 x2 x3 x6 x8 x9 x10 x11 x12 x13 x14 x15 x16 x17 x18 x19 x20 x21 x23 x25 x26 x27 x28 x29 x30 x31 x32 x33 x4 : Value)
    (hI : StE to ts us cs) (hl : ln = us.length)
    (s : St w0 (A * whl p to m1 ts * whl q to m2 us * whl c to m3 cs) w) :
    h5_8.wp U2 (QS w0 A) [x0, x1, x2, x3, x4, .pointer (some ⟨p, 0, none⟩), x6, .pointer (some ⟨q, 0, none⟩), x8, x9, x10, x11, x12, x13, x14, x15, x16, x17, x18, x19, x20, x21, .pointer (some ⟨c, 0, none⟩), x23, .slice la ln lc, x25, x26, x27, x28, x29, x30, x31, x32, x33] w := by
  have hla := hI.la
  have hlb := hI.lb
  have hlc := hI.lc
  simp
  refine loopI (fun env w' => ∃ (i : Nat), env = [x0, x1, x2, x3, x4, .pointer (some ⟨p, 0, none⟩), x6, .pointer (some ⟨q, 0, none⟩), x8, x9, x10, x11, x12, x13, x14, x15, x16, x17, x18, x19, x20, x21, .pointer (some ⟨c, 0, none⟩), x23, .slice la ln lc, x25, x26, x27, x28, x29, x30, x31, x32, .int .i64 i] ∧ i ≤ 5 ∧ St w0 (A * whl p to m1 ts * whl q to m2 us * whl c to m3 cs) w')
    (fun env _ => 5 - slotN env 33) ⟨0, rfl, by omega, s⟩ ?_
  rintro LQ env w' ⟨i, rfl, hi, s'⟩ hN hE hR
  simp
  refine cndI (fun h => ?_) (fun h => ?_)
  · have hi' : i < 5 := by
      simp at h
      omega
    have l64 := ldF_len to (ts.map tmr) i
    simp
    refine eff_call (Load_spec p to m1 ts i w0 w' (A * whl q to m2 us * whl c to m3 cs) hI.a hla (s'.to (by ac_rfl)) fun v1 w1 s1 => ?_)
    simp
    refine eff_call (Load_spec q to m2 us i w0 w1 (A * whl p to m1 ts * whl c to m3 cs * intsA v1 (ldF to (ts.map tmr) i)) hI.b (by omega) (s1.to (by ac_rfl)) fun v2 w2 s2 => ?_)
    rw [← hI.ab] at s2
    simp
    refine eff_call ((ints_spec (ldF to (ts.map tmr) i) (ldF to (ts.map tmr) i) v1 v2 w0 w2 _ (by omega) (row_ints s2 (B := A * whl p to m1 ts * whl c to m3 cs * whl q to m2 us * intsA v2 (ldF to (ts.map tmr) i)) (by ac_rfl)) (row_own s2) s2).mono ?_)
    rintro r w3 ⟨rfl, s3⟩
    simp
    have s3 : St w0 (A * whl p to m1 ts * whl q to m2 us * whl c to m3 cs) w3 := St.cut (intsA v1 (ldF to (ts.map tmr) i) * intsA v2 (ldF to (ts.map tmr) i)) s3 (by ac_rfl)
    refine eff_call (Load_spec p to m1 ts i w0 w3 (A * whl q to m2 us * whl c to m3 cs) hI.a hla (s3.to (by ac_rfl)) fun v1 w4 s4 => ?_)
    simp
    refine eff_call (Load_spec c to m3 cs i w0 w4 (A * whl p to m1 ts * whl q to m2 us * intsA v1 (ldF to (ts.map tmr) i)) hI.c (by omega) (s4.to (by ac_rfl)) fun v2 w5 s5 => ?_)
    rw [← ldF_perm to hI.ac] at s5
    simp
    refine eff_call ((ints_spec (ldF to (ts.map tmr) i) (ldF to (ts.map tmr) i) v1 v2 w0 w5 _ (by omega) (row_ints s5 (B := A * whl p to m1 ts * whl q to m2 us * whl c to m3 cs * intsA v2 (ldF to (ts.map tmr) i)) (by ac_rfl)) (row_own s5) s5).mono ?_)
    rintro r w6 ⟨rfl, s6⟩
    simp
    have s6 : St w0 (A * whl p to m1 ts * whl q to m2 us * whl c to m3 cs) w6 := St.cut (intsA v1 (ldF to (ts.map tmr) i) * intsA v2 (ldF to (ts.map tmr) i)) s6 (by ac_rfl)
    try simp (disch := omega) only [wrap64]
    exact hN _ _ ⟨i + 1, by simp, by omega, s6⟩ (by simp [slotN]; omega)
  · simp
    refine hE _ _ _ ?_
    simp
    refine eff_call ((Len_spec p to m1 ts w0 w' (A * whl q to m2 us * whl c to m3 cs) (s'.to (by ac_rfl))).mono ?_)
    rintro r w1 ⟨rfl, s1⟩
    rw [hl, hlb]
    simp
    refine eff_call ((Len_spec c to m3 cs w0 w1 (A * whl q to m2 us * whl p to m1 ts) (s1.to (by ac_rfl))).mono ?_)
    rintro r w2 ⟨rfl, s2⟩
    rw [hlc]
    simp
    exact St.cut (whl q to m2 us * whl p to m1 ts * whl c to m3 cs) s2 (by ac_rfl)
set_option maxHeartbeats 1000000 in
theorem places_part (p q c to m1 m2 m3 : Nat) (v : Value) (ts us cs : List Tm) (w0 w : World) (A : Asn) (x0 x1 x2 x3 x6 x8 x9 x10 x11 x12 x13 x14 x15 x16 x17 x18 x19 x20 x21 x23 x25 x26 x27 x28 x29 x30 x31 x32 x33 x4 : Value)
    (hI : StE to ts us cs)
    (s : St w0 (A * whl p to m1 ts * whl q to m2 us * whl c to m3 cs * outs v (sortT (us.map tmr))) w) :
    h5_19.wp U2 (QS w0 A) [x0, x1, x2, x3, x4, .pointer (some ⟨p, 0, none⟩), x6, .pointer (some ⟨q, 0, none⟩), x8, x9, x10, x11, x12, x13, x14, x15, x16, x17, x18, x19, x20, x21, .pointer (some ⟨c, 0, none⟩), x23, v, x25, x26, x27, x28, x29, x30, x31, x32, x33] w := by
  have hla := hI.la
  have hlb := hI.lb
  have hlc := hI.lc
  obtain ⟨L, hL⟩ : ∃ L, sortT (us.map tmr) = L := ⟨_, rfl⟩
  have hLl : L.length = us.length := by rw [← hL, sortT_len, List.length_map]
  have hLm : ∀ x ∈ L, x ∈ us.map tmr := fun x hx => (sortT_perm _).mem_iff.1 (hL ▸ hx)
  rw [hL] at s
  obtain ⟨B, hB⟩ : ∃ B, A * whl p to m1 ts * whl q to m2 us * whl c to m3 cs = B := ⟨_, rfl⟩
  have hrow := row_own s
  obtain ⟨la, lc, rfl⟩ := hrow.val
  simp
  refine loopI (fun env w' => ∃ (i : Nat) (x26 x27 x28 x29 x30 x31 x32 : Value), env = [x0, x1, x2, x3, x4, .pointer (some ⟨p, 0, none⟩), x6, .pointer (some ⟨q, 0, none⟩), x8, x9, x10, x11, x12, x13, x14, x15, x16, x17, x18, x19, x20, x21, .pointer (some ⟨c, 0, none⟩), x23, .slice la L.length lc, .int .i64 i, x26, x27, x28, x29, x30, x31, x32, x33] ∧ i ≤ L.length ∧ St w0 (A * whl p to m1 ts * whl q to m2 us * whl c to m3 cs * outs (.slice la L.length lc) L) w')
    (fun env _ => L.length - slotN env 25) ⟨0, _, _, _, _, _, _, _, rfl, by omega, s⟩ ?_
  rintro LQ env w' ⟨i, x26, x27, x28, x29, x30, x31, x32, rfl, hi, s'⟩ hN hE hR
  simp
  refine cndI (fun h => ?_) (fun h => ?_)
  · have hi' : i < L.length := by
      simp at h
      omega
    obtain ⟨g, o, cap', hv, hc⟩ := hrow.at (by omega)
    cases hv
    have hnum : ∀ w, St w0 (A * whl p to m1 ts * whl q to m2 us * whl c to m3 cs * outs (.slice (some ⟨g, o, none⟩) L.length lc) L) w → w.cell? ⟨g, o + i * 2, none⟩ = some (.int .i64 L[i].1) := fun w sw => by
      refine hc w sw _ _ ?_
      have := flatT_at hi' 0 (.int .i64 L[i].1) rfl
      simpa using this
    have hb := hLm _ (List.getElem_mem hi')
    obtain ⟨f1, f2, _⟩ := fnd_at hI.b hb
    obtain ⟨g1, g2, _⟩ := fnd_at hI.a (hI.ab ▸ hb)
    obtain ⟨k1, k2, _⟩ := fnd_at hI.c (hI.ac.mem_iff.1 (hI.ab ▸ hb))
    simp [hi']
    refine eff_ldc (hnum _ s') ?_
    simp
    refine eff_call ((Place_spec p to m1 ts L[i].1 w0 w' (A * whl q to m2 us * whl c to m3 cs * outs (.slice (some ⟨g, o, none⟩) L.length lc) L) (s'.to (by ac_rfl))).mono ?_)
    rintro r w1 ⟨rfl, s1⟩
    have s1 := s1.to (B := A * whl p to m1 ts * whl q to m2 us * whl c to m3 cs * outs (.slice (some ⟨g, o, none⟩) L.length lc) L) (by ac_rfl)
    simp [hi']
    refine eff_ldc (hnum _ s1) ?_
    simp
    refine eff_call ((Place_spec q to m2 us L[i].1 w0 w1 (A * whl p to m1 ts * whl c to m3 cs * outs (.slice (some ⟨g, o, none⟩) L.length lc) L) (s1.to (by ac_rfl))).mono ?_)
    rintro r w2 ⟨rfl, s2⟩
    have s2 := s2.to (B := A * whl p to m1 ts * whl q to m2 us * whl c to m3 cs * outs (.slice (some ⟨g, o, none⟩) L.length lc) L) (by ac_rfl)
    simp [hi']
    refine eff_ldc (hnum _ s2) ?_
    simp
    refine eff_call ((Place_spec c to m3 cs L[i].1 w0 w2 (A * whl p to m1 ts * whl q to m2 us * outs (.slice (some ⟨g, o, none⟩) L.length lc) L) (s2.to (by ac_rfl))).mono ?_)
    rintro r w3 ⟨rfl, s3⟩
    have s3 := s3.to (B := A * whl p to m1 ts * whl q to m2 us * whl c to m3 cs * outs (.slice (some ⟨g, o, none⟩) L.length lc) L) (by ac_rfl)
    simp only [f1, g1, k1, f2, g2, k2]
    simp
    try simp (disch := omega) only [wrap64]
    exact hN _ _ ⟨i + 1, _, _, _, _, _, _, _, by simp; exact ⟨rfl, rfl, rfl, rfl, rfl, rfl, rfl⟩, by omega, s3⟩ (by simp [slotN]; omega)
  · simp
    refine hE _ _ _ ?_
    simp
    have key := loads_part p q c to m1 m2 m3 L.length lc la ts us cs w0 w' A x0 x1 x2 x3 x6 x8 x9 x10 x11 x12 x13 x14 x15 x16 x17 x18 x19 x20 x21 x23 (.int .i64 i) x26 x27 x28 x29 x30 x31 x32 (.int .i64 0) x4 hI hLl s'.drop
    simpa using key
end Go.HL.Wh
