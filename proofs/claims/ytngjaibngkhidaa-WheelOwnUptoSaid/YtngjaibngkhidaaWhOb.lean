/-
  Wheel: memory of its own: the ends. No condition.
-/
import Derived.Test.YtngjaibngkhidaaWhOa
import Derived.Test.YtngjaibngkhidaaWhZ
namespace Go.HL.Wh
open Go.HL Go.Proofs
set_option maxRecDepth 4000
set_option linter.unusedSimpArgs false
set_option linter.unusedVariables false
-- bazaar/bazaarlaw09.WheelOwn
def h4_0 : HC := (.seq (.regq (some 6) (.eff (.call 20) (.cons (.inp 6) .nil) (.chk none (.idxL 1) (.cons (.inp 16) (.cons (.cst (.int .i64 2)) .nil)) (.eff (.ld false 1) (.cons (.op (.idxL 1) (.cons (.inp 16) (.cons (.cst (.int .i64 2)) .nil))) .nil) (.eff (.call 22) (.cons (.bv 0) (.cons (.bv 1) .nil)) (.ite (.bv 2) true (.eff (.call 20) (.cons (.ite (.bv 2) true (.inp 10) (.cst (.tuple #[]))) .nil) (.chk none (.idxL 1) (.cons (.inp 16) (.cons (.cst (.int .i64 5)) .nil)) (.eff (.ld false 1) (.cons (.op (.idxL 1) (.cons (.inp 16) (.cons (.cst (.int .i64 5)) .nil))) .nil) (.eff (.call 22) (.cons (.bv 3) (.cons (.bv 4) .nil)) (.isb none (.bv 2) (.ite (.bv 5) true (.eff (.call 21) (.cons (.ite (.bv 5) true (.inp 6) (.cst (.tuple #[]))) (.cons (.cst (.int .i64 0)) .nil)) (.chk none (.idxL 1) (.cons (.inp 17) (.cons (.cst (.int .i64 0)) .nil)) (.eff (.ld false 1) (.cons (.op (.idxL 1) (.cons (.inp 17) (.cons (.cst (.int .i64 0)) .nil))) .nil) (.eff (.call 23) (.cons (.bv 6) (.cons (.bv 7) .nil)) (.isb none (.bv 5) (.done [(3, (.bv 8))] none)))))) (.isb none (.bv 5) (.done [(3, (.cst (.bool false)))] none)))))))) (.isb none (.bv 2) (.isb none (.cst (.bool false)) (.done [(3, (.cst (.bool false)))] none))))))))) .ret)
@[simp] theorem h4_0_wp {P : Program} {F : PF P} {Q : EX → List Value → World → Prop} {env : List Value} {w : World} : h4_0.wp F Q env w = HC.wp F (.seq (.regq (some 6) (.eff (.call 20) (.cons (.inp 6) .nil) (.chk none (.idxL 1) (.cons (.inp 16) (.cons (.cst (.int .i64 2)) .nil)) (.eff (.ld false 1) (.cons (.op (.idxL 1) (.cons (.inp 16) (.cons (.cst (.int .i64 2)) .nil))) .nil) (.eff (.call 22) (.cons (.bv 0) (.cons (.bv 1) .nil)) (.ite (.bv 2) true (.eff (.call 20) (.cons (.ite (.bv 2) true (.inp 10) (.cst (.tuple #[]))) .nil) (.chk none (.idxL 1) (.cons (.inp 16) (.cons (.cst (.int .i64 5)) .nil)) (.eff (.ld false 1) (.cons (.op (.idxL 1) (.cons (.inp 16) (.cons (.cst (.int .i64 5)) .nil))) .nil) (.eff (.call 22) (.cons (.bv 3) (.cons (.bv 4) .nil)) (.isb none (.bv 2) (.ite (.bv 5) true (.eff (.call 21) (.cons (.ite (.bv 5) true (.inp 6) (.cst (.tuple #[]))) (.cons (.cst (.int .i64 0)) .nil)) (.chk none (.idxL 1) (.cons (.inp 17) (.cons (.cst (.int .i64 0)) .nil)) (.eff (.ld false 1) (.cons (.op (.idxL 1) (.cons (.inp 17) (.cons (.cst (.int .i64 0)) .nil))) .nil) (.eff (.call 23) (.cons (.bv 6) (.cons (.bv 7) .nil)) (.isb none (.bv 5) (.done [(3, (.bv 8))] none)))))) (.isb none (.bv 5) (.done [(3, (.cst (.bool false)))] none)))))))) (.isb none (.bv 2) (.isb none (.cst (.bool false)) (.done [(3, (.cst (.bool false)))] none))))))))) .ret) Q env w := rfl
def h4_1 : HC := (.seq (.reg (.done [(3, (.cst (.bool false)))] none)) .ret)
@[simp] theorem h4_1_wp {P : Program} {F : PF P} {Q : EX → List Value → World → Prop} {env : List Value} {w : World} : h4_1.wp F Q env w = HC.wp F (.seq (.reg (.done [(3, (.cst (.bool false)))] none)) .ret) Q env w := rfl
def h4_2 : HC := (.seq (.brq (some 3) (.chk none (.idxL 1) (.cons (.inp 16) (.cons (.cst (.int .i64 0)) .nil)) (.eff (.ld false 1) (.cons (.op (.idxL 1) (.cons (.inp 16) (.cons (.cst (.int .i64 0)) .nil))) .nil) (.chk none (.idxL 1) (.cons (.inp 16) (.cons (.cst (.int .i64 1)) .nil)) (.eff (.ld false 1) (.cons (.op (.idxL 1) (.cons (.inp 16) (.cons (.cst (.int .i64 1)) .nil))) .nil) (.eff (.call 22) (.cons (.bv 0) (.cons (.bv 1) .nil)) (.chk none (.un .not) (.cons (.bv 2) .nil) (.bnd (.op (.un .not) (.cons (.bv 2) .nil)) (.chk (some ((.bv 3), false)) (.idxL 1) (.cons (.inp 16) (.cons (.cst (.int .i64 2)) .nil)) (.ite (.bv 3) false (.eff (.ld false 1) (.cons (.ite (.bv 3) false (.op (.idxL 1) (.cons (.inp 16) (.cons (.cst (.int .i64 2)) .nil))) (.cst (.tuple #[]))) .nil) (.chk none (.idxL 1) (.cons (.inp 16) (.cons (.cst (.int .i64 4)) .nil)) (.eff (.ld false 1) (.cons (.op (.idxL 1) (.cons (.inp 16) (.cons (.cst (.int .i64 4)) .nil))) .nil) (.eff (.call 22) (.cons (.bv 4) (.cons (.bv 5) .nil)) (.chk none (.un .not) (.cons (.bv 6) .nil) (.isb none (.bv 3) (.bnd (.op (.un .not) (.cons (.bv 6) .nil)) (.ite (.bv 7) false (.eff (.call 24) (.cons (.ite (.bv 7) false (.inp 14) (.cst (.tuple #[]))) (.cons (.ite (.bv 7) false (.inp 15) (.cst (.tuple #[]))) .nil)) (.chk none (.un .not) (.cons (.bv 8) .nil) (.isb none (.bv 7) (.done [] (some (.op (.un .not) (.cons (.bv 8) .nil))))))) (.isb none (.bv 7) (.done [] (some (.cst (.bool true))))))))))))) (.isb none (.bv 3) (.isb none (.cst (.bool true)) (.done [] (some (.cst (.bool true))))))))))))))) h4_1 .skip) h4_0)
@[simp] theorem h4_2_wp {P : Program} {F : PF P} {Q : EX → List Value → World → Prop} {env : List Value} {w : World} : h4_2.wp F Q env w = HC.wp F (.seq (.brq (some 3) (.chk none (.idxL 1) (.cons (.inp 16) (.cons (.cst (.int .i64 0)) .nil)) (.eff (.ld false 1) (.cons (.op (.idxL 1) (.cons (.inp 16) (.cons (.cst (.int .i64 0)) .nil))) .nil) (.chk none (.idxL 1) (.cons (.inp 16) (.cons (.cst (.int .i64 1)) .nil)) (.eff (.ld false 1) (.cons (.op (.idxL 1) (.cons (.inp 16) (.cons (.cst (.int .i64 1)) .nil))) .nil) (.eff (.call 22) (.cons (.bv 0) (.cons (.bv 1) .nil)) (.chk none (.un .not) (.cons (.bv 2) .nil) (.bnd (.op (.un .not) (.cons (.bv 2) .nil)) (.chk (some ((.bv 3), false)) (.idxL 1) (.cons (.inp 16) (.cons (.cst (.int .i64 2)) .nil)) (.ite (.bv 3) false (.eff (.ld false 1) (.cons (.ite (.bv 3) false (.op (.idxL 1) (.cons (.inp 16) (.cons (.cst (.int .i64 2)) .nil))) (.cst (.tuple #[]))) .nil) (.chk none (.idxL 1) (.cons (.inp 16) (.cons (.cst (.int .i64 4)) .nil)) (.eff (.ld false 1) (.cons (.op (.idxL 1) (.cons (.inp 16) (.cons (.cst (.int .i64 4)) .nil))) .nil) (.eff (.call 22) (.cons (.bv 4) (.cons (.bv 5) .nil)) (.chk none (.un .not) (.cons (.bv 6) .nil) (.isb none (.bv 3) (.bnd (.op (.un .not) (.cons (.bv 6) .nil)) (.ite (.bv 7) false (.eff (.call 24) (.cons (.ite (.bv 7) false (.inp 14) (.cst (.tuple #[]))) (.cons (.ite (.bv 7) false (.inp 15) (.cst (.tuple #[]))) .nil)) (.chk none (.un .not) (.cons (.bv 8) .nil) (.isb none (.bv 7) (.done [] (some (.op (.un .not) (.cons (.bv 8) .nil))))))) (.isb none (.bv 7) (.done [] (some (.cst (.bool true))))))))))))) (.isb none (.bv 3) (.isb none (.cst (.bool true)) (.done [] (some (.cst (.bool true))))))))))))))) h4_1 .skip) h4_0) Q env w := rfl
def h4_3 : HC := (.reg (.chk none (.bin .add) (.cons (.inp 21) (.cons (.cst (.int .i64 1)) .nil)) (.done [(21, (.op (.bin .add) (.cons (.inp 21) (.cons (.cst (.int .i64 1)) .nil))))] none)))
@[simp] theorem h4_3_wp {P : Program} {F : PF P} {Q : EX → List Value → World → Prop} {env : List Value} {w : World} : h4_3.wp F Q env w = HC.wp F (.reg (.chk none (.bin .add) (.cons (.inp 21) (.cons (.cst (.int .i64 1)) .nil)) (.done [(21, (.op (.bin .add) (.cons (.inp 21) (.cons (.cst (.int .i64 1)) .nil))))] none))) Q env w := rfl
def h4_4 : HC := (.seq (.reg (.done [(3, (.cst (.bool false)))] none)) .ret)
@[simp] theorem h4_4_wp {P : Program} {F : PF P} {Q : EX → List Value → World → Prop} {env : List Value} {w : World} : h4_4.wp F Q env w = HC.wp F (.seq (.reg (.done [(3, (.cst (.bool false)))] none)) .ret) Q env w := rfl
def h4_5 : HC := (.brq (some 1) (.chk none (.idxL 1) (.cons (.inp 15) (.cons (.inp 21) .nil)) (.eff (.ld false 1) (.cons (.op (.idxL 1) (.cons (.inp 15) (.cons (.inp 21) .nil))) .nil) (.chk none (.idxL 1) (.cons (.inp 17) (.cons (.inp 21) .nil)) (.eff (.ld false 1) (.cons (.op (.idxL 1) (.cons (.inp 17) (.cons (.inp 21) .nil))) .nil) (.eff (.call 23) (.cons (.bv 0) (.cons (.bv 1) .nil)) (.chk none (.un .not) (.cons (.bv 2) .nil) (.done [] (some (.op (.un .not) (.cons (.bv 2) .nil)))))))))) h4_4 .skip)
@[simp] theorem h4_5_wp {P : Program} {F : PF P} {Q : EX → List Value → World → Prop} {env : List Value} {w : World} : h4_5.wp F Q env w = HC.wp F (.brq (some 1) (.chk none (.idxL 1) (.cons (.inp 15) (.cons (.inp 21) .nil)) (.eff (.ld false 1) (.cons (.op (.idxL 1) (.cons (.inp 15) (.cons (.inp 21) .nil))) .nil) (.chk none (.idxL 1) (.cons (.inp 17) (.cons (.inp 21) .nil)) (.eff (.ld false 1) (.cons (.op (.idxL 1) (.cons (.inp 17) (.cons (.inp 21) .nil))) .nil) (.eff (.call 23) (.cons (.bv 0) (.cons (.bv 1) .nil)) (.chk none (.un .not) (.cons (.bv 2) .nil) (.done [] (some (.op (.un .not) (.cons (.bv 2) .nil)))))))))) h4_4 .skip) Q env w := rfl
def h4_6 : HC := (.seq (.block 9 h4_5) h4_3)
@[simp] theorem h4_6_wp {P : Program} {F : PF P} {Q : EX → List Value → World → Prop} {env : List Value} {w : World} : h4_6.wp F Q env w = HC.wp F (.seq (.block 9 h4_5) h4_3) Q env w := rfl
def h4_7 : HC := (.seq (.br (.chk none .lenL (.cons (.inp 15) .nil) (.chk none (.bin .lss) (.cons (.inp 21) (.cons (.op .lenL (.cons (.inp 15) .nil)) .nil)) (.done [] (some (.op (.bin .lss) (.cons (.inp 21) (.cons (.op .lenL (.cons (.inp 15) .nil)) .nil))))))) .skip (.exit 8)) h4_6)
@[simp] theorem h4_7_wp {P : Program} {F : PF P} {Q : EX → List Value → World → Prop} {env : List Value} {w : World} : h4_7.wp F Q env w = HC.wp F (.seq (.br (.chk none .lenL (.cons (.inp 15) .nil) (.chk none (.bin .lss) (.cons (.inp 21) (.cons (.op .lenL (.cons (.inp 15) .nil)) .nil)) (.done [] (some (.op (.bin .lss) (.cons (.inp 21) (.cons (.op .lenL (.cons (.inp 15) .nil)) .nil))))))) .skip (.exit 8)) h4_6) Q env w := rfl
def h4_8 : HC := (.loop h4_7)
@[simp] theorem h4_8_wp {P : Program} {F : PF P} {Q : EX → List Value → World → Prop} {env : List Value} {w : World} : h4_8.wp F Q env w = HC.wp F (.loop h4_7) Q env w := rfl
def h4_9 : HC := (.seq (.block 8 h4_8) h4_2)
@[simp] theorem h4_9_wp {P : Program} {F : PF P} {Q : EX → List Value → World → Prop} {env : List Value} {w : World} : h4_9.wp F Q env w = HC.wp F (.seq (.block 8 h4_8) h4_2) Q env w := rfl
def h4_10 : HC := (.seq (.reg (.done [(21, (.cst (.int .i64 0)))] none)) h4_9)
@[simp] theorem h4_10_wp {P : Program} {F : PF P} {Q : EX → List Value → World → Prop} {env : List Value} {w : World} : h4_10.wp F Q env w = HC.wp F (.seq (.reg (.done [(21, (.cst (.int .i64 0)))] none)) h4_9) Q env w := rfl
def h4_11 : HC := (.reg (.chk none (.bin .add) (.cons (.inp 20) (.cons (.cst (.int .i64 1)) .nil)) (.done [(20, (.op (.bin .add) (.cons (.inp 20) (.cons (.cst (.int .i64 1)) .nil))))] none)))
@[simp] theorem h4_11_wp {P : Program} {F : PF P} {Q : EX → List Value → World → Prop} {env : List Value} {w : World} : h4_11.wp F Q env w = HC.wp F (.reg (.chk none (.bin .add) (.cons (.inp 20) (.cons (.cst (.int .i64 1)) .nil)) (.done [(20, (.op (.bin .add) (.cons (.inp 20) (.cons (.cst (.int .i64 1)) .nil))))] none))) Q env w := rfl
def h4_12 : HC := (.seq (.reg (.done [(3, (.cst (.bool false)))] none)) .ret)
@[simp] theorem h4_12_wp {P : Program} {F : PF P} {Q : EX → List Value → World → Prop} {env : List Value} {w : World} : h4_12.wp F Q env w = HC.wp F (.seq (.reg (.done [(3, (.cst (.bool false)))] none)) .ret) Q env w := rfl
def h4_13 : HC := (.brq (some 1) (.chk none (.idxL 1) (.cons (.inp 14) (.cons (.inp 20) .nil)) (.eff (.ld false 1) (.cons (.op (.idxL 1) (.cons (.inp 14) (.cons (.inp 20) .nil))) .nil) (.chk none (.idxL 1) (.cons (.inp 16) (.cons (.inp 20) .nil)) (.eff (.ld false 1) (.cons (.op (.idxL 1) (.cons (.inp 16) (.cons (.inp 20) .nil))) .nil) (.eff (.call 22) (.cons (.bv 0) (.cons (.bv 1) .nil)) (.chk none (.un .not) (.cons (.bv 2) .nil) (.done [] (some (.op (.un .not) (.cons (.bv 2) .nil)))))))))) h4_12 .skip)
@[simp] theorem h4_13_wp {P : Program} {F : PF P} {Q : EX → List Value → World → Prop} {env : List Value} {w : World} : h4_13.wp F Q env w = HC.wp F (.brq (some 1) (.chk none (.idxL 1) (.cons (.inp 14) (.cons (.inp 20) .nil)) (.eff (.ld false 1) (.cons (.op (.idxL 1) (.cons (.inp 14) (.cons (.inp 20) .nil))) .nil) (.chk none (.idxL 1) (.cons (.inp 16) (.cons (.inp 20) .nil)) (.eff (.ld false 1) (.cons (.op (.idxL 1) (.cons (.inp 16) (.cons (.inp 20) .nil))) .nil) (.eff (.call 22) (.cons (.bv 0) (.cons (.bv 1) .nil)) (.chk none (.un .not) (.cons (.bv 2) .nil) (.done [] (some (.op (.un .not) (.cons (.bv 2) .nil)))))))))) h4_12 .skip) Q env w := rfl
def h4_14 : HC := (.seq (.block 7 h4_13) h4_11)
@[simp] theorem h4_14_wp {P : Program} {F : PF P} {Q : EX → List Value → World → Prop} {env : List Value} {w : World} : h4_14.wp F Q env w = HC.wp F (.seq (.block 7 h4_13) h4_11) Q env w := rfl
def h4_15 : HC := (.seq (.br (.chk none .lenL (.cons (.inp 14) .nil) (.chk none (.bin .lss) (.cons (.inp 20) (.cons (.op .lenL (.cons (.inp 14) .nil)) .nil)) (.done [] (some (.op (.bin .lss) (.cons (.inp 20) (.cons (.op .lenL (.cons (.inp 14) .nil)) .nil))))))) .skip (.exit 6)) h4_14)
@[simp] theorem h4_15_wp {P : Program} {F : PF P} {Q : EX → List Value → World → Prop} {env : List Value} {w : World} : h4_15.wp F Q env w = HC.wp F (.seq (.br (.chk none .lenL (.cons (.inp 14) .nil) (.chk none (.bin .lss) (.cons (.inp 20) (.cons (.op .lenL (.cons (.inp 14) .nil)) .nil)) (.done [] (some (.op (.bin .lss) (.cons (.inp 20) (.cons (.op .lenL (.cons (.inp 14) .nil)) .nil))))))) .skip (.exit 6)) h4_14) Q env w := rfl
def h4_16 : HC := (.loop h4_15)
@[simp] theorem h4_16_wp {P : Program} {F : PF P} {Q : EX → List Value → World → Prop} {env : List Value} {w : World} : h4_16.wp F Q env w = HC.wp F (.loop h4_15) Q env w := rfl
def h4_17 : HC := (.seq (.block 6 h4_16) h4_10)
@[simp] theorem h4_17_wp {P : Program} {F : PF P} {Q : EX → List Value → World → Prop} {env : List Value} {w : World} : h4_17.wp F Q env w = HC.wp F (.seq (.block 6 h4_16) h4_10) Q env w := rfl
def h4_18 : HC := (.seq (.reg (.done [(20, (.cst (.int .i64 0)))] none)) h4_17)
@[simp] theorem h4_18_wp {P : Program} {F : PF P} {Q : EX → List Value → World → Prop} {env : List Value} {w : World} : h4_18.wp F Q env w = HC.wp F (.seq (.reg (.done [(20, (.cst (.int .i64 0)))] none)) h4_17) Q env w := rfl
def h4_19 : HC := (.seq (.reg (.chk none (.bin .add) (.cons (.inp 2) (.cons (.cst (.int .i64 268435456)) .nil)) (.eff (.call 14) (.cons (.inp 8) (.cons (.op (.bin .add) (.cons (.inp 2) (.cons (.cst (.int .i64 268435456)) .nil))) .nil)) (.done [] none)))) h4_18)
@[simp] theorem h4_19_wp {P : Program} {F : PF P} {Q : EX → List Value → World → Prop} {env : List Value} {w : World} : h4_19.wp F Q env w = HC.wp F (.seq (.reg (.chk none (.bin .add) (.cons (.inp 2) (.cons (.cst (.int .i64 268435456)) .nil)) (.eff (.call 14) (.cons (.inp 8) (.cons (.op (.bin .add) (.cons (.inp 2) (.cons (.cst (.int .i64 268435456)) .nil))) .nil)) (.done [] none)))) h4_18) Q env w := rfl
def h4_20 : HC := (.reg (.chk none (.bin .add) (.cons (.inp 19) (.cons (.cst (.int .i64 1)) .nil)) (.done [(19, (.op (.bin .add) (.cons (.inp 19) (.cons (.cst (.int .i64 1)) .nil))))] none)))
@[simp] theorem h4_20_wp {P : Program} {F : PF P} {Q : EX → List Value → World → Prop} {env : List Value} {w : World} : h4_20.wp F Q env w = HC.wp F (.reg (.chk none (.bin .add) (.cons (.inp 19) (.cons (.cst (.int .i64 1)) .nil)) (.done [(19, (.op (.bin .add) (.cons (.inp 19) (.cons (.cst (.int .i64 1)) .nil))))] none))) Q env w := rfl
def h4_21 : HC := (.reg (.eff (.bsl 3 0 1 #[] []) .nil (.chk none (.idxL 1) (.cons (.inp 15) (.cons (.inp 19) .nil)) (.eff (.ld false 1) (.cons (.op (.idxL 1) (.cons (.inp 15) (.cons (.inp 19) .nil))) .nil) (.eff (.app 47 47 3 1 8 (.int .i64 0)) (.cons (.bv 0) (.cons (.bv 1) .nil)) (.eff (.bsl 47 1 1 #[(.slice none 0 0)] [0]) (.cons (.bv 2) .nil) (.eff (.app 49 49 47 1 24 (.slice none 0 0)) (.cons (.inp 17) (.cons (.bv 3) .nil)) (.done [(17, (.bv 4))] none))))))))
@[simp] theorem h4_21_wp {P : Program} {F : PF P} {Q : EX → List Value → World → Prop} {env : List Value} {w : World} : h4_21.wp F Q env w = HC.wp F (.reg (.eff (.bsl 3 0 1 #[] []) .nil (.chk none (.idxL 1) (.cons (.inp 15) (.cons (.inp 19) .nil)) (.eff (.ld false 1) (.cons (.op (.idxL 1) (.cons (.inp 15) (.cons (.inp 19) .nil))) .nil) (.eff (.app 47 47 3 1 8 (.int .i64 0)) (.cons (.bv 0) (.cons (.bv 1) .nil)) (.eff (.bsl 47 1 1 #[(.slice none 0 0)] [0]) (.cons (.bv 2) .nil) (.eff (.app 49 49 47 1 24 (.slice none 0 0)) (.cons (.inp 17) (.cons (.bv 3) .nil)) (.done [(17, (.bv 4))] none)))))))) Q env w := rfl
def h4_22 : HC := (.seq (.block 5 h4_21) h4_20)
@[simp] theorem h4_22_wp {P : Program} {F : PF P} {Q : EX → List Value → World → Prop} {env : List Value} {w : World} : h4_22.wp F Q env w = HC.wp F (.seq (.block 5 h4_21) h4_20) Q env w := rfl
def h4_23 : HC := (.seq (.br (.chk none .lenL (.cons (.inp 15) .nil) (.chk none (.bin .lss) (.cons (.inp 19) (.cons (.op .lenL (.cons (.inp 15) .nil)) .nil)) (.done [] (some (.op (.bin .lss) (.cons (.inp 19) (.cons (.op .lenL (.cons (.inp 15) .nil)) .nil))))))) .skip (.exit 4)) h4_22)
@[simp] theorem h4_23_wp {P : Program} {F : PF P} {Q : EX → List Value → World → Prop} {env : List Value} {w : World} : h4_23.wp F Q env w = HC.wp F (.seq (.br (.chk none .lenL (.cons (.inp 15) .nil) (.chk none (.bin .lss) (.cons (.inp 19) (.cons (.op .lenL (.cons (.inp 15) .nil)) .nil)) (.done [] (some (.op (.bin .lss) (.cons (.inp 19) (.cons (.op .lenL (.cons (.inp 15) .nil)) .nil))))))) .skip (.exit 4)) h4_22) Q env w := rfl
def h4_24 : HC := (.loop h4_23)
@[simp] theorem h4_24_wp {P : Program} {F : PF P} {Q : EX → List Value → World → Prop} {env : List Value} {w : World} : h4_24.wp F Q env w = HC.wp F (.loop h4_23) Q env w := rfl
def h4_25 : HC := (.seq (.block 4 h4_24) h4_19)
@[simp] theorem h4_25_wp {P : Program} {F : PF P} {Q : EX → List Value → World → Prop} {env : List Value} {w : World} : h4_25.wp F Q env w = HC.wp F (.seq (.block 4 h4_24) h4_19) Q env w := rfl
def h4_26 : HC := (.seq (.reg (.done [(19, (.cst (.int .i64 0)))] none)) h4_25)
@[simp] theorem h4_26_wp {P : Program} {F : PF P} {Q : EX → List Value → World → Prop} {env : List Value} {w : World} : h4_26.wp F Q env w = HC.wp F (.seq (.reg (.done [(19, (.cst (.int .i64 0)))] none)) h4_25) Q env w := rfl
def h4_27 : HC := (.reg (.chk none (.bin .add) (.cons (.inp 18) (.cons (.cst (.int .i64 1)) .nil)) (.done [(18, (.op (.bin .add) (.cons (.inp 18) (.cons (.cst (.int .i64 1)) .nil))))] none)))
@[simp] theorem h4_27_wp {P : Program} {F : PF P} {Q : EX → List Value → World → Prop} {env : List Value} {w : World} : h4_27.wp F Q env w = HC.wp F (.reg (.chk none (.bin .add) (.cons (.inp 18) (.cons (.cst (.int .i64 1)) .nil)) (.done [(18, (.op (.bin .add) (.cons (.inp 18) (.cons (.cst (.int .i64 1)) .nil))))] none))) Q env w := rfl
def h4_28 : HC := (.reg (.eff (.bsl 32 0 2 #[] []) .nil (.chk none (.idxL 1) (.cons (.inp 14) (.cons (.inp 18) .nil)) (.eff (.ld false 1) (.cons (.op (.idxL 1) (.cons (.inp 14) (.cons (.inp 18) .nil))) .nil) (.eff (.app 38 38 32 2 16 (.agg #[(.int .i64 0), (.int .i64 0)])) (.cons (.bv 0) (.cons (.bv 1) .nil)) (.eff (.bsl 38 1 1 #[(.slice none 0 0)] [0]) (.cons (.bv 2) .nil) (.eff (.app 46 46 38 1 24 (.slice none 0 0)) (.cons (.inp 16) (.cons (.bv 3) .nil)) (.done [(16, (.bv 4))] none))))))))
@[simp] theorem h4_28_wp {P : Program} {F : PF P} {Q : EX → List Value → World → Prop} {env : List Value} {w : World} : h4_28.wp F Q env w = HC.wp F (.reg (.eff (.bsl 32 0 2 #[] []) .nil (.chk none (.idxL 1) (.cons (.inp 14) (.cons (.inp 18) .nil)) (.eff (.ld false 1) (.cons (.op (.idxL 1) (.cons (.inp 14) (.cons (.inp 18) .nil))) .nil) (.eff (.app 38 38 32 2 16 (.agg #[(.int .i64 0), (.int .i64 0)])) (.cons (.bv 0) (.cons (.bv 1) .nil)) (.eff (.bsl 38 1 1 #[(.slice none 0 0)] [0]) (.cons (.bv 2) .nil) (.eff (.app 46 46 38 1 24 (.slice none 0 0)) (.cons (.inp 16) (.cons (.bv 3) .nil)) (.done [(16, (.bv 4))] none)))))))) Q env w := rfl
def h4_29 : HC := (.seq (.block 3 h4_28) h4_27)
@[simp] theorem h4_29_wp {P : Program} {F : PF P} {Q : EX → List Value → World → Prop} {env : List Value} {w : World} : h4_29.wp F Q env w = HC.wp F (.seq (.block 3 h4_28) h4_27) Q env w := rfl
def h4_30 : HC := (.seq (.br (.chk none .lenL (.cons (.inp 14) .nil) (.chk none (.bin .lss) (.cons (.inp 18) (.cons (.op .lenL (.cons (.inp 14) .nil)) .nil)) (.done [] (some (.op (.bin .lss) (.cons (.inp 18) (.cons (.op .lenL (.cons (.inp 14) .nil)) .nil))))))) .skip (.exit 2)) h4_29)
@[simp] theorem h4_30_wp {P : Program} {F : PF P} {Q : EX → List Value → World → Prop} {env : List Value} {w : World} : h4_30.wp F Q env w = HC.wp F (.seq (.br (.chk none .lenL (.cons (.inp 14) .nil) (.chk none (.bin .lss) (.cons (.inp 18) (.cons (.op .lenL (.cons (.inp 14) .nil)) .nil)) (.done [] (some (.op (.bin .lss) (.cons (.inp 18) (.cons (.op .lenL (.cons (.inp 14) .nil)) .nil))))))) .skip (.exit 2)) h4_29) Q env w := rfl
def h4_31 : HC := (.loop h4_30)
@[simp] theorem h4_31_wp {P : Program} {F : PF P} {Q : EX → List Value → World → Prop} {env : List Value} {w : World} : h4_31.wp F Q env w = HC.wp F (.loop h4_30) Q env w := rfl
def h4_32 : HC := (.seq (.block 2 h4_31) h4_26)
@[simp] theorem h4_32_wp {P : Program} {F : PF P} {Q : EX → List Value → World → Prop} {env : List Value} {w : World} : h4_32.wp F Q env w = HC.wp F (.seq (.block 2 h4_31) h4_26) Q env w := rfl
def h4_33 : HC := (.seq (.reg (.done [(18, (.cst (.int .i64 0)))] none)) h4_32)
@[simp] theorem h4_33_wp {P : Program} {F : PF P} {Q : EX → List Value → World → Prop} {env : List Value} {w : World} : h4_33.wp F Q env w = HC.wp F (.seq (.reg (.done [(18, (.cst (.int .i64 0)))] none)) h4_32) Q env w := rfl
def h4_34 : HC := (.seq (.reg (.done [(17, (.cst (.slice none 0 0)))] none)) h4_33)
@[simp] theorem h4_34_wp {P : Program} {F : PF P} {Q : EX → List Value → World → Prop} {env : List Value} {w : World} : h4_34.wp F Q env w = HC.wp F (.seq (.reg (.done [(17, (.cst (.slice none 0 0)))] none)) h4_33) Q env w := rfl
def h4_35 : HC := (.seq (.reg (.done [(16, (.cst (.slice none 0 0)))] none)) h4_34)
@[simp] theorem h4_35_wp {P : Program} {F : PF P} {Q : EX → List Value → World → Prop} {env : List Value} {w : World} : h4_35.wp F Q env w = HC.wp F (.seq (.reg (.done [(16, (.cst (.slice none 0 0)))] none)) h4_34) Q env w := rfl
def h4_36 : HC := (.seq (.reg (.eff (.call 21) (.cons (.inp 6) (.cons (.cst (.int .i64 0)) .nil)) (.eff (.call 21) (.cons (.inp 6) (.cons (.cst (.int .i64 0)) .nil)) (.eff (.call 21) (.cons (.inp 10) (.cons (.cst (.int .i64 1)) .nil)) (.eff (.call 21) (.cons (.inp 10) (.cons (.cst (.int .i64 4)) .nil)) (.eff (.call 21) (.cons (.inp 10) (.cons (.cst (.int .i64 4)) .nil)) (.eff (.bsl 47 5 1 #[(.slice none 0 0)] [0, 1, 2, 3, 4]) (.cons (.bv 0) (.cons (.bv 1) (.cons (.bv 2) (.cons (.bv 3) (.cons (.bv 4) .nil))))) (.done [(15, (.bv 5))] none)))))))) h4_35)
@[simp] theorem h4_36_wp {P : Program} {F : PF P} {Q : EX → List Value → World → Prop} {env : List Value} {w : World} : h4_36.wp F Q env w = HC.wp F (.seq (.reg (.eff (.call 21) (.cons (.inp 6) (.cons (.cst (.int .i64 0)) .nil)) (.eff (.call 21) (.cons (.inp 6) (.cons (.cst (.int .i64 0)) .nil)) (.eff (.call 21) (.cons (.inp 10) (.cons (.cst (.int .i64 1)) .nil)) (.eff (.call 21) (.cons (.inp 10) (.cons (.cst (.int .i64 4)) .nil)) (.eff (.call 21) (.cons (.inp 10) (.cons (.cst (.int .i64 4)) .nil)) (.eff (.bsl 47 5 1 #[(.slice none 0 0)] [0, 1, 2, 3, 4]) (.cons (.bv 0) (.cons (.bv 1) (.cons (.bv 2) (.cons (.bv 3) (.cons (.bv 4) .nil))))) (.done [(15, (.bv 5))] none)))))))) h4_35) Q env w := rfl
def h4_37 : HC := (.seq (.reg (.eff (.call 20) (.cons (.inp 6) .nil) (.eff (.call 20) (.cons (.inp 6) .nil) (.eff (.call 20) (.cons (.inp 8) .nil) (.eff (.call 20) (.cons (.inp 10) .nil) (.eff (.bsl 38 6 1 #[(.slice none 0 0)] [0, 1, 2, 3, 4, 5]) (.cons (.inp 12) (.cons (.inp 13) (.cons (.bv 0) (.cons (.bv 1) (.cons (.bv 2) (.cons (.bv 3) .nil)))))) (.done [(14, (.bv 4))] none))))))) h4_36)
@[simp] theorem h4_37_wp {P : Program} {F : PF P} {Q : EX → List Value → World → Prop} {env : List Value} {w : World} : h4_37.wp F Q env w = HC.wp F (.seq (.reg (.eff (.call 20) (.cons (.inp 6) .nil) (.eff (.call 20) (.cons (.inp 6) .nil) (.eff (.call 20) (.cons (.inp 8) .nil) (.eff (.call 20) (.cons (.inp 10) .nil) (.eff (.bsl 38 6 1 #[(.slice none 0 0)] [0, 1, 2, 3, 4, 5]) (.cons (.inp 12) (.cons (.inp 13) (.cons (.bv 0) (.cons (.bv 1) (.cons (.bv 2) (.cons (.bv 3) .nil)))))) (.done [(14, (.bv 4))] none))))))) h4_36) Q env w := rfl
def h4_38 : HC := (.seq (.reg (.eff (.call 14) (.cons (.inp 8) (.cons (.inp 2) .nil)) (.chk none (.ext 0) (.cons (.bv 0) .nil) (.chk none (.ext 1) (.cons (.bv 0) .nil) (.done [(13, (.op (.ext 0) (.cons (.bv 0) .nil)))] none))))) h4_37)
@[simp] theorem h4_38_wp {P : Program} {F : PF P} {Q : EX → List Value → World → Prop} {env : List Value} {w : World} : h4_38.wp F Q env w = HC.wp F (.seq (.reg (.eff (.call 14) (.cons (.inp 8) (.cons (.inp 2) .nil)) (.chk none (.ext 0) (.cons (.bv 0) .nil) (.chk none (.ext 1) (.cons (.bv 0) .nil) (.done [(13, (.op (.ext 0) (.cons (.bv 0) .nil)))] none))))) h4_37) Q env w := rfl
def h4_39 : HC := (.seq (.reg (.eff (.call 14) (.cons (.inp 6) (.cons (.inp 2) .nil)) (.chk none (.ext 0) (.cons (.bv 0) .nil) (.chk none (.ext 1) (.cons (.bv 0) .nil) (.done [(12, (.op (.ext 0) (.cons (.bv 0) .nil)))] none))))) h4_38)
@[simp] theorem h4_39_wp {P : Program} {F : PF P} {Q : EX → List Value → World → Prop} {env : List Value} {w : World} : h4_39.wp F Q env w = HC.wp F (.seq (.reg (.eff (.call 14) (.cons (.inp 6) (.cons (.inp 2) .nil)) (.chk none (.ext 0) (.cons (.bv 0) .nil) (.chk none (.ext 1) (.cons (.bv 0) .nil) (.done [(12, (.op (.ext 0) (.cons (.bv 0) .nil)))] none))))) h4_38) Q env w := rfl
def h4_40 : HC := (.seq (.reg (.chk none (.cal 11) (.cons (.inp 2) .nil) (.chk none (.bin .add) (.cons (.inp 0) (.cons (.op (.cal 11) (.cons (.inp 2) .nil)) .nil)) (.done [(2, (.op (.bin .add) (.cons (.inp 0) (.cons (.op (.cal 11) (.cons (.inp 2) .nil)) .nil))))] none)))) h4_39)
@[simp] theorem h4_40_wp {P : Program} {F : PF P} {Q : EX → List Value → World → Prop} {env : List Value} {w : World} : h4_40.wp F Q env w = HC.wp F (.seq (.reg (.chk none (.cal 11) (.cons (.inp 2) .nil) (.chk none (.bin .add) (.cons (.inp 0) (.cons (.op (.cal 11) (.cons (.inp 2) .nil)) .nil)) (.done [(2, (.op (.bin .add) (.cons (.inp 0) (.cons (.op (.cal 11) (.cons (.inp 2) .nil)) .nil))))] none)))) h4_39) Q env w := rfl
def h4_41 : HC := (.seq (.reg (.eff (.call 19) (.cons (.inp 4) .nil) (.done [] none))) h4_40)
@[simp] theorem h4_41_wp {P : Program} {F : PF P} {Q : EX → List Value → World → Prop} {env : List Value} {w : World} : h4_41.wp F Q env w = HC.wp F (.seq (.reg (.eff (.call 19) (.cons (.inp 4) .nil) (.done [] none))) h4_40) Q env w := rfl
def h4_42 : HC := (.seq (.reg (.done [(3, (.cst (.bool false)))] none)) .ret)
@[simp] theorem h4_42_wp {P : Program} {F : PF P} {Q : EX → List Value → World → Prop} {env : List Value} {w : World} : h4_42.wp F Q env w = HC.wp F (.seq (.reg (.done [(3, (.cst (.bool false)))] none)) .ret) Q env w := rfl
def h4_43 : HC := (.seq (.br (.chk none (.cal 10) (.cons (.inp 7) .nil) (.chk none (.bin .neq) (.cons (.op (.cal 10) (.cons (.inp 7) .nil)) (.cons (.cst (.int .i64 0)) .nil)) (.bnd (.op (.bin .neq) (.cons (.op (.cal 10) (.cons (.inp 7) .nil)) (.cons (.cst (.int .i64 0)) .nil))) (.chk (some ((.bv 0), false)) (.cal 10) (.cons (.inp 9) .nil) (.chk (some ((.bv 0), false)) (.bin .neq) (.cons (.op (.cal 10) (.cons (.inp 9) .nil)) (.cons (.cst (.int .i64 0)) .nil)) (.isb none (.bv 0) (.bnd (.ite (.bv 0) true (.cst (.bool true)) (.op (.bin .neq) (.cons (.op (.cal 10) (.cons (.inp 9) .nil)) (.cons (.cst (.int .i64 0)) .nil)))) (.chk (some ((.bv 1), false)) (.cal 10) (.cons (.inp 11) .nil) (.chk (some ((.bv 1), false)) (.bin .neq) (.cons (.op (.cal 10) (.cons (.inp 11) .nil)) (.cons (.cst (.int .i64 0)) .nil)) (.isb none (.bv 1) (.done [] (some (.ite (.bv 1) true (.cst (.bool true)) (.op (.bin .neq) (.cons (.op (.cal 10) (.cons (.inp 11) .nil)) (.cons (.cst (.int .i64 0)) .nil)))))))))))))))) h4_42 .skip) h4_41)
@[simp] theorem h4_43_wp {P : Program} {F : PF P} {Q : EX → List Value → World → Prop} {env : List Value} {w : World} : h4_43.wp F Q env w = HC.wp F (.seq (.br (.chk none (.cal 10) (.cons (.inp 7) .nil) (.chk none (.bin .neq) (.cons (.op (.cal 10) (.cons (.inp 7) .nil)) (.cons (.cst (.int .i64 0)) .nil)) (.bnd (.op (.bin .neq) (.cons (.op (.cal 10) (.cons (.inp 7) .nil)) (.cons (.cst (.int .i64 0)) .nil))) (.chk (some ((.bv 0), false)) (.cal 10) (.cons (.inp 9) .nil) (.chk (some ((.bv 0), false)) (.bin .neq) (.cons (.op (.cal 10) (.cons (.inp 9) .nil)) (.cons (.cst (.int .i64 0)) .nil)) (.isb none (.bv 0) (.bnd (.ite (.bv 0) true (.cst (.bool true)) (.op (.bin .neq) (.cons (.op (.cal 10) (.cons (.inp 9) .nil)) (.cons (.cst (.int .i64 0)) .nil)))) (.chk (some ((.bv 1), false)) (.cal 10) (.cons (.inp 11) .nil) (.chk (some ((.bv 1), false)) (.bin .neq) (.cons (.op (.cal 10) (.cons (.inp 11) .nil)) (.cons (.cst (.int .i64 0)) .nil)) (.isb none (.bv 1) (.done [] (some (.ite (.bv 1) true (.cst (.bool true)) (.op (.bin .neq) (.cons (.op (.cal 10) (.cons (.inp 11) .nil)) (.cons (.cst (.int .i64 0)) .nil)))))))))))))))) h4_42 .skip) h4_41) Q env w := rfl
def h4_44 : HC := (.seq (.reg (.eff (.call 18) (.cons (.inp 0) (.cons (.inp 4) .nil)) (.chk none (.ext 0) (.cons (.bv 0) .nil) (.chk none (.ext 1) (.cons (.bv 0) .nil) (.done [(10, (.op (.ext 0) (.cons (.bv 0) .nil))), (11, (.op (.ext 1) (.cons (.bv 0) .nil)))] none))))) h4_43)
@[simp] theorem h4_44_wp {P : Program} {F : PF P} {Q : EX → List Value → World → Prop} {env : List Value} {w : World} : h4_44.wp F Q env w = HC.wp F (.seq (.reg (.eff (.call 18) (.cons (.inp 0) (.cons (.inp 4) .nil)) (.chk none (.ext 0) (.cons (.bv 0) .nil) (.chk none (.ext 1) (.cons (.bv 0) .nil) (.done [(10, (.op (.ext 0) (.cons (.bv 0) .nil))), (11, (.op (.ext 1) (.cons (.bv 0) .nil)))] none))))) h4_43) Q env w := rfl
def h4_45 : HC := (.seq (.reg (.eff (.call 18) (.cons (.inp 0) (.cons (.inp 4) .nil)) (.chk none (.ext 0) (.cons (.bv 0) .nil) (.chk none (.ext 1) (.cons (.bv 0) .nil) (.done [(8, (.op (.ext 0) (.cons (.bv 0) .nil))), (9, (.op (.ext 1) (.cons (.bv 0) .nil)))] none))))) h4_44)
@[simp] theorem h4_45_wp {P : Program} {F : PF P} {Q : EX → List Value → World → Prop} {env : List Value} {w : World} : h4_45.wp F Q env w = HC.wp F (.seq (.reg (.eff (.call 18) (.cons (.inp 0) (.cons (.inp 4) .nil)) (.chk none (.ext 0) (.cons (.bv 0) .nil) (.chk none (.ext 1) (.cons (.bv 0) .nil) (.done [(8, (.op (.ext 0) (.cons (.bv 0) .nil))), (9, (.op (.ext 1) (.cons (.bv 0) .nil)))] none))))) h4_44) Q env w := rfl
def h4_46 : HC := (.seq (.reg (.eff (.call 18) (.cons (.inp 0) (.cons (.inp 4) .nil)) (.chk none (.ext 0) (.cons (.bv 0) .nil) (.chk none (.ext 1) (.cons (.bv 0) .nil) (.done [(6, (.op (.ext 0) (.cons (.bv 0) .nil))), (7, (.op (.ext 1) (.cons (.bv 0) .nil)))] none))))) h4_45)
@[simp] theorem h4_46_wp {P : Program} {F : PF P} {Q : EX → List Value → World → Prop} {env : List Value} {w : World} : h4_46.wp F Q env w = HC.wp F (.seq (.reg (.eff (.call 18) (.cons (.inp 0) (.cons (.inp 4) .nil)) (.chk none (.ext 0) (.cons (.bv 0) .nil) (.chk none (.ext 1) (.cons (.bv 0) .nil) (.done [(6, (.op (.ext 0) (.cons (.bv 0) .nil))), (7, (.op (.ext 1) (.cons (.bv 0) .nil)))] none))))) h4_45) Q env w := rfl
def h4_47 : HC := (.reg (.chk none (.bin .add) (.cons (.inp 5) (.cons (.cst (.int .i64 1)) .nil)) (.done [(5, (.op (.bin .add) (.cons (.inp 5) (.cons (.cst (.int .i64 1)) .nil))))] none)))
@[simp] theorem h4_47_wp {P : Program} {F : PF P} {Q : EX → List Value → World → Prop} {env : List Value} {w : World} : h4_47.wp F Q env w = HC.wp F (.reg (.chk none (.bin .add) (.cons (.inp 5) (.cons (.cst (.int .i64 1)) .nil)) (.done [(5, (.op (.bin .add) (.cons (.inp 5) (.cons (.cst (.int .i64 1)) .nil))))] none))) Q env w := rfl
def h4_48 : HC := (.reg (.chk none (.bin .add) (.cons (.inp 5) (.cons (.cst (.int .i64 1)) .nil)) (.chk none (.idxL 3) (.cons (.inp 1) (.cons (.inp 5) .nil)) (.chk none (.fld 2) (.cons (.op (.idxL 3) (.cons (.inp 1) (.cons (.inp 5) .nil))) .nil) (.eff (.ld false 1) (.cons (.op (.fld 2) (.cons (.op (.idxL 3) (.cons (.inp 1) (.cons (.inp 5) .nil))) .nil)) .nil) (.chk none (.cal 11) (.cons (.bv 0) .nil) (.chk none (.bin .add) (.cons (.inp 0) (.cons (.op (.cal 11) (.cons (.bv 0) .nil)) .nil)) (.chk none (.build #[(.int .i64 0), (.int .i64 0)] [(0, 1), (1, 1)] [0, 1]) (.cons (.op (.bin .add) (.cons (.inp 5) (.cons (.cst (.int .i64 1)) .nil))) (.cons (.op (.bin .add) (.cons (.inp 0) (.cons (.op (.cal 11) (.cons (.bv 0) .nil)) .nil))) .nil)) (.eff (.bsl 32 1 2 #[(.int .i64 0), (.int .i64 0)] [0]) (.cons (.op (.build #[(.int .i64 0), (.int .i64 0)] [(0, 1), (1, 1)] [0, 1]) (.cons (.op (.bin .add) (.cons (.inp 5) (.cons (.cst (.int .i64 1)) .nil))) (.cons (.op (.bin .add) (.cons (.inp 0) (.cons (.op (.cal 11) (.cons (.bv 0) .nil)) .nil))) .nil))) .nil) (.eff (.app 38 38 32 2 16 (.agg #[(.int .i64 0), (.int .i64 0)])) (.cons (.inp 4) (.cons (.bv 1) .nil)) (.done [(4, (.bv 2))] none)))))))))))
@[simp] theorem h4_48_wp {P : Program} {F : PF P} {Q : EX → List Value → World → Prop} {env : List Value} {w : World} : h4_48.wp F Q env w = HC.wp F (.reg (.chk none (.bin .add) (.cons (.inp 5) (.cons (.cst (.int .i64 1)) .nil)) (.chk none (.idxL 3) (.cons (.inp 1) (.cons (.inp 5) .nil)) (.chk none (.fld 2) (.cons (.op (.idxL 3) (.cons (.inp 1) (.cons (.inp 5) .nil))) .nil) (.eff (.ld false 1) (.cons (.op (.fld 2) (.cons (.op (.idxL 3) (.cons (.inp 1) (.cons (.inp 5) .nil))) .nil)) .nil) (.chk none (.cal 11) (.cons (.bv 0) .nil) (.chk none (.bin .add) (.cons (.inp 0) (.cons (.op (.cal 11) (.cons (.bv 0) .nil)) .nil)) (.chk none (.build #[(.int .i64 0), (.int .i64 0)] [(0, 1), (1, 1)] [0, 1]) (.cons (.op (.bin .add) (.cons (.inp 5) (.cons (.cst (.int .i64 1)) .nil))) (.cons (.op (.bin .add) (.cons (.inp 0) (.cons (.op (.cal 11) (.cons (.bv 0) .nil)) .nil))) .nil)) (.eff (.bsl 32 1 2 #[(.int .i64 0), (.int .i64 0)] [0]) (.cons (.op (.build #[(.int .i64 0), (.int .i64 0)] [(0, 1), (1, 1)] [0, 1]) (.cons (.op (.bin .add) (.cons (.inp 5) (.cons (.cst (.int .i64 1)) .nil))) (.cons (.op (.bin .add) (.cons (.inp 0) (.cons (.op (.cal 11) (.cons (.bv 0) .nil)) .nil))) .nil))) .nil) (.eff (.app 38 38 32 2 16 (.agg #[(.int .i64 0), (.int .i64 0)])) (.cons (.inp 4) (.cons (.bv 1) .nil)) (.done [(4, (.bv 2))] none))))))))))) Q env w := rfl
def h4_49 : HC := (.seq (.block 1 h4_48) h4_47)
@[simp] theorem h4_49_wp {P : Program} {F : PF P} {Q : EX → List Value → World → Prop} {env : List Value} {w : World} : h4_49.wp F Q env w = HC.wp F (.seq (.block 1 h4_48) h4_47) Q env w := rfl
def h4_50 : HC := (.seq (.br (.chk none .lenL (.cons (.inp 1) .nil) (.chk none (.bin .lss) (.cons (.inp 5) (.cons (.op .lenL (.cons (.inp 1) .nil)) .nil)) (.bnd (.op (.bin .lss) (.cons (.inp 5) (.cons (.op .lenL (.cons (.inp 1) .nil)) .nil))) (.chk (some ((.bv 0), true)) (.bin .lss) (.cons (.inp 5) (.cons (.cst (.int .i64 60000)) .nil)) (.isb none (.bv 0) (.done [] (some (.ite (.bv 0) true (.op (.bin .lss) (.cons (.inp 5) (.cons (.cst (.int .i64 60000)) .nil))) (.cst (.bool false)))))))))) .skip (.exit 0)) h4_49)
@[simp] theorem h4_50_wp {P : Program} {F : PF P} {Q : EX → List Value → World → Prop} {env : List Value} {w : World} : h4_50.wp F Q env w = HC.wp F (.seq (.br (.chk none .lenL (.cons (.inp 1) .nil) (.chk none (.bin .lss) (.cons (.inp 5) (.cons (.op .lenL (.cons (.inp 1) .nil)) .nil)) (.bnd (.op (.bin .lss) (.cons (.inp 5) (.cons (.op .lenL (.cons (.inp 1) .nil)) .nil))) (.chk (some ((.bv 0), true)) (.bin .lss) (.cons (.inp 5) (.cons (.cst (.int .i64 60000)) .nil)) (.isb none (.bv 0) (.done [] (some (.ite (.bv 0) true (.op (.bin .lss) (.cons (.inp 5) (.cons (.cst (.int .i64 60000)) .nil))) (.cst (.bool false)))))))))) .skip (.exit 0)) h4_49) Q env w := rfl
def h4_51 : HC := (.loop h4_50)
@[simp] theorem h4_51_wp {P : Program} {F : PF P} {Q : EX → List Value → World → Prop} {env : List Value} {w : World} : h4_51.wp F Q env w = HC.wp F (.loop h4_50) Q env w := rfl
def h4_52 : HC := (.seq (.block 0 h4_51) h4_46)
@[simp] theorem h4_52_wp {P : Program} {F : PF P} {Q : EX → List Value → World → Prop} {env : List Value} {w : World} : h4_52.wp F Q env w = HC.wp F (.seq (.block 0 h4_51) h4_46) Q env w := rfl
def h4_53 : HC := (.seq (.reg (.done [(5, (.cst (.int .i64 0)))] none)) h4_52)
@[simp] theorem h4_53_wp {P : Program} {F : PF P} {Q : EX → List Value → World → Prop} {env : List Value} {w : World} : h4_53.wp F Q env w = HC.wp F (.seq (.reg (.done [(5, (.cst (.int .i64 0)))] none)) h4_52) Q env w := rfl
def h4_54 : HC := (.seq (.reg (.done [(4, (.cst (.slice none 0 0)))] none)) h4_53)
@[simp] theorem h4_54_wp {P : Program} {F : PF P} {Q : EX → List Value → World → Prop} {env : List Value} {w : World} : h4_54.wp F Q env w = HC.wp F (.seq (.reg (.done [(4, (.cst (.slice none 0 0)))] none)) h4_53) Q env w := rfl
def h4_55 : HC := (.seq (.reg (.chk none (.cal 8) (.cons (.inp 0) (.cons (.cst (.int .i64 549755813888)) .nil)) (.done [(0, (.op (.cal 8) (.cons (.inp 0) (.cons (.cst (.int .i64 549755813888)) .nil))))] none))) h4_54)
@[simp] theorem h4_55_wp {P : Program} {F : PF P} {Q : EX → List Value → World → Prop} {env : List Value} {w : World} : h4_55.wp F Q env w = HC.wp F (.seq (.reg (.chk none (.cal 8) (.cons (.inp 0) (.cons (.cst (.int .i64 549755813888)) .nil)) (.done [(0, (.op (.cal 8) (.cons (.inp 0) (.cons (.cst (.int .i64 549755813888)) .nil))))] none))) h4_54) Q env w := rfl
def h4_56 : HC := (.seq (.reg (.done [(3, (.cst (.bool false)))] none)) .ret)
@[simp] theorem h4_56_wp {P : Program} {F : PF P} {Q : EX → List Value → World → Prop} {env : List Value} {w : World} : h4_56.wp F Q env w = HC.wp F (.seq (.reg (.done [(3, (.cst (.bool false)))] none)) .ret) Q env w := rfl
def h4_57 : HC := (.seq (.br (.eff (.call 7) .nil (.chk none (.un .not) (.cons (.bv 0) .nil) (.done [] (some (.op (.un .not) (.cons (.bv 0) .nil)))))) h4_56 .skip) h4_55)
@[simp] theorem h4_57_wp {P : Program} {F : PF P} {Q : EX → List Value → World → Prop} {env : List Value} {w : World} : h4_57.wp F Q env w = HC.wp F (.seq (.br (.eff (.call 7) .nil (.chk none (.un .not) (.cons (.bv 0) .nil) (.done [] (some (.op (.un .not) (.cons (.bv 0) .nil)))))) h4_56 .skip) h4_55) Q env w := rfl
def l4 : Lifted := ⟨[0, 1, 2, 6, 7, 8, 9, 10, 11, 12, 13, 14, 15, 17, 19, 20, 21, 22, 23, 24, 25, 26], 238, [.slot 3], (.seq (.reg (.done [(3, (.cst (.bool false)))] none)) h4_57)⟩
theorem l4_ok : liftFn U2 4 400 = some l4 := by kernel_rfl

-- bazaar/bazaarlaw09.sameTimers
def h22_0 : HC := (.seq (.reg (.done [(2, (.cst (.bool true)))] none)) .ret)
@[simp] theorem h22_0_wp {P : Program} {F : PF P} {Q : EX → List Value → World → Prop} {env : List Value} {w : World} : h22_0.wp F Q env w = HC.wp F (.seq (.reg (.done [(2, (.cst (.bool true)))] none)) .ret) Q env w := rfl
def h22_1 : HC := (.reg (.chk none (.bin .add) (.cons (.inp 3) (.cons (.cst (.int .i64 1)) .nil)) (.done [(3, (.op (.bin .add) (.cons (.inp 3) (.cons (.cst (.int .i64 1)) .nil))))] none)))
@[simp] theorem h22_1_wp {P : Program} {F : PF P} {Q : EX → List Value → World → Prop} {env : List Value} {w : World} : h22_1.wp F Q env w = HC.wp F (.reg (.chk none (.bin .add) (.cons (.inp 3) (.cons (.cst (.int .i64 1)) .nil)) (.done [(3, (.op (.bin .add) (.cons (.inp 3) (.cons (.cst (.int .i64 1)) .nil))))] none))) Q env w := rfl
def h22_2 : HC := (.seq (.reg (.done [(2, (.cst (.bool false)))] none)) .ret)
@[simp] theorem h22_2_wp {P : Program} {F : PF P} {Q : EX → List Value → World → Prop} {env : List Value} {w : World} : h22_2.wp F Q env w = HC.wp F (.seq (.reg (.done [(2, (.cst (.bool false)))] none)) .ret) Q env w := rfl
def h22_3 : HC := (.brq (some 0) (.chk none (.idxL 2) (.cons (.inp 0) (.cons (.inp 3) .nil)) (.eff (.ld true 2) (.cons (.op (.idxL 2) (.cons (.inp 0) (.cons (.inp 3) .nil))) .nil) (.chk none (.idxL 2) (.cons (.inp 1) (.cons (.inp 3) .nil)) (.eff (.ld true 2) (.cons (.op (.idxL 2) (.cons (.inp 1) (.cons (.inp 3) .nil))) .nil) (.eff (.bin .neq 32 (.tmp 20) (.tmp 24)) (.cons (.bv 0) (.cons (.bv 1) .nil)) (.done [] (some (.bv 2)))))))) h22_2 .skip)
@[simp] theorem h22_3_wp {P : Program} {F : PF P} {Q : EX → List Value → World → Prop} {env : List Value} {w : World} : h22_3.wp F Q env w = HC.wp F (.brq (some 0) (.chk none (.idxL 2) (.cons (.inp 0) (.cons (.inp 3) .nil)) (.eff (.ld true 2) (.cons (.op (.idxL 2) (.cons (.inp 0) (.cons (.inp 3) .nil))) .nil) (.chk none (.idxL 2) (.cons (.inp 1) (.cons (.inp 3) .nil)) (.eff (.ld true 2) (.cons (.op (.idxL 2) (.cons (.inp 1) (.cons (.inp 3) .nil))) .nil) (.eff (.bin .neq 32 (.tmp 20) (.tmp 24)) (.cons (.bv 0) (.cons (.bv 1) .nil)) (.done [] (some (.bv 2)))))))) h22_2 .skip) Q env w := rfl
def h22_4 : HC := (.seq (.block 1 h22_3) h22_1)
@[simp] theorem h22_4_wp {P : Program} {F : PF P} {Q : EX → List Value → World → Prop} {env : List Value} {w : World} : h22_4.wp F Q env w = HC.wp F (.seq (.block 1 h22_3) h22_1) Q env w := rfl
def h22_5 : HC := (.seq (.br (.chk none .lenL (.cons (.inp 0) .nil) (.chk none (.bin .lss) (.cons (.inp 3) (.cons (.op .lenL (.cons (.inp 0) .nil)) .nil)) (.done [] (some (.op (.bin .lss) (.cons (.inp 3) (.cons (.op .lenL (.cons (.inp 0) .nil)) .nil))))))) .skip (.exit 0)) h22_4)
@[simp] theorem h22_5_wp {P : Program} {F : PF P} {Q : EX → List Value → World → Prop} {env : List Value} {w : World} : h22_5.wp F Q env w = HC.wp F (.seq (.br (.chk none .lenL (.cons (.inp 0) .nil) (.chk none (.bin .lss) (.cons (.inp 3) (.cons (.op .lenL (.cons (.inp 0) .nil)) .nil)) (.done [] (some (.op (.bin .lss) (.cons (.inp 3) (.cons (.op .lenL (.cons (.inp 0) .nil)) .nil))))))) .skip (.exit 0)) h22_4) Q env w := rfl
def h22_6 : HC := (.loop h22_5)
@[simp] theorem h22_6_wp {P : Program} {F : PF P} {Q : EX → List Value → World → Prop} {env : List Value} {w : World} : h22_6.wp F Q env w = HC.wp F (.loop h22_5) Q env w := rfl
def h22_7 : HC := (.seq (.block 0 h22_6) h22_0)
@[simp] theorem h22_7_wp {P : Program} {F : PF P} {Q : EX → List Value → World → Prop} {env : List Value} {w : World} : h22_7.wp F Q env w = HC.wp F (.seq (.block 0 h22_6) h22_0) Q env w := rfl
def h22_8 : HC := (.seq (.reg (.done [(3, (.cst (.int .i64 0)))] none)) h22_7)
@[simp] theorem h22_8_wp {P : Program} {F : PF P} {Q : EX → List Value → World → Prop} {env : List Value} {w : World} : h22_8.wp F Q env w = HC.wp F (.seq (.reg (.done [(3, (.cst (.int .i64 0)))] none)) h22_7) Q env w := rfl
def h22_9 : HC := (.seq (.reg (.done [(2, (.cst (.bool false)))] none)) .ret)
@[simp] theorem h22_9_wp {P : Program} {F : PF P} {Q : EX → List Value → World → Prop} {env : List Value} {w : World} : h22_9.wp F Q env w = HC.wp F (.seq (.reg (.done [(2, (.cst (.bool false)))] none)) .ret) Q env w := rfl
def h22_10 : HC := (.seq (.br (.chk none .lenL (.cons (.inp 0) .nil) (.chk none .lenL (.cons (.inp 1) .nil) (.chk none (.bin .neq) (.cons (.op .lenL (.cons (.inp 0) .nil)) (.cons (.op .lenL (.cons (.inp 1) .nil)) .nil)) (.done [] (some (.op (.bin .neq) (.cons (.op .lenL (.cons (.inp 0) .nil)) (.cons (.op .lenL (.cons (.inp 1) .nil)) .nil)))))))) h22_9 .skip) h22_8)
@[simp] theorem h22_10_wp {P : Program} {F : PF P} {Q : EX → List Value → World → Prop} {env : List Value} {w : World} : h22_10.wp F Q env w = HC.wp F (.seq (.br (.chk none .lenL (.cons (.inp 0) .nil) (.chk none .lenL (.cons (.inp 1) .nil) (.chk none (.bin .neq) (.cons (.op .lenL (.cons (.inp 0) .nil)) (.cons (.op .lenL (.cons (.inp 1) .nil)) .nil)) (.done [] (some (.op (.bin .neq) (.cons (.op .lenL (.cons (.inp 0) .nil)) (.cons (.op .lenL (.cons (.inp 1) .nil)) .nil)))))))) h22_9 .skip) h22_8) Q env w := rfl
def l22 : Lifted := ⟨[0, 1, 4, 5], 26, [.slot 2], (.seq (.reg (.done [(2, (.cst (.bool false)))] none)) h22_10)⟩
theorem l22_ok : liftFn U2 22 400 = some l22 := by kernel_rfl

-- bazaar/bazaarlaw09.spoilt
def h19_0 : HC := (.reg (.chk none (.bin .add) (.cons (.inp 1) (.cons (.cst (.int .i64 1)) .nil)) (.done [(1, (.op (.bin .add) (.cons (.inp 1) (.cons (.cst (.int .i64 1)) .nil))))] none)))
@[simp] theorem h19_0_wp {P : Program} {F : PF P} {Q : EX → List Value → World → Prop} {env : List Value} {w : World} : h19_0.wp F Q env w = HC.wp F (.reg (.chk none (.bin .add) (.cons (.inp 1) (.cons (.cst (.int .i64 1)) .nil)) (.done [(1, (.op (.bin .add) (.cons (.inp 1) (.cons (.cst (.int .i64 1)) .nil))))] none))) Q env w := rfl
def h19_1 : HC := (.reg (.chk none (.build #[(.int .i64 0), (.int .i64 0)] [(0, 1), (1, 1)] [0, 1]) (.cons (.cst (.int .i64 (-7))) (.cons (.cst (.int .i64 (-7))) .nil)) (.chk none (.idxL 2) (.cons (.inp 0) (.cons (.inp 1) .nil)) (.eff (.st 2) (.cons (.op (.idxL 2) (.cons (.inp 0) (.cons (.inp 1) .nil))) (.cons (.op (.build #[(.int .i64 0), (.int .i64 0)] [(0, 1), (1, 1)] [0, 1]) (.cons (.cst (.int .i64 (-7))) (.cons (.cst (.int .i64 (-7))) .nil))) .nil)) (.done [] none)))))
@[simp] theorem h19_1_wp {P : Program} {F : PF P} {Q : EX → List Value → World → Prop} {env : List Value} {w : World} : h19_1.wp F Q env w = HC.wp F (.reg (.chk none (.build #[(.int .i64 0), (.int .i64 0)] [(0, 1), (1, 1)] [0, 1]) (.cons (.cst (.int .i64 (-7))) (.cons (.cst (.int .i64 (-7))) .nil)) (.chk none (.idxL 2) (.cons (.inp 0) (.cons (.inp 1) .nil)) (.eff (.st 2) (.cons (.op (.idxL 2) (.cons (.inp 0) (.cons (.inp 1) .nil))) (.cons (.op (.build #[(.int .i64 0), (.int .i64 0)] [(0, 1), (1, 1)] [0, 1]) (.cons (.cst (.int .i64 (-7))) (.cons (.cst (.int .i64 (-7))) .nil))) .nil)) (.done [] none))))) Q env w := rfl
def h19_2 : HC := (.seq (.block 1 h19_1) h19_0)
@[simp] theorem h19_2_wp {P : Program} {F : PF P} {Q : EX → List Value → World → Prop} {env : List Value} {w : World} : h19_2.wp F Q env w = HC.wp F (.seq (.block 1 h19_1) h19_0) Q env w := rfl
def h19_3 : HC := (.seq (.br (.chk none .lenL (.cons (.inp 0) .nil) (.chk none (.bin .lss) (.cons (.inp 1) (.cons (.op .lenL (.cons (.inp 0) .nil)) .nil)) (.done [] (some (.op (.bin .lss) (.cons (.inp 1) (.cons (.op .lenL (.cons (.inp 0) .nil)) .nil))))))) .skip (.exit 0)) h19_2)
@[simp] theorem h19_3_wp {P : Program} {F : PF P} {Q : EX → List Value → World → Prop} {env : List Value} {w : World} : h19_3.wp F Q env w = HC.wp F (.seq (.br (.chk none .lenL (.cons (.inp 0) .nil) (.chk none (.bin .lss) (.cons (.inp 1) (.cons (.op .lenL (.cons (.inp 0) .nil)) .nil)) (.done [] (some (.op (.bin .lss) (.cons (.inp 1) (.cons (.op .lenL (.cons (.inp 0) .nil)) .nil))))))) .skip (.exit 0)) h19_2) Q env w := rfl
def h19_4 : HC := (.loop h19_3)
@[simp] theorem h19_4_wp {P : Program} {F : PF P} {Q : EX → List Value → World → Prop} {env : List Value} {w : World} : h19_4.wp F Q env w = HC.wp F (.loop h19_3) Q env w := rfl
def h19_5 : HC := (.block 0 h19_4)
@[simp] theorem h19_5_wp {P : Program} {F : PF P} {Q : EX → List Value → World → Prop} {env : List Value} {w : World} : h19_5.wp F Q env w = HC.wp F (.block 0 h19_4) Q env w := rfl
def l19 : Lifted := ⟨[0, 2], 13, [], (.seq (.reg (.done [(1, (.cst (.int .i64 0)))] none)) h19_5)⟩
theorem l19_ok : liftFn U2 19 400 = some l19 := by kernel_rfl


theorem pair_eq (x y : Int × Int) : decide ([PV.int .i64 x.1, PV.int .i64 x.2] = [PV.int .i64 y.1, PV.int .i64 y.2]) = decide (x = y) := by
  cases x; cases y
  simp
theorem same_spec (x y : List (Int × Int)) (v1 v2 : Value) (w0 w : World) (A : Asn) (hx : x.length ≤ 1048576) (h1 : Row w0 A v1 x.length 2 (x.flatMap encT)) (h2 : Row w0 A v2 y.length 2 (y.flatMap encT)) (s : St w0 A w) :
    CallW Try.prog 22 [v1, v2] (fun r w' => r = .bool (x == y) ∧ St w0 A w') w := by
  obtain ⟨a1, c1, rfl⟩ := h1.val
  obtain ⟨a2, c2, rfl⟩ := h2.val
  refine callW_of_lift l22_ok (by simp [l22]) ?_
  simp [l22]
  refine cndI (fun h => ?_) (fun h => ?_)
  · simp at h
    have : (x == y) = false := by
      simp only [beq_eq_false_iff_ne]
      rintro rfl
      exact h rfl
    simp [this]
    exact s
  simp at h
  simp
  refine loopI (fun env w' => ∃ (i : Nat), env = [.slice a1 x.length c1, .slice a2 y.length c2, .bool false, .int .i64 i] ∧ i ≤ x.length ∧ x.take i = y.take i ∧ St w0 A w')
    (fun env _ => x.length - slotN env 3) ⟨0, rfl, by omega, rfl, s⟩ ?_
  rintro LQ env w' ⟨i, rfl, hi, ht, s'⟩ hN hE hR
  simp
  refine cndI (fun h3 => ?_) (fun h3 => ?_)
  · simp at h3
    obtain ⟨g1, o1, c1', e1, k1⟩ := h1.at (by omega)
    cases e1
    obtain ⟨g2, o2, c2', e2, k2⟩ := h2.at (by omega)
    cases e2
    have hy : i < y.length := by omega
    refine brqI s' ?_
    simp [h3]
    refine effq_ldcs (vs := encT x[i]) (fun w s j u hu => by rw [Nat.add_assoc]; exact k1 w s _ _ (flatT_at h3 j u hu)) rfl ?_
    simp [hy]
    refine effq_ldcs (vs := encT y[i]) (fun w s j u hu => by rw [Nat.add_assoc]; exact k2 w s _ _ (flatT_at hy j u hu)) rfl ?_
    simp
    refine effq_neqP tmT [.int .i64 x[i].1, .int .i64 x[i].2] [.int .i64 y[i].1, .int .i64 y[i].2] rfl rfl ?_
    rw [pair_eq]
    simp
    intro w2 s2
    refine cndI (fun h4 => ?_) (fun h4 => ?_)
    · simp at h4
      have : (x == y) = false := by
        simp only [beq_eq_false_iff_ne]
        rintro rfl
        exact h4 rfl
      simp
      refine hR _ _ ?_
      simp [this]
      exact s2
    · simp at h4
      simp [thenQ]
      try simp (disch := omega) only [wrap64]
      refine hN _ _ ⟨i + 1, by simp, by omega, ?_, s2⟩ (by simp [slotN]; omega)
      rw [List.take_succ_eq_append_getElem h3, List.take_succ_eq_append_getElem hy, ht, h4]
  · simp at h3
    simp
    refine hE _ _ _ ?_
    simp
    have e : i = x.length := by omega
    have e2 : i = y.length := by omega
    rw [e, List.take_length, ← e, e2, List.take_length] at ht
    subst ht
    simp
    exact s'
theorem spoilt_spec (l : List (Int × Int)) (v : Value) (w0 w : World) (A : Asn) {K : Value → World → Prop} (hl : l.length ≤ 1048576) (s : St w0 (A * outs v l) w)
    (hk : ∀ r w', St w0 (A * outs v (l.map fun _ => (-7, -7))) w' → K r w') :
    CallW Try.prog 19 [v] K w := by
  obtain ⟨va, vc, rfl, _⟩ := s.own_val
  refine callW_of_lift l19_ok (by simp [l19]) ?_
  simp [l19]
  refine loopI (fun env w' => ∃ (k : Nat) (gs : List (Int × Int)), env = [.slice va l.length vc, .int .i64 k] ∧ k ≤ l.length ∧ gs.length = l.length ∧ (∀ j, j < k → gs[j]? = some (-7, -7)) ∧
      St w0 (A * own 32 2 (.slice va l.length vc) l.length (gs.flatMap encT)) w')
    (fun env _ => l.length - slotN env 1) ⟨0, l, rfl, by omega, rfl, fun j hj => by omega, s⟩ ?_
  clear s
  rintro LQ env w' ⟨k, gs, rfl, hk', hgs, hm, s'⟩ hN hE hR
  simp
  refine cndI (fun h => ?_) (fun h => ?_)
  · simp at h
    obtain ⟨g, cap, hv, _⟩ := s'.own_at (by omega)
    cases hv
    simp [h, Instr.fill, Value.cells]
    have hfl : (gs.flatMap encT).length = gs.length * 2 := flat_length encT 2 (fun _ => rfl) gs
    refine eff_stR (vs := encT (-7, -7)) s' rfl rfl (encT_one _) (by omega) ?_
    intro w3 s3
    rw [flat_set encT 2 (fun _ => rfl) _ gs k (by omega)] at s3
    simp
    try simp (disch := omega) only [wrap64]
    refine hN _ _ ⟨k + 1, gs.set k (-7, -7), by simp, by omega, by simp [hgs], fun j hj => ?_, s3⟩ (by simp [slotN]; omega)
    by_cases e : j = k
    · subst e; rw [List.getElem?_set_self (by omega)]
    · rw [List.getElem?_set_ne (by omega)]; exact hm j (by omega)
  · simp at h
    simp
    refine hE _ _ _ ?_
    simp
    refine hk _ _ ?_
    have e : gs = l.map fun _ => ((-7 : Int), (-7 : Int)) := by
      apply List.ext_getElem?
      intro j
      by_cases hj : j < l.length
      · rw [hm j (by omega)]; simp [hj]
      · rw [List.getElem?_eq_none (by omega), List.getElem?_eq_none (by simp; omega)]
    rw [← e]
    show St w0 (A * own _ 2 _ gs.length (gs.flatMap encT)) w'
    rw [hgs]
    exact s'
abbrev QO (w0 : World) (A : Asn) : EX → List Value → World → Prop := endQ Try.prog [.slot 3] fun r w' => r = .bool true ∧ St w0 A w'
def lastO (A B : Asn) (w0 : World) (RR AL : List (Int × Int)) (z : List Int) : List Value → World → Prop
  | [], w => St w0 B w
  | [r0], w => St w0 (B * outs r0 RR) w
  | [_, r1], w => r1 = .bool true ∧ St w0 B w
  | [_, _, r2], w => St w0 (B * outs r2 AL) w
  | [_, _, _, r3], w => r3 = .bool true ∧ St w0 B w
  | [_, _, _, _, r4], w => St w0 (B * intsA r4 z) w
  | [_, _, _, _, _, r5], w => r5 = .bool true ∧ St w0 A w
  | _, _ => False
theorem lastO_base {A B : Asn} {w0 : World} {RR AL : List (Int × Int)} {z : List Int} {vs : List Value} {R : World → Prop} (hv : vs.length < 6) (h : ∀ w, St w0 B w → R w) : ∀ vs' w, era 6 vs' = era 6 vs → lastO A B w0 RR AL z vs' w → R w := by
  intro vs' w he hw
  match vs', hw with
  | [], hw => exact h w hw
  | [_], hw => exact h w hw.drop
  | [_, _], hw => exact h w hw.2
  | [_, _, _], hw => exact h w (St.drop hw)
  | [_, _, _, _], hw => exact h w hw.2
  | [_, _, _, _, _], hw => exact h w (St.drop hw)
  | [_, _, _, _, _, _], hw => simp [era] at he; omega
theorem own_last (p q c T T2 nw m1 m2 m3 : Nat) (W W2 : Nat → Value) (Y : Nat → List (Int × Int)) (Z : Nat → List Int) (ts us cs : List Tm) (w0 w : World) (A A0 : Asn) (x0 x1 x4 x5 x7 x9 x11 x12 x13 x14 x15 x16 x17 x18 x19 x20 x21 : Value) (hA : ∀ w, St w0 A w → St w0 A0 w)
    (ha : plOK T ts) (hla : ts.length ≤ 65536) (hlc : cs.length ≤ 65536)
    (y2 : Y 2 = sortT (ts.map tmr)) (y5 : Y 5 = sortT (cs.map tmr)) (z0 : Z 0 = ldF T (ts.map tmr) 0)
    (h16 : Row w0 A x16 6 1 ((List.range 6).map W)) (h17 : Row w0 A x17 5 1 ((List.range 5).map W2))
    (hW : ∀ j, j < 6 → Row w0 A (W j) (Y j).length 2 (flat (Y j))) (hW2 : ∀ j, j < 5 → Row w0 A (W2 j) (Z j).length 1 (ints (Z j)))
    (s : St w0 (A * whl p T m1 ts * whl q T2 m2 us * whl c nw m3 cs) w) :
    h4_0.wp U2 (QO w0 A0) [x0, x1, .int .i64 T, .bool false, x4, x5, .pointer (some ⟨p, 0, none⟩), x7, .pointer (some ⟨q, 0, none⟩), x9, .pointer (some ⟨c, 0, none⟩), x11, x12, x13, x14, x15, x16, x17, x18, x19, x20, x21] w := by
  obtain ⟨g, o, cap, rfl, hc⟩ := h16.at (by omega)
  obtain ⟨g2, o2, cap2, rfl, hc2⟩ := h17.at (by omega)
  obtain ⟨RR, hRR⟩ : ∃ RR, sortT (ts.map tmr) = RR := ⟨_, rfl⟩
  obtain ⟨AL, hAL⟩ : ∃ AL, sortT (cs.map tmr) = AL := ⟨_, rfl⟩
  obtain ⟨z, hz⟩ : ∃ z, ldF T (ts.map tmr) 0 = z := ⟨_, rfl⟩
  have lR : RR.length ≤ 65536 := by rw [← hRR, sortT_len, List.length_map]; exact hla
  have lA : AL.length ≤ 65536 := by rw [← hAL, sortT_len, List.length_map]; exact hlc
  have lz : z.length ≤ 64 := hz ▸ ldF_len T (ts.map tmr) 0
  have r2 := hW 2 (by decide)
  have r5 := hW 5 (by decide)
  have q0 := hW2 0 (by decide)
  rw [y2, hRR] at r2
  rw [y5, hAL] at r5
  rw [z0, hz] at q0
  obtain ⟨B, hB⟩ : ∃ B, A * whl p T m1 ts * whl q T2 m2 us * whl c nw m3 cs = B := ⟨_, rfl⟩
  have toA : ∀ w, St w0 B w → St w0 A w := fun w s => by rw [← hB] at s; exact s.drop.drop.drop
  rw [hB] at s
  simp
  refine regmI (lastO A0 B w0 RR AL z) s.drew ?_
  simp
  refine effm_mv rfl (fun w hw => eff_call (All_spec p T m1 ts w0 w (A * whl q T2 m2 us * whl c nw m3 cs) hla (St.to hw (by rw [← hB]; ac_rfl)) fun r w' h => ?_)) (fun r0 _ => ?_)
  · rw [hRR] at h
    show St w0 (B * outs r RR) w'
    rw [← hB]
    exact h.to (by ac_rfl)
  simp
  refine effm_ldc (v := W 2) (lastO_base (by simp) fun w s => hc w (toA w s) 2 _ (range_at (by omega))) ?_
  simp
  refine effm_mv rfl (fun w s => eff_call ((same_spec RR RR r0 (W 2) w0 w (B * outs r0 RR) (by omega) (row_own s) (r2.mono fun w s => toA w s.drop) s).mono fun r w' h => ?_)) (fun r1 h1 => ?_)
  · obtain ⟨rfl, h⟩ := h; exact ⟨by simp, h.drop⟩
  obtain ⟨_, rfl, _⟩ := h1
  simp
  refine effm_mv rfl (fun w hw => eff_call (All_spec c nw m3 cs w0 w (A * whl p T m1 ts * whl q T2 m2 us) hlc (St.to hw.2 (by rw [← hB])) fun r w' h => ?_)) (fun r2' _ => ?_)
  · rw [hAL] at h
    show St w0 (B * outs r AL) w'
    rw [← hB]
    exact h
  simp
  refine effm_ldc (v := W 5) (lastO_base (by simp) fun w s => hc w (toA w s) 5 _ (range_at (by omega))) ?_
  simp
  refine effm_mv rfl (fun w s => eff_call ((same_spec AL AL r2' (W 5) w0 w (B * outs r2' AL) (by omega) (row_own s) (r5.mono fun w s => toA w s.drop) s).mono fun r w' h => ?_)) (fun r3 h3 => ?_)
  · obtain ⟨rfl, h⟩ := h; exact ⟨by simp, h.drop⟩
  obtain ⟨_, rfl, _⟩ := h3
  simp
  refine effm_mv rfl (fun w hw => eff_call (Load_spec p T m1 ts 0 w0 w (A * whl q T2 m2 us * whl c nw m3 cs) ha hla (St.to hw.2 (by rw [← hB]; ac_rfl)) fun r w' h => ?_)) (fun r4 _ => ?_)
  · rw [hz] at h
    show St w0 (B * intsA r z) w'
    rw [← hB]
    exact h.to (by ac_rfl)
  simp
  refine effm_ldc (v := W2 0) (lastO_base (by simp) fun w s => hc2 w (toA w s) 0 _ (range_at (by omega))) ?_
  simp
  refine effm_mv rfl (fun w s => eff_call ((ints_spec z z r4 (W2 0) w0 w (B * intsA r4 z) (by omega) (row_own s) (q0.mono fun w s => toA w s.drop) s).mono fun r w' h => ?_)) (fun r5 h5 => ?_)
  · obtain ⟨rfl, h⟩ := h; exact ⟨by simp, hA _ (toA _ h.drop)⟩
  obtain ⟨_, rfl, _⟩ := h5
  simp
  intro w9 h9
  exact h9.2
end Go.HL.Wh
