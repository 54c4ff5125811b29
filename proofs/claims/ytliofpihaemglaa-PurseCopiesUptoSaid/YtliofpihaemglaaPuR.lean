/-
  Purse: the law PurseCopies: the walk. Conditions: texts within bounds.
-/
import Derived.Test.YtliofpihaemglaaPuQ
import Derived.Test.YtliofpihaemglaaPuK
namespace Go.HL.Pu
open Go.HL Go.HL.Nm Go.Proofs
set_option maxRecDepth 4000
set_option linter.unusedSimpArgs false
set_option linter.unusedVariables false
-- bazaar/bazaarlaw14.PurseCopies
def h7_0 : HC := (.seq (.reg (.eff (.call 29) (.cons (.inp 9) .nil) (.eff (.call 43) (.cons (.bv 0) (.cons (.inp 13) .nil)) (.ite (.bv 1) true (.eff (.call 37) (.cons (.ite (.bv 1) true (.inp 9) (.cst (.tuple #[]))) .nil) (.chk none (.bin .eql) (.cons (.bv 2) (.cons (.inp 14) .nil)) (.isb none (.bv 1) (.done [(4, (.op (.bin .eql) (.cons (.bv 2) (.cons (.inp 14) .nil))))] none)))) (.isb none (.bv 1) (.done [(4, (.cst (.bool false)))] none)))))) .ret)
@[simp] theorem h7_0_wp {P : Program} {F : PF P} {Q : EX → List Value → World → Prop} {env : List Value} {w : World} : h7_0.wp F Q env w = HC.wp F (.seq (.reg (.eff (.call 29) (.cons (.inp 9) .nil) (.eff (.call 43) (.cons (.bv 0) (.cons (.inp 13) .nil)) (.ite (.bv 1) true (.eff (.call 37) (.cons (.ite (.bv 1) true (.inp 9) (.cst (.tuple #[]))) .nil) (.chk none (.bin .eql) (.cons (.bv 2) (.cons (.inp 14) .nil)) (.isb none (.bv 1) (.done [(4, (.op (.bin .eql) (.cons (.bv 2) (.cons (.inp 14) .nil))))] none)))) (.isb none (.bv 1) (.done [(4, (.cst (.bool false)))] none)))))) .ret) Q env w := rfl
def h7_1 : HC := (.reg (.chk none (.bin .add) (.cons (.inp 15) (.cons (.cst (.int .i64 1)) .nil)) (.done [(15, (.op (.bin .add) (.cons (.inp 15) (.cons (.cst (.int .i64 1)) .nil))))] none)))
@[simp] theorem h7_1_wp {P : Program} {F : PF P} {Q : EX → List Value → World → Prop} {env : List Value} {w : World} : h7_1.wp F Q env w = HC.wp F (.reg (.chk none (.bin .add) (.cons (.inp 15) (.cons (.cst (.int .i64 1)) .nil)) (.done [(15, (.op (.bin .add) (.cons (.inp 15) (.cons (.cst (.int .i64 1)) .nil))))] none))) Q env w := rfl
def h7_2 : HC := (.seq (.reg (.done [(4, (.cst (.bool false)))] none)) .ret)
@[simp] theorem h7_2_wp {P : Program} {F : PF P} {Q : EX → List Value → World → Prop} {env : List Value} {w : World} : h7_2.wp F Q env w = HC.wp F (.seq (.reg (.done [(4, (.cst (.bool false)))] none)) .ret) Q env w := rfl
def h7_3 : HC := (.br (.chk none (.bin .neq) (.cons (.inp 16) (.cons (.inp 17) .nil)) (.bnd (.op (.bin .neq) (.cons (.inp 16) (.cons (.inp 17) .nil))) (.chk (some ((.bv 0), false)) (.bin .neq) (.cons (.inp 16) (.cons (.inp 18) .nil)) (.isb none (.bv 0) (.bnd (.ite (.bv 0) true (.cst (.bool true)) (.op (.bin .neq) (.cons (.inp 16) (.cons (.inp 18) .nil)))) (.ite (.bv 1) false (.eff (.call 29) (.cons (.ite (.bv 1) false (.inp 5) (.cst (.tuple #[]))) .nil) (.eff (.call 29) (.cons (.inp 10) .nil) (.eff (.call 43) (.cons (.bv 2) (.cons (.bv 3) .nil)) (.chk none (.un .not) (.cons (.bv 4) .nil) (.isb none (.bv 1) (.bnd (.op (.un .not) (.cons (.bv 4) .nil)) (.ite (.bv 5) false (.eff (.call 29) (.cons (.ite (.bv 5) false (.inp 5) (.cst (.tuple #[]))) .nil) (.eff (.call 29) (.cons (.inp 11) .nil) (.eff (.call 43) (.cons (.bv 6) (.cons (.bv 7) .nil)) (.chk none (.un .not) (.cons (.bv 8) .nil) (.isb none (.bv 5) (.bnd (.op (.un .not) (.cons (.bv 8) .nil)) (.ite (.bv 9) false (.eff (.call 37) (.cons (.ite (.bv 9) false (.inp 5) (.cst (.tuple #[]))) .nil) (.eff (.call 37) (.cons (.inp 10) .nil) (.chk none (.bin .neq) (.cons (.bv 10) (.cons (.bv 11) .nil)) (.isb none (.bv 9) (.bnd (.op (.bin .neq) (.cons (.bv 10) (.cons (.bv 11) .nil))) (.ite (.bv 12) false (.eff (.call 37) (.cons (.ite (.bv 12) false (.inp 5) (.cst (.tuple #[]))) .nil) (.eff (.call 37) (.cons (.inp 11) .nil) (.chk none (.bin .neq) (.cons (.bv 13) (.cons (.bv 14) .nil)) (.isb none (.bv 12) (.bnd (.op (.bin .neq) (.cons (.bv 13) (.cons (.bv 14) .nil))) (.ite (.bv 15) false (.eff (.call 30) (.cons (.ite (.bv 15) false (.inp 5) (.cst (.tuple #[]))) .nil) (.eff (.call 30) (.cons (.inp 10) .nil) (.chk none (.bin .neq) (.cons (.bv 16) (.cons (.bv 17) .nil)) (.isb none (.bv 15) (.bnd (.op (.bin .neq) (.cons (.bv 16) (.cons (.bv 17) .nil))) (.ite (.bv 18) false (.eff (.call 30) (.cons (.ite (.bv 18) false (.inp 5) (.cst (.tuple #[]))) .nil) (.eff (.call 30) (.cons (.inp 11) .nil) (.chk none (.bin .neq) (.cons (.bv 19) (.cons (.bv 20) .nil)) (.isb none (.bv 18) (.done [] (some (.op (.bin .neq) (.cons (.bv 19) (.cons (.bv 20) .nil))))))))) (.isb none (.bv 18) (.done [] (some (.cst (.bool true))))))))))) (.isb none (.bv 15) (.isb none (.cst (.bool true)) (.done [] (some (.cst (.bool true)))))))))))) (.isb none (.bv 12) (.isb none (.cst (.bool true)) (.isb none (.cst (.bool true)) (.done [] (some (.cst (.bool true))))))))))))) (.isb none (.bv 9) (.isb none (.cst (.bool true)) (.isb none (.cst (.bool true)) (.isb none (.cst (.bool true)) (.done [] (some (.cst (.bool true))))))))))))))) (.isb none (.bv 5) (.isb none (.cst (.bool true)) (.isb none (.cst (.bool true)) (.isb none (.cst (.bool true)) (.isb none (.cst (.bool true)) (.done [] (some (.cst (.bool true)))))))))))))))) (.isb none (.bv 1) (.isb none (.cst (.bool true)) (.isb none (.cst (.bool true)) (.isb none (.cst (.bool true)) (.isb none (.cst (.bool true)) (.isb none (.cst (.bool true)) (.done [] (some (.cst (.bool true)))))))))))))))) h7_2 .skip)
@[simp] theorem h7_3_wp {P : Program} {F : PF P} {Q : EX → List Value → World → Prop} {env : List Value} {w : World} : h7_3.wp F Q env w = HC.wp F (.br (.chk none (.bin .neq) (.cons (.inp 16) (.cons (.inp 17) .nil)) (.bnd (.op (.bin .neq) (.cons (.inp 16) (.cons (.inp 17) .nil))) (.chk (some ((.bv 0), false)) (.bin .neq) (.cons (.inp 16) (.cons (.inp 18) .nil)) (.isb none (.bv 0) (.bnd (.ite (.bv 0) true (.cst (.bool true)) (.op (.bin .neq) (.cons (.inp 16) (.cons (.inp 18) .nil)))) (.ite (.bv 1) false (.eff (.call 29) (.cons (.ite (.bv 1) false (.inp 5) (.cst (.tuple #[]))) .nil) (.eff (.call 29) (.cons (.inp 10) .nil) (.eff (.call 43) (.cons (.bv 2) (.cons (.bv 3) .nil)) (.chk none (.un .not) (.cons (.bv 4) .nil) (.isb none (.bv 1) (.bnd (.op (.un .not) (.cons (.bv 4) .nil)) (.ite (.bv 5) false (.eff (.call 29) (.cons (.ite (.bv 5) false (.inp 5) (.cst (.tuple #[]))) .nil) (.eff (.call 29) (.cons (.inp 11) .nil) (.eff (.call 43) (.cons (.bv 6) (.cons (.bv 7) .nil)) (.chk none (.un .not) (.cons (.bv 8) .nil) (.isb none (.bv 5) (.bnd (.op (.un .not) (.cons (.bv 8) .nil)) (.ite (.bv 9) false (.eff (.call 37) (.cons (.ite (.bv 9) false (.inp 5) (.cst (.tuple #[]))) .nil) (.eff (.call 37) (.cons (.inp 10) .nil) (.chk none (.bin .neq) (.cons (.bv 10) (.cons (.bv 11) .nil)) (.isb none (.bv 9) (.bnd (.op (.bin .neq) (.cons (.bv 10) (.cons (.bv 11) .nil))) (.ite (.bv 12) false (.eff (.call 37) (.cons (.ite (.bv 12) false (.inp 5) (.cst (.tuple #[]))) .nil) (.eff (.call 37) (.cons (.inp 11) .nil) (.chk none (.bin .neq) (.cons (.bv 13) (.cons (.bv 14) .nil)) (.isb none (.bv 12) (.bnd (.op (.bin .neq) (.cons (.bv 13) (.cons (.bv 14) .nil))) (.ite (.bv 15) false (.eff (.call 30) (.cons (.ite (.bv 15) false (.inp 5) (.cst (.tuple #[]))) .nil) (.eff (.call 30) (.cons (.inp 10) .nil) (.chk none (.bin .neq) (.cons (.bv 16) (.cons (.bv 17) .nil)) (.isb none (.bv 15) (.bnd (.op (.bin .neq) (.cons (.bv 16) (.cons (.bv 17) .nil))) (.ite (.bv 18) false (.eff (.call 30) (.cons (.ite (.bv 18) false (.inp 5) (.cst (.tuple #[]))) .nil) (.eff (.call 30) (.cons (.inp 11) .nil) (.chk none (.bin .neq) (.cons (.bv 19) (.cons (.bv 20) .nil)) (.isb none (.bv 18) (.done [] (some (.op (.bin .neq) (.cons (.bv 19) (.cons (.bv 20) .nil))))))))) (.isb none (.bv 18) (.done [] (some (.cst (.bool true))))))))))) (.isb none (.bv 15) (.isb none (.cst (.bool true)) (.done [] (some (.cst (.bool true)))))))))))) (.isb none (.bv 12) (.isb none (.cst (.bool true)) (.isb none (.cst (.bool true)) (.done [] (some (.cst (.bool true))))))))))))) (.isb none (.bv 9) (.isb none (.cst (.bool true)) (.isb none (.cst (.bool true)) (.isb none (.cst (.bool true)) (.done [] (some (.cst (.bool true))))))))))))))) (.isb none (.bv 5) (.isb none (.cst (.bool true)) (.isb none (.cst (.bool true)) (.isb none (.cst (.bool true)) (.isb none (.cst (.bool true)) (.done [] (some (.cst (.bool true)))))))))))))))) (.isb none (.bv 1) (.isb none (.cst (.bool true)) (.isb none (.cst (.bool true)) (.isb none (.cst (.bool true)) (.isb none (.cst (.bool true)) (.isb none (.cst (.bool true)) (.done [] (some (.cst (.bool true)))))))))))))))) h7_2 .skip) Q env w := rfl
def h7_4 : HC := (.seq (.reg (.chk none (.idxL 6) (.cons (.inp 3) (.cons (.inp 15) .nil)) (.eff (.ld true 6) (.cons (.op (.idxL 6) (.cons (.inp 3) (.cons (.inp 15) .nil))) .nil) (.eff (.call 40) (.cons (.inp 11) (.cons (.bv 0) .nil)) (.done [(18, (.bv 1))] none))))) h7_3)
@[simp] theorem h7_4_wp {P : Program} {F : PF P} {Q : EX → List Value → World → Prop} {env : List Value} {w : World} : h7_4.wp F Q env w = HC.wp F (.seq (.reg (.chk none (.idxL 6) (.cons (.inp 3) (.cons (.inp 15) .nil)) (.eff (.ld true 6) (.cons (.op (.idxL 6) (.cons (.inp 3) (.cons (.inp 15) .nil))) .nil) (.eff (.call 40) (.cons (.inp 11) (.cons (.bv 0) .nil)) (.done [(18, (.bv 1))] none))))) h7_3) Q env w := rfl
def h7_5 : HC := (.seq (.reg (.chk none (.idxL 6) (.cons (.inp 3) (.cons (.inp 15) .nil)) (.eff (.ld true 6) (.cons (.op (.idxL 6) (.cons (.inp 3) (.cons (.inp 15) .nil))) .nil) (.eff (.call 40) (.cons (.inp 10) (.cons (.bv 0) .nil)) (.done [(17, (.bv 1))] none))))) h7_4)
@[simp] theorem h7_5_wp {P : Program} {F : PF P} {Q : EX → List Value → World → Prop} {env : List Value} {w : World} : h7_5.wp F Q env w = HC.wp F (.seq (.reg (.chk none (.idxL 6) (.cons (.inp 3) (.cons (.inp 15) .nil)) (.eff (.ld true 6) (.cons (.op (.idxL 6) (.cons (.inp 3) (.cons (.inp 15) .nil))) .nil) (.eff (.call 40) (.cons (.inp 10) (.cons (.bv 0) .nil)) (.done [(17, (.bv 1))] none))))) h7_4) Q env w := rfl
def h7_6 : HC := (.seq (.reg (.chk none (.idxL 6) (.cons (.inp 3) (.cons (.inp 15) .nil)) (.eff (.ld true 6) (.cons (.op (.idxL 6) (.cons (.inp 3) (.cons (.inp 15) .nil))) .nil) (.eff (.call 40) (.cons (.inp 5) (.cons (.bv 0) .nil)) (.done [(16, (.bv 1))] none))))) h7_5)
@[simp] theorem h7_6_wp {P : Program} {F : PF P} {Q : EX → List Value → World → Prop} {env : List Value} {w : World} : h7_6.wp F Q env w = HC.wp F (.seq (.reg (.chk none (.idxL 6) (.cons (.inp 3) (.cons (.inp 15) .nil)) (.eff (.ld true 6) (.cons (.op (.idxL 6) (.cons (.inp 3) (.cons (.inp 15) .nil))) .nil) (.eff (.call 40) (.cons (.inp 5) (.cons (.bv 0) .nil)) (.done [(16, (.bv 1))] none))))) h7_5) Q env w := rfl
def h7_7 : HC := (.seq (.block 5 h7_6) h7_1)
@[simp] theorem h7_7_wp {P : Program} {F : PF P} {Q : EX → List Value → World → Prop} {env : List Value} {w : World} : h7_7.wp F Q env w = HC.wp F (.seq (.block 5 h7_6) h7_1) Q env w := rfl
def h7_8 : HC := (.seq (.br (.chk none .lenL (.cons (.inp 3) .nil) (.chk none (.bin .lss) (.cons (.inp 15) (.cons (.op .lenL (.cons (.inp 3) .nil)) .nil)) (.done [] (some (.op (.bin .lss) (.cons (.inp 15) (.cons (.op .lenL (.cons (.inp 3) .nil)) .nil))))))) .skip (.exit 4)) h7_7)
@[simp] theorem h7_8_wp {P : Program} {F : PF P} {Q : EX → List Value → World → Prop} {env : List Value} {w : World} : h7_8.wp F Q env w = HC.wp F (.seq (.br (.chk none .lenL (.cons (.inp 3) .nil) (.chk none (.bin .lss) (.cons (.inp 15) (.cons (.op .lenL (.cons (.inp 3) .nil)) .nil)) (.done [] (some (.op (.bin .lss) (.cons (.inp 15) (.cons (.op .lenL (.cons (.inp 3) .nil)) .nil))))))) .skip (.exit 4)) h7_7) Q env w := rfl
def h7_9 : HC := (.loop h7_8)
@[simp] theorem h7_9_wp {P : Program} {F : PF P} {Q : EX → List Value → World → Prop} {env : List Value} {w : World} : h7_9.wp F Q env w = HC.wp F (.loop h7_8) Q env w := rfl
def h7_10 : HC := (.seq (.block 4 h7_9) h7_0)
@[simp] theorem h7_10_wp {P : Program} {F : PF P} {Q : EX → List Value → World → Prop} {env : List Value} {w : World} : h7_10.wp F Q env w = HC.wp F (.seq (.block 4 h7_9) h7_0) Q env w := rfl
def h7_11 : HC := (.seq (.reg (.done [(15, (.cst (.int .i64 0)))] none)) h7_10)
@[simp] theorem h7_11_wp {P : Program} {F : PF P} {Q : EX → List Value → World → Prop} {env : List Value} {w : World} : h7_11.wp F Q env w = HC.wp F (.seq (.reg (.done [(15, (.cst (.int .i64 0)))] none)) h7_10) Q env w := rfl
def h7_12 : HC := (.seq (.reg (.eff (.call 37) (.cons (.inp 5) .nil) (.done [(14, (.bv 0))] none))) h7_11)
@[simp] theorem h7_12_wp {P : Program} {F : PF P} {Q : EX → List Value → World → Prop} {env : List Value} {w : World} : h7_12.wp F Q env w = HC.wp F (.seq (.reg (.eff (.call 37) (.cons (.inp 5) .nil) (.done [(14, (.bv 0))] none))) h7_11) Q env w := rfl
def h7_13 : HC := (.seq (.reg (.eff (.call 29) (.cons (.inp 5) .nil) (.done [(13, (.bv 0))] none))) h7_12)
@[simp] theorem h7_13_wp {P : Program} {F : PF P} {Q : EX → List Value → World → Prop} {env : List Value} {w : World} : h7_13.wp F Q env w = HC.wp F (.seq (.reg (.eff (.call 29) (.cons (.inp 5) .nil) (.done [(13, (.bv 0))] none))) h7_12) Q env w := rfl
def h7_14 : HC := (.seq (.reg (.done [(4, (.cst (.bool false)))] none)) .ret)
@[simp] theorem h7_14_wp {P : Program} {F : PF P} {Q : EX → List Value → World → Prop} {env : List Value} {w : World} : h7_14.wp F Q env w = HC.wp F (.seq (.reg (.done [(4, (.cst (.bool false)))] none)) .ret) Q env w := rfl
def h7_15 : HC := (.seq (.br (.chk none (.cal 10) (.cons (.inp 12) .nil) (.chk none (.bin .neq) (.cons (.op (.cal 10) (.cons (.inp 12) .nil)) (.cons (.cst (.int .i64 0)) .nil)) (.bnd (.op (.bin .neq) (.cons (.op (.cal 10) (.cons (.inp 12) .nil)) (.cons (.cst (.int .i64 0)) .nil))) (.chk (some ((.bv 0), false)) (.eqNil false (.pointer 81) (.pointer none)) (.cons (.inp 10) .nil) (.isb none (.bv 0) (.bnd (.ite (.bv 0) true (.cst (.bool true)) (.op (.eqNil false (.pointer 81) (.pointer none)) (.cons (.inp 10) .nil))) (.chk (some ((.bv 1), false)) (.eqNil false (.pointer 81) (.pointer none)) (.cons (.inp 9) .nil) (.isb none (.bv 1) (.bnd (.ite (.bv 1) true (.cst (.bool true)) (.op (.eqNil false (.pointer 81) (.pointer none)) (.cons (.inp 9) .nil))) (.chk (some ((.bv 2), false)) (.eqNil false (.pointer 81) (.pointer none)) (.cons (.inp 11) .nil) (.isb none (.bv 2) (.done [] (some (.ite (.bv 2) true (.cst (.bool true)) (.op (.eqNil false (.pointer 81) (.pointer none)) (.cons (.inp 11) .nil)))))))))))))))) h7_14 .skip) h7_13)
@[simp] theorem h7_15_wp {P : Program} {F : PF P} {Q : EX → List Value → World → Prop} {env : List Value} {w : World} : h7_15.wp F Q env w = HC.wp F (.seq (.br (.chk none (.cal 10) (.cons (.inp 12) .nil) (.chk none (.bin .neq) (.cons (.op (.cal 10) (.cons (.inp 12) .nil)) (.cons (.cst (.int .i64 0)) .nil)) (.bnd (.op (.bin .neq) (.cons (.op (.cal 10) (.cons (.inp 12) .nil)) (.cons (.cst (.int .i64 0)) .nil))) (.chk (some ((.bv 0), false)) (.eqNil false (.pointer 81) (.pointer none)) (.cons (.inp 10) .nil) (.isb none (.bv 0) (.bnd (.ite (.bv 0) true (.cst (.bool true)) (.op (.eqNil false (.pointer 81) (.pointer none)) (.cons (.inp 10) .nil))) (.chk (some ((.bv 1), false)) (.eqNil false (.pointer 81) (.pointer none)) (.cons (.inp 9) .nil) (.isb none (.bv 1) (.bnd (.ite (.bv 1) true (.cst (.bool true)) (.op (.eqNil false (.pointer 81) (.pointer none)) (.cons (.inp 9) .nil))) (.chk (some ((.bv 2), false)) (.eqNil false (.pointer 81) (.pointer none)) (.cons (.inp 11) .nil) (.isb none (.bv 2) (.done [] (some (.ite (.bv 2) true (.cst (.bool true)) (.op (.eqNil false (.pointer 81) (.pointer none)) (.cons (.inp 11) .nil)))))))))))))))) h7_14 .skip) h7_13) Q env w := rfl
def h7_16 : HC := (.seq (.reg (.eff (.call 28) (.cons (.inp 5) .nil) (.eff (.call 29) (.cons (.inp 5) .nil) (.eff (.call 30) (.cons (.inp 5) .nil) (.eff (.call 20) (.cons (.bv 0) (.cons (.bv 1) (.cons (.bv 2) .nil))) (.chk none (.ext 0) (.cons (.bv 3) .nil) (.chk none (.ext 1) (.cons (.bv 3) .nil) (.done [(11, (.op (.ext 0) (.cons (.bv 3) .nil))), (12, (.op (.ext 1) (.cons (.bv 3) .nil)))] none)))))))) h7_15)
@[simp] theorem h7_16_wp {P : Program} {F : PF P} {Q : EX → List Value → World → Prop} {env : List Value} {w : World} : h7_16.wp F Q env w = HC.wp F (.seq (.reg (.eff (.call 28) (.cons (.inp 5) .nil) (.eff (.call 29) (.cons (.inp 5) .nil) (.eff (.call 30) (.cons (.inp 5) .nil) (.eff (.call 20) (.cons (.bv 0) (.cons (.bv 1) (.cons (.bv 2) .nil))) (.chk none (.ext 0) (.cons (.bv 3) .nil) (.chk none (.ext 1) (.cons (.bv 3) .nil) (.done [(11, (.op (.ext 0) (.cons (.bv 3) .nil))), (12, (.op (.ext 1) (.cons (.bv 3) .nil)))] none)))))))) h7_15) Q env w := rfl
def h7_17 : HC := (.seq (.reg (.eff (.call 26) (.cons (.inp 5) .nil) (.done [(10, (.bv 0))] none))) h7_16)
@[simp] theorem h7_17_wp {P : Program} {F : PF P} {Q : EX → List Value → World → Prop} {env : List Value} {w : World} : h7_17.wp F Q env w = HC.wp F (.seq (.reg (.eff (.call 26) (.cons (.inp 5) .nil) (.done [(10, (.bv 0))] none))) h7_16) Q env w := rfl
def h7_18 : HC := (.seq (.reg (.eff (.call 26) (.cons (.inp 5) .nil) (.done [(9, (.bv 0))] none))) h7_17)
@[simp] theorem h7_18_wp {P : Program} {F : PF P} {Q : EX → List Value → World → Prop} {env : List Value} {w : World} : h7_18.wp F Q env w = HC.wp F (.seq (.reg (.eff (.call 26) (.cons (.inp 5) .nil) (.done [(9, (.bv 0))] none))) h7_17) Q env w := rfl
def h7_19 : HC := (.reg (.chk none (.bin .add) (.cons (.inp 8) (.cons (.cst (.int .i64 1)) .nil)) (.done [(8, (.op (.bin .add) (.cons (.inp 8) (.cons (.cst (.int .i64 1)) .nil))))] none)))
@[simp] theorem h7_19_wp {P : Program} {F : PF P} {Q : EX → List Value → World → Prop} {env : List Value} {w : World} : h7_19.wp F Q env w = HC.wp F (.reg (.chk none (.bin .add) (.cons (.inp 8) (.cons (.cst (.int .i64 1)) .nil)) (.done [(8, (.op (.bin .add) (.cons (.inp 8) (.cons (.cst (.int .i64 1)) .nil))))] none))) Q env w := rfl
def h7_20 : HC := (.reg (.chk none (.idxL 6) (.cons (.inp 2) (.cons (.inp 8) .nil)) (.eff (.ld true 6) (.cons (.op (.idxL 6) (.cons (.inp 2) (.cons (.inp 8) .nil))) .nil) (.eff (.call 40) (.cons (.inp 5) (.cons (.bv 0) .nil)) (.done [] none)))))
@[simp] theorem h7_20_wp {P : Program} {F : PF P} {Q : EX → List Value → World → Prop} {env : List Value} {w : World} : h7_20.wp F Q env w = HC.wp F (.reg (.chk none (.idxL 6) (.cons (.inp 2) (.cons (.inp 8) .nil)) (.eff (.ld true 6) (.cons (.op (.idxL 6) (.cons (.inp 2) (.cons (.inp 8) .nil))) .nil) (.eff (.call 40) (.cons (.inp 5) (.cons (.bv 0) .nil)) (.done [] none))))) Q env w := rfl
def h7_21 : HC := (.seq (.block 3 h7_20) h7_19)
@[simp] theorem h7_21_wp {P : Program} {F : PF P} {Q : EX → List Value → World → Prop} {env : List Value} {w : World} : h7_21.wp F Q env w = HC.wp F (.seq (.block 3 h7_20) h7_19) Q env w := rfl
def h7_22 : HC := (.seq (.br (.chk none .lenL (.cons (.inp 2) .nil) (.chk none (.bin .lss) (.cons (.inp 8) (.cons (.op .lenL (.cons (.inp 2) .nil)) .nil)) (.done [] (some (.op (.bin .lss) (.cons (.inp 8) (.cons (.op .lenL (.cons (.inp 2) .nil)) .nil))))))) .skip (.exit 2)) h7_21)
@[simp] theorem h7_22_wp {P : Program} {F : PF P} {Q : EX → List Value → World → Prop} {env : List Value} {w : World} : h7_22.wp F Q env w = HC.wp F (.seq (.br (.chk none .lenL (.cons (.inp 2) .nil) (.chk none (.bin .lss) (.cons (.inp 8) (.cons (.op .lenL (.cons (.inp 2) .nil)) .nil)) (.done [] (some (.op (.bin .lss) (.cons (.inp 8) (.cons (.op .lenL (.cons (.inp 2) .nil)) .nil))))))) .skip (.exit 2)) h7_21) Q env w := rfl
def h7_23 : HC := (.loop h7_22)
@[simp] theorem h7_23_wp {P : Program} {F : PF P} {Q : EX → List Value → World → Prop} {env : List Value} {w : World} : h7_23.wp F Q env w = HC.wp F (.loop h7_22) Q env w := rfl
def h7_24 : HC := (.seq (.block 2 h7_23) h7_18)
@[simp] theorem h7_24_wp {P : Program} {F : PF P} {Q : EX → List Value → World → Prop} {env : List Value} {w : World} : h7_24.wp F Q env w = HC.wp F (.seq (.block 2 h7_23) h7_18) Q env w := rfl
def h7_25 : HC := (.seq (.reg (.done [(8, (.cst (.int .i64 0)))] none)) h7_24)
@[simp] theorem h7_25_wp {P : Program} {F : PF P} {Q : EX → List Value → World → Prop} {env : List Value} {w : World} : h7_25.wp F Q env w = HC.wp F (.seq (.reg (.done [(8, (.cst (.int .i64 0)))] none)) h7_24) Q env w := rfl
def h7_26 : HC := (.reg (.chk none (.bin .add) (.cons (.inp 7) (.cons (.cst (.int .i64 1)) .nil)) (.done [(7, (.op (.bin .add) (.cons (.inp 7) (.cons (.cst (.int .i64 1)) .nil))))] none)))
@[simp] theorem h7_26_wp {P : Program} {F : PF P} {Q : EX → List Value → World → Prop} {env : List Value} {w : World} : h7_26.wp F Q env w = HC.wp F (.reg (.chk none (.bin .add) (.cons (.inp 7) (.cons (.cst (.int .i64 1)) .nil)) (.done [(7, (.op (.bin .add) (.cons (.inp 7) (.cons (.cst (.int .i64 1)) .nil))))] none))) Q env w := rfl
def h7_27 : HC := (.reg (.chk none (.idxL 1) (.cons (.inp 1) (.cons (.inp 7) .nil)) (.eff (.ld false 1) (.cons (.op (.idxL 1) (.cons (.inp 1) (.cons (.inp 7) .nil))) .nil) (.eff (.call 13) (.cons (.inp 5) (.cons (.bv 0) .nil)) (.done [] none)))))
@[simp] theorem h7_27_wp {P : Program} {F : PF P} {Q : EX → List Value → World → Prop} {env : List Value} {w : World} : h7_27.wp F Q env w = HC.wp F (.reg (.chk none (.idxL 1) (.cons (.inp 1) (.cons (.inp 7) .nil)) (.eff (.ld false 1) (.cons (.op (.idxL 1) (.cons (.inp 1) (.cons (.inp 7) .nil))) .nil) (.eff (.call 13) (.cons (.inp 5) (.cons (.bv 0) .nil)) (.done [] none))))) Q env w := rfl
def h7_28 : HC := (.seq (.block 1 h7_27) h7_26)
@[simp] theorem h7_28_wp {P : Program} {F : PF P} {Q : EX → List Value → World → Prop} {env : List Value} {w : World} : h7_28.wp F Q env w = HC.wp F (.seq (.block 1 h7_27) h7_26) Q env w := rfl
def h7_29 : HC := (.seq (.br (.chk none .lenL (.cons (.inp 1) .nil) (.chk none (.bin .lss) (.cons (.inp 7) (.cons (.op .lenL (.cons (.inp 1) .nil)) .nil)) (.done [] (some (.op (.bin .lss) (.cons (.inp 7) (.cons (.op .lenL (.cons (.inp 1) .nil)) .nil))))))) .skip (.exit 0)) h7_28)
@[simp] theorem h7_29_wp {P : Program} {F : PF P} {Q : EX → List Value → World → Prop} {env : List Value} {w : World} : h7_29.wp F Q env w = HC.wp F (.seq (.br (.chk none .lenL (.cons (.inp 1) .nil) (.chk none (.bin .lss) (.cons (.inp 7) (.cons (.op .lenL (.cons (.inp 1) .nil)) .nil)) (.done [] (some (.op (.bin .lss) (.cons (.inp 7) (.cons (.op .lenL (.cons (.inp 1) .nil)) .nil))))))) .skip (.exit 0)) h7_28) Q env w := rfl
def h7_30 : HC := (.loop h7_29)
@[simp] theorem h7_30_wp {P : Program} {F : PF P} {Q : EX → List Value → World → Prop} {env : List Value} {w : World} : h7_30.wp F Q env w = HC.wp F (.loop h7_29) Q env w := rfl
def h7_31 : HC := (.seq (.block 0 h7_30) h7_25)
@[simp] theorem h7_31_wp {P : Program} {F : PF P} {Q : EX → List Value → World → Prop} {env : List Value} {w : World} : h7_31.wp F Q env w = HC.wp F (.seq (.block 0 h7_30) h7_25) Q env w := rfl
def h7_32 : HC := (.seq (.reg (.done [(7, (.cst (.int .i64 0)))] none)) h7_31)
@[simp] theorem h7_32_wp {P : Program} {F : PF P} {Q : EX → List Value → World → Prop} {env : List Value} {w : World} : h7_32.wp F Q env w = HC.wp F (.seq (.reg (.done [(7, (.cst (.int .i64 0)))] none)) h7_31) Q env w := rfl
def h7_33 : HC := (.seq (.reg (.chk none (.eqNil false (.pointer 81) (.pointer none)) (.cons (.inp 5) .nil) (.done [(4, (.op (.eqNil false (.pointer 81) (.pointer none)) (.cons (.inp 5) .nil)))] none))) .ret)
@[simp] theorem h7_33_wp {P : Program} {F : PF P} {Q : EX → List Value → World → Prop} {env : List Value} {w : World} : h7_33.wp F Q env w = HC.wp F (.seq (.reg (.chk none (.eqNil false (.pointer 81) (.pointer none)) (.cons (.inp 5) .nil) (.done [(4, (.op (.eqNil false (.pointer 81) (.pointer none)) (.cons (.inp 5) .nil)))] none))) .ret) Q env w := rfl
def h7_34 : HC := (.seq (.br (.chk none (.cal 10) (.cons (.inp 6) .nil) (.chk none (.bin .neq) (.cons (.op (.cal 10) (.cons (.inp 6) .nil)) (.cons (.cst (.int .i64 0)) .nil)) (.done [] (some (.op (.bin .neq) (.cons (.op (.cal 10) (.cons (.inp 6) .nil)) (.cons (.cst (.int .i64 0)) .nil))))))) h7_33 .skip) h7_32)
@[simp] theorem h7_34_wp {P : Program} {F : PF P} {Q : EX → List Value → World → Prop} {env : List Value} {w : World} : h7_34.wp F Q env w = HC.wp F (.seq (.br (.chk none (.cal 10) (.cons (.inp 6) .nil) (.chk none (.bin .neq) (.cons (.op (.cal 10) (.cons (.inp 6) .nil)) (.cons (.cst (.int .i64 0)) .nil)) (.done [] (some (.op (.bin .neq) (.cons (.op (.cal 10) (.cons (.inp 6) .nil)) (.cons (.cst (.int .i64 0)) .nil))))))) h7_33 .skip) h7_32) Q env w := rfl
def h7_35 : HC := (.seq (.reg (.eff (.call 9) (.cons (.inp 0) .nil) (.chk none (.ext 0) (.cons (.bv 0) .nil) (.chk none (.ext 1) (.cons (.bv 0) .nil) (.done [(5, (.op (.ext 0) (.cons (.bv 0) .nil))), (6, (.op (.ext 1) (.cons (.bv 0) .nil)))] none))))) h7_34)
@[simp] theorem h7_35_wp {P : Program} {F : PF P} {Q : EX → List Value → World → Prop} {env : List Value} {w : World} : h7_35.wp F Q env w = HC.wp F (.seq (.reg (.eff (.call 9) (.cons (.inp 0) .nil) (.chk none (.ext 0) (.cons (.bv 0) .nil) (.chk none (.ext 1) (.cons (.bv 0) .nil) (.done [(5, (.op (.ext 0) (.cons (.bv 0) .nil))), (6, (.op (.ext 1) (.cons (.bv 0) .nil)))] none))))) h7_34) Q env w := rfl
def h7_36 : HC := (.seq (.reg (.done [(4, (.cst (.bool false)))] none)) .ret)
@[simp] theorem h7_36_wp {P : Program} {F : PF P} {Q : EX → List Value → World → Prop} {env : List Value} {w : World} : h7_36.wp F Q env w = HC.wp F (.seq (.reg (.done [(4, (.cst (.bool false)))] none)) .ret) Q env w := rfl
def h7_37 : HC := (.seq (.br (.eff (.call 8) .nil (.chk none (.un .not) (.cons (.bv 0) .nil) (.done [] (some (.op (.un .not) (.cons (.bv 0) .nil)))))) h7_36 .skip) h7_35)
@[simp] theorem h7_37_wp {P : Program} {F : PF P} {Q : EX → List Value → World → Prop} {env : List Value} {w : World} : h7_37.wp F Q env w = HC.wp F (.seq (.br (.eff (.call 8) .nil (.chk none (.un .not) (.cons (.bv 0) .nil) (.done [] (some (.op (.un .not) (.cons (.bv 0) .nil)))))) h7_36 .skip) h7_35) Q env w := rfl
def l7 : Lifted := ⟨[0, 1, 2, 3, 8, 9, 10, 11, 12, 13, 14, 15, 16, 17, 18, 19, 20, 21, 22], 178, [.slot 4], (.seq (.reg (.done [(4, (.cst (.bool false)))] none)) h7_37)⟩
theorem l7_ok : liftFn U1 7 400 = some l7 := by kernel_rfl


theorem copies_tail (lim : Int) (v1 v2 : Value) (more : List Sp) (v3 : Value) (p t c q : Nat) (P : Ps) (o7 o8 o15 o16 o17 o18 : Value) (w0 w : World) (A : Asn) (hP : PI lim P) (hn : NI (nms P.rows)) (hl : more.length ≤ 1048576)
    (hr : Row w0 A v3 more.length 6 (sps more)) (hx : ∀ x ∈ more, x.name.length ≤ 1048576 ∧ 0 ≤ x.coins ∧ x.coins ≤ 18446744073709551615)
    (s : St w0 (A * pur p P * pur t P * pur c P * pur q P) w) :
    HC.wp U1 h7_13 (endQ Try.prog [RV.slot 4] fun r w' => r = Value.bool true ∧ St w0 A w')
      [.int .i64 lim, v1, v2, v3, .bool false, .pointer (some ⟨p, 0, none⟩), .int .i64 0, o7, o8, .pointer (some ⟨t, 0, none⟩), .pointer (some ⟨c, 0, none⟩), .pointer (some ⟨q, 0, none⟩), .int .i64 0, undef, undef, o15, o16, o17, o18] w := by
  have hb := hP.bd
  have hPl := hb.len
  obtain ⟨sa, scap, rfl⟩ := hr.val
  simp
  refine eff_call ((Rows_spec p P w0 w (A * pur t P * pur c P * pur q P) (by omega) (s.to (by ac_rfl))).mono ?_)
  intro wv w1 s1
  simp
  refine eff_call ((Held_spec p P w0 w1 (A * pur t P * pur c P * pur q P * own 66 2 wv P.rows.length (flat P.rows)) (s1.to (by ac_rfl))).mono ?_)
  rintro r w2 ⟨rfl, s2⟩
  simp
  have s3 := s2.to (B := A * own 66 2 wv P.rows.length (flat P.rows) * pur t P * pur p P * pur c P * pur q P) (by ac_rfl)
  clear s s1 s2
  refine loopI (fun env w' => ∃ (i : Nat) (P' : Ps) (o16 o17 o18 : Value), env = [.int .i64 lim, v1, v2, .slice sa more.length scap, .bool false, .pointer (some ⟨p, 0, none⟩), .int .i64 0, o7, o8, .pointer (some ⟨t, 0, none⟩), .pointer (some ⟨c, 0, none⟩), .pointer (some ⟨q, 0, none⟩), .int .i64 0, wv, .int .u64 P.held, .int .i64 i, o16, o17, o18] ∧ i ≤ more.length ∧ PI lim P' ∧
      St w0 (A * own 66 2 wv P.rows.length (flat P.rows) * pur t P * pur p P' * pur c P' * pur q P') w')
    (fun env _ => more.length - slotN env 15) ⟨0, P, _, _, _, rfl, by omega, hP, s3⟩ ?_
  clear s3
  rintro LQ env w' ⟨i, P', o16, o17, o18, rfl, hi, hP', s⟩ hN hE hR
  have hb' := hP'.bd
  have hPl' := hb'.len
  simp
  refine cndI (fun h => ?_) (fun h => ?_)
  · simp at h
    obtain ⟨g, o, gcap, hv, hcell⟩ := hr.at (by omega)
    cases hv
    have hopn : ∀ {w}, St w0 A w → ∀ j u, (more[i].cs)[j]? = some u → w.cell? ⟨g, o + (i * 6 + j), none⟩ = some u := fun s j u hu => hcell _ s _ _ (sps_at h j u hu)
    have hok : more[i].ok := by have := hx _ (List.getElem_mem h); exact ⟨by omega, this.1⟩
    obtain ⟨x, hxe⟩ : ∃ x, more[i] = x := ⟨_, rfl⟩
    rw [hxe] at hopn hok
    obtain ⟨hP2, _, _, _⟩ := does_step hP' hok
    simp [h]
    refine eff_ldcs (vs := x.cs) (fun j u hu => by rw [Nat.add_assoc]; exact hopn s.drop.drop.drop.drop.drop j u hu) rfl ?_
    simp
    refine eff_call ((does_spec p P' x w0 w' (A * own 66 2 wv P.rows.length (flat P.rows) * pur t P * pur c P' * pur q P') hb' hP'.names hok (s.to (by ac_rfl))).mono ?_)
    rintro r w1 ⟨rfl, s1⟩
    simp [h]
    refine eff_ldcs (vs := x.cs) (fun j u hu => by rw [Nat.add_assoc]; exact hopn s1.drop.drop.drop.drop.drop j u hu) rfl ?_
    simp
    refine eff_call ((does_spec c P' x w0 w1 (A * own 66 2 wv P.rows.length (flat P.rows) * pur t P * pur q P' * pur p (doesF P' x).2) hb' hP'.names hok (s1.to (by ac_rfl))).mono ?_)
    rintro r w2 ⟨rfl, s2⟩
    simp [h]
    refine eff_ldcs (vs := x.cs) (fun j u hu => by rw [Nat.add_assoc]; exact hopn s2.drop.drop.drop.drop.drop j u hu) rfl ?_
    simp
    refine eff_call ((does_spec q P' x w0 w2 (A * own 66 2 wv P.rows.length (flat P.rows) * pur t P * pur p (doesF P' x).2 * pur c (doesF P' x).2) hb' hP'.names hok (s2.to (by ac_rfl))).mono ?_)
    rintro r w3 ⟨rfl, s3⟩
    simp
    generalize (doesF P' x).1 = no at *
    generalize (doesF P' x).2 = P2 at *
    have hb2 := hP2.bd
    have hPl2 := hb2.len
    have s4 := s3.to (B := A * own 66 2 wv P.rows.length (flat P.rows) * pur t P * pur p P2 * pur c P2 * pur q P2) (by ac_rfl)
    clear s s1 s2 s3
    generalize hF : A * own 66 2 wv P.rows.length (flat P.rows) * pur t P = F at s4
    refine eff_call ((Rows_spec p P2 w0 w3 (F * pur c P2 * pur q P2) (by omega) (s4.to (by ac_rfl))).mono ?_)
    intro r1 w4 s5
    simp
    refine eff_call ((Rows_spec c P2 w0 w4 (F * pur p P2 * pur q P2 * own 66 2 r1 P2.rows.length (flat P2.rows)) (by omega) (s5.to (by ac_rfl))).mono ?_)
    intro r2 w5 s6
    simp
    refine eff_call ((rows_spec P2.rows P2.rows r1 r2 w0 w5 (F * pur p P2 * pur q P2 * own 66 2 r1 P2.rows.length (flat P2.rows) * pur c P2 * own 66 2 r2 P2.rows.length (flat P2.rows)) (by omega) (row_in (e := 66) (B := F * pur p P2 * pur q P2 * pur c P2 * own 66 2 r2 P2.rows.length (flat P2.rows)) s6 (by ac_rfl)) (row_own s6) s6).mono ?_)
    rintro r w6 ⟨rfl, s7⟩
    simp
    have s8 := St.cut (own 66 2 r1 P2.rows.length (flat P2.rows) * own 66 2 r2 P2.rows.length (flat P2.rows)) s7 (B := F * pur p P2 * pur c P2 * pur q P2) (by ac_rfl)
    clear s4 s5 s6 s7
    refine eff_call ((Rows_spec p P2 w0 w6 (F * pur c P2 * pur q P2) (by omega) (s8.to (by ac_rfl))).mono ?_)
    intro r3 w7 s9
    simp
    refine eff_call ((Rows_spec q P2 w0 w7 (F * pur p P2 * pur c P2 * own 66 2 r3 P2.rows.length (flat P2.rows)) (by omega) (s9.to (by ac_rfl))).mono ?_)
    intro r4 w8 s10
    simp
    refine eff_call ((rows_spec P2.rows P2.rows r3 r4 w0 w8 (F * pur p P2 * pur c P2 * own 66 2 r3 P2.rows.length (flat P2.rows) * pur q P2 * own 66 2 r4 P2.rows.length (flat P2.rows)) (by omega) (row_in (e := 66) (B := F * pur p P2 * pur c P2 * pur q P2 * own 66 2 r4 P2.rows.length (flat P2.rows)) s10 (by ac_rfl)) (row_own s10) s10).mono ?_)
    rintro r w9 ⟨rfl, s11⟩
    simp
    have s12 := St.cut (own 66 2 r3 P2.rows.length (flat P2.rows) * own 66 2 r4 P2.rows.length (flat P2.rows)) s11 (B := F * pur p P2 * pur c P2 * pur q P2) (by ac_rfl)
    clear s8 s9 s10 s11
    refine eff_call ((Held_spec p P2 w0 w9 (F * pur c P2 * pur q P2) (s12.to (by ac_rfl))).mono ?_)
    rintro r w10 ⟨rfl, s13⟩
    simp
    refine eff_call ((Held_spec c P2 w0 w10 (F * pur p P2 * pur q P2) (s13.to (by ac_rfl))).mono ?_)
    rintro r w11 ⟨rfl, s14⟩
    simp
    refine eff_call ((Held_spec p P2 w0 w11 (F * pur c P2 * pur q P2) (s14.to (by ac_rfl))).mono ?_)
    rintro r w12 ⟨rfl, s15⟩
    simp
    refine eff_call ((Held_spec q P2 w0 w12 (F * pur c P2 * pur p P2) (s15.to (by ac_rfl))).mono ?_)
    rintro r w13 ⟨rfl, s16⟩
    simp
    refine eff_call ((Supply_spec p P2 w0 w13 (F * pur c P2 * pur q P2) (s16.to (by ac_rfl))).mono ?_)
    rintro r w14 ⟨rfl, s17⟩
    simp
    refine eff_call ((Supply_spec c P2 w0 w14 (F * pur p P2 * pur q P2) (s17.to (by ac_rfl))).mono ?_)
    rintro r w15 ⟨rfl, s18⟩
    simp
    refine eff_call ((Supply_spec p P2 w0 w15 (F * pur c P2 * pur q P2) (s18.to (by ac_rfl))).mono ?_)
    rintro r w16 ⟨rfl, s19⟩
    simp
    refine eff_call ((Supply_spec q P2 w0 w16 (F * pur c P2 * pur p P2) (s19.to (by ac_rfl))).mono ?_)
    rintro r w17 ⟨rfl, s20⟩
    simp
    try simp (disch := omega) only [wrap64]
    refine hN _ _ ⟨i + 1, P2, _, _, _, by simp; exact ⟨rfl, rfl, rfl⟩, by omega, hP2, ?_⟩ (by simp [slotN]; omega)
    rw [hF]
    exact s20.to (by ac_rfl)
  simp at h
  simp
  refine hE _ _ _ ?_
  simp
  refine eff_call ((Rows_spec t P w0 w' (A * own 66 2 wv P.rows.length (flat P.rows) * pur p P' * pur c P' * pur q P') (by omega) (s.to (by ac_rfl))).mono ?_)
  intro r1 w1 s1
  simp
  refine eff_call ((rows_spec P.rows P.rows r1 wv w0 w1 (A * own 66 2 wv P.rows.length (flat P.rows) * pur p P' * pur c P' * pur q P' * pur t P * own 66 2 r1 P.rows.length (flat P.rows)) (by omega) (row_own s1) (row_in (e := 66) (B := A * pur p P' * pur c P' * pur q P' * pur t P * own 66 2 r1 P.rows.length (flat P.rows)) s1 (by ac_rfl)) s1).mono ?_)
  rintro r w2 ⟨rfl, s2⟩
  simp
  refine eff_call ((Held_spec t P w0 w2 _ s2.drop).mono ?_)
  rintro r w3 ⟨rfl, s3⟩
  simp
  exact s3.drop.drop.drop.drop.drop
theorem copies_walk (lim : Int) (ns : List (List UInt8)) (ops more : List Sp) (v1 v2 v3 : Value) (w0 w : World) (A : Asn) (hlim : -9223372036854775808 ≤ lim ∧ lim ≤ 9223372036854775807) (hl1 : ns.length ≤ 1048576) (hl2 : ops.length ≤ 1048576) (hl3 : more.length ≤ 1048576)
    (hr1 : Row w0 A v1 ns.length 1 (ns.flatMap fun x => [.string (mk x)])) (hr2 : Row w0 A v2 ops.length 6 (sps ops)) (hr3 : Row w0 A v3 more.length 6 (sps more)) (hx1 : ∀ x ∈ ns, x.length ≤ 1048576 ∧ True)
    (hx2 : ∀ x ∈ ops, x.name.length ≤ 1048576 ∧ 0 ≤ x.coins ∧ x.coins ≤ 18446744073709551615) (hx3 : ∀ x ∈ more, x.name.length ≤ 1048576 ∧ 0 ≤ x.coins ∧ x.coins ≤ 18446744073709551615) (s : St w0 A w) :
    CallW Try.prog 7 [.int .i64 lim, v1, v2, v3] (fun r w' => r = .bool true ∧ St w0 A w') w := by
  obtain ⟨na, ncap, rfl⟩ := hr1.val
  obtain ⟨sa, scap, rfl⟩ := hr2.val
  refine callW_of_lift l7_ok (by simp [l7]) ?_
  simp [l7]
  refine eff_call ((awake_spec w0 w A s).mono ?_)
  rintro r w1 ⟨rfl, s1⟩
  simp
  refine eff_call ((New_spec lim w0 w1 A s1).mono ?_)
  intro r w2 h2
  by_cases hl : 1 ≤ lim ∧ lim ≤ 64
  · rw [if_pos hl] at h2
    obtain ⟨p, rfl, s2⟩ := h2
    simp
    refine loopI (fun env w' => ∃ (i : Nat) (P : Ps), env = [.int .i64 lim, .slice na ns.length ncap, .slice sa ops.length scap, v3, .bool false, .pointer (some ⟨p, 0, none⟩), .int .i64 0, .int .i64 i, undef, undef, undef, undef, undef, undef, undef, undef, undef, undef, undef] ∧ i ≤ ns.length ∧ PI lim P ∧ NI (nms P.rows) ∧ St w0 (A * pur p P) w')
      (fun env _ => ns.length - slotN env 7) ⟨0, _, rfl, by omega, new_PI hl, new_NI, s2⟩ ?_
    clear s s1 s2
    rintro LQ env w' ⟨i, P, rfl, hi, hP, hn, s⟩ hN hE hR
    have hb := hP.bd
    have hPl := hb.len
    simp
    refine cndI (fun h => ?_) (fun h => ?_)
    · simp at h
      obtain ⟨ng, no, nc', hv, hnc⟩ := hr1.at (by omega)
      cases hv
      have hxl : ns[i].length ≤ 1048576 := (hx1 _ (List.getElem_mem h)).1
      have hcell : w'.cell? ⟨ng, no + i, none⟩ = some (.string (mk ns[i])) := by
        refine hnc _ s.drop i _ ?_
        have := flat_get (fun x : List UInt8 => [Value.string (mk x)]) 1 (fun _ => rfl) ns i 0 h (by decide)
        simpa using this
      simp [h]
      refine eff_ldc hcell ?_
      simp
      refine eff_call ((Open_spec p P ns[i] w0 w' A hxl (by omega) s).mono ?_)
      rintro r w3 ⟨rfl, s3⟩
      simp
      try simp (disch := omega) only [wrap64]
      have hst := does_step (o := ⟨0, 1, 0, 0, 0, ns[i]⟩) hP ⟨⟨Int.le_refl _, by show (0 : Int) < _; decide⟩, hxl⟩
      have hni := does_NI (o := ⟨0, 1, 0, 0, 0, ns[i]⟩) hn
      exact hN _ _ ⟨i + 1, (openF P ns[i]).2.2, by simp, by omega, hst.pi, hni, s3⟩ (by simp [slotN]; omega)
    simp at h
    simp
    refine hE _ _ _ ?_
    simp
    clear hN hE hR h
    refine loopI (fun env w' => ∃ (j : Nat) (P : Ps), env = [.int .i64 lim, .slice na ns.length ncap, .slice sa ops.length scap, v3, .bool false, .pointer (some ⟨p, 0, none⟩), .int .i64 0, .int .i64 i, .int .i64 j, undef, undef, undef, undef, undef, undef, undef, undef, undef, undef] ∧ j ≤ ops.length ∧ PI lim P ∧ NI (nms P.rows) ∧ St w0 (A * pur p P) w')
      (fun env _ => ops.length - slotN env 8) ⟨0, P, rfl, by omega, hP, hn, s⟩ ?_
    clear s hP hn hb hPl
    rintro LQ env w' ⟨j, P, rfl, hj, hP, hn, s⟩ hN hE hR
    have hb := hP.bd
    have hPl := hb.len
    simp
    refine cndI (fun h => ?_) (fun h => ?_)
    · simp at h
      obtain ⟨g, o, gcap, hv, hcell⟩ := hr2.at (by omega)
      cases hv
      have hok : ops[j].ok := by have := hx2 _ (List.getElem_mem h); exact ⟨by omega, this.1⟩
      simp [h]
      refine eff_ldcs (vs := ops[j].cs) (fun k u hu => by rw [Nat.add_assoc]; exact hcell _ s.drop _ _ (sps_at h k u hu)) rfl ?_
      simp
      refine eff_call ((does_spec p P ops[j] w0 w' A hb hP.names hok s).mono ?_)
      rintro r w3 ⟨rfl, s3⟩
      simp
      try simp (disch := omega) only [wrap64]
      exact hN _ _ ⟨j + 1, _, by simp, by omega, (does_step hP hok).pi, does_NI hn, s3⟩ (by simp [slotN]; omega)
    simp at h
    simp
    refine hE _ _ _ ?_
    simp
    clear hN hE hR h
    refine eff_call ((Copy_spec p P w0 w' A (by omega) s).mono ?_)
    rintro r w3 ⟨t, rfl, s3⟩
    simp
    refine eff_call ((Copy_spec p P w0 w3 (A * pur t P) (by omega) (s3.to (by ac_rfl))).mono ?_)
    rintro r w4 ⟨c, rfl, s4⟩
    simp
    refine eff_call ((Limit_spec p P w0 w4 (A * pur t P * pur c P) (s4.to (by ac_rfl))).mono ?_)
    rintro r w5 ⟨rfl, s5⟩
    simp
    refine eff_call ((Rows_spec p P w0 w5 _ (by omega) s5).mono ?_)
    intro rv w6 s6
    simp
    refine eff_call ((Supply_spec p P w0 w6 (A * pur t P * pur c P * own 66 2 rv P.rows.length (flat P.rows)) (s6.to (by ac_rfl))).mono ?_)
    rintro r w7 ⟨rfl, s7⟩
    simp
    have hsup := hb.sup
    have hco : ∀ x ∈ P.rows, 0 ≤ x.coins ∧ x.coins < 18446744073709551616 := fun x hx => by
      obtain ⟨k, hk, rfl⟩ := List.getElem_of_mem hx
      have := coin_bd hb hk
      rw [coin_at hk] at this
      omega
    have hna : ∀ x ∈ P.rows, x.name.length ≤ 1048576 := fun x hx => by
      obtain ⟨k, hk, rfl⟩ := List.getElem_of_mem hx
      exact hP.names k hk
    refine eff_call ((Load_spec P.lim P.rows P.sup rv w0 w7 _ (by omega) (by omega) hna hco (row_in (e := 66) (B := A * pur t P * pur c P * pur p P) s7 (by ac_rfl)) s7).mono ?_)
    intro r w8 h8
    have hld : loadF P.lim P.rows P.sup = (0, P) := by rw [hP.eqlim]; exact load_same hP hn
    rw [hld] at h8
    simp only [if_true] at h8
    obtain ⟨q, rfl, s8⟩ := h8
    simp
    have key := copies_tail lim (.slice na ns.length ncap) (.slice sa ops.length scap) more v3 p t c q P (.int .i64 i) (.int .i64 j) undef undef undef undef w0 w8 A hP hn hl3 hr3 hx3 (St.cut (own 66 2 rv P.rows.length (flat P.rows)) s8 (by ac_rfl))
    simpa using key
  · rw [if_neg hl] at h2
    obtain ⟨rfl, s2⟩ := h2
    simp
    exact s2
end Go.HL.Pu
