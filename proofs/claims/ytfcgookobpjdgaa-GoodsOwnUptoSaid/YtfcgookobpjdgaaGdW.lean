/-
  Goods: the desk's looks. Conditions: items that stand right.
-/
import Derived.Test.YtfcgookobpjdgaaGdV
namespace Go.HL.Gd
open Go.HL Go.Proofs
set_option maxRecDepth 4000
set_option linter.unusedSimpArgs false
set_option linter.unusedVariables false
-- (*bazaar/bazaarlaw15.desk).looks
def h25_0 : HC := (.seq (.reg (.done [(4, (.cst (.bool true)))] none)) .ret)
@[simp] theorem h25_0_wp {P : Program} {F : PF P} {Q : EX → List Value → World → Prop} {env : List Value} {w : World} : h25_0.wp F Q env w = HC.wp F (.seq (.reg (.done [(4, (.cst (.bool true)))] none)) .ret) Q env w := rfl
def h25_1 : HC := (.reg (.chk none (.bin .add) (.cons (.inp 11) (.cons (.cst (.int .i64 1)) .nil)) (.done [(11, (.op (.bin .add) (.cons (.inp 11) (.cons (.cst (.int .i64 1)) .nil))))] none)))
@[simp] theorem h25_1_wp {P : Program} {F : PF P} {Q : EX → List Value → World → Prop} {env : List Value} {w : World} : h25_1.wp F Q env w = HC.wp F (.reg (.chk none (.bin .add) (.cons (.inp 11) (.cons (.cst (.int .i64 1)) .nil)) (.done [(11, (.op (.bin .add) (.cons (.inp 11) (.cons (.cst (.int .i64 1)) .nil))))] none))) Q env w := rfl
def h25_2 : HC := (.seq (.reg (.done [(4, (.cst (.bool false)))] none)) .ret)
@[simp] theorem h25_2_wp {P : Program} {F : PF P} {Q : EX → List Value → World → Prop} {env : List Value} {w : World} : h25_2.wp F Q env w = HC.wp F (.seq (.reg (.done [(4, (.cst (.bool false)))] none)) .ret) Q env w := rfl
def h25_3 : HC := (.br (.eff (.ld true 4) (.cons (.inp 13) .nil) (.eff (.ld true 4) (.cons (.inp 15) .nil) (.eff (.bin .neq 44 (.tmp 95) (.tmp 96)) (.cons (.bv 0) (.cons (.bv 1) .nil)) (.chk (some ((.bv 2), false)) (.cal 10) (.cons (.inp 14) .nil) (.chk (some ((.bv 2), false)) (.bin .neq) (.cons (.op (.cal 10) (.cons (.inp 14) .nil)) (.cons (.inp 16) .nil)) (.isb none (.bv 2) (.bnd (.ite (.bv 2) true (.cst (.bool true)) (.op (.bin .neq) (.cons (.op (.cal 10) (.cons (.inp 14) .nil)) (.cons (.inp 16) .nil)))) (.ite (.bv 3) false (.eff (.call 19) (.cons (.ite (.bv 3) false (.inp 5) (.cst (.tuple #[]))) (.cons (.ite (.bv 3) false (.inp 12) (.cst (.tuple #[]))) .nil)) (.eff (.call 49) (.cons (.inp 6) (.cons (.inp 12) .nil)) (.eff (.call 21) (.cons (.bv 4) (.cons (.bv 5) .nil)) (.chk none (.un .not) (.cons (.bv 6) .nil) (.isb none (.bv 3) (.bnd (.op (.un .not) (.cons (.bv 6) .nil)) (.ite (.bv 7) false (.eff (.call 20) (.cons (.ite (.bv 7) false (.inp 5) (.cst (.tuple #[]))) (.cons (.ite (.bv 7) false (.inp 12) (.cst (.tuple #[]))) .nil)) (.eff (.call 50) (.cons (.inp 6) (.cons (.inp 12) .nil)) (.eff (.call 21) (.cons (.bv 8) (.cons (.bv 9) .nil)) (.chk none (.un .not) (.cons (.bv 10) .nil) (.isb none (.bv 7) (.bnd (.op (.un .not) (.cons (.bv 10) .nil)) (.ite (.bv 11) false (.eff (.call 31) (.cons (.ite (.bv 11) false (.inp 5) (.cst (.tuple #[]))) (.cons (.ite (.bv 11) false (.inp 12) (.cst (.tuple #[]))) .nil)) (.eff (.call 51) (.cons (.inp 6) (.cons (.inp 12) .nil)) (.eff (.bin .neq 74 (.tmp 127) (.tmp 130)) (.cons (.bv 12) (.cons (.bv 13) .nil)) (.isb none (.bv 11) (.done [] (some (.bv 14))))))) (.isb none (.bv 11) (.done [] (some (.cst (.bool true)))))))))))) (.isb none (.bv 7) (.isb none (.cst (.bool true)) (.done [] (some (.cst (.bool true))))))))))))) (.isb none (.bv 3) (.isb none (.cst (.bool true)) (.isb none (.cst (.bool true)) (.done [] (some (.cst (.bool true))))))))))))))) h25_2 .skip)
@[simp] theorem h25_3_wp {P : Program} {F : PF P} {Q : EX → List Value → World → Prop} {env : List Value} {w : World} : h25_3.wp F Q env w = HC.wp F (.br (.eff (.ld true 4) (.cons (.inp 13) .nil) (.eff (.ld true 4) (.cons (.inp 15) .nil) (.eff (.bin .neq 44 (.tmp 95) (.tmp 96)) (.cons (.bv 0) (.cons (.bv 1) .nil)) (.chk (some ((.bv 2), false)) (.cal 10) (.cons (.inp 14) .nil) (.chk (some ((.bv 2), false)) (.bin .neq) (.cons (.op (.cal 10) (.cons (.inp 14) .nil)) (.cons (.inp 16) .nil)) (.isb none (.bv 2) (.bnd (.ite (.bv 2) true (.cst (.bool true)) (.op (.bin .neq) (.cons (.op (.cal 10) (.cons (.inp 14) .nil)) (.cons (.inp 16) .nil)))) (.ite (.bv 3) false (.eff (.call 19) (.cons (.ite (.bv 3) false (.inp 5) (.cst (.tuple #[]))) (.cons (.ite (.bv 3) false (.inp 12) (.cst (.tuple #[]))) .nil)) (.eff (.call 49) (.cons (.inp 6) (.cons (.inp 12) .nil)) (.eff (.call 21) (.cons (.bv 4) (.cons (.bv 5) .nil)) (.chk none (.un .not) (.cons (.bv 6) .nil) (.isb none (.bv 3) (.bnd (.op (.un .not) (.cons (.bv 6) .nil)) (.ite (.bv 7) false (.eff (.call 20) (.cons (.ite (.bv 7) false (.inp 5) (.cst (.tuple #[]))) (.cons (.ite (.bv 7) false (.inp 12) (.cst (.tuple #[]))) .nil)) (.eff (.call 50) (.cons (.inp 6) (.cons (.inp 12) .nil)) (.eff (.call 21) (.cons (.bv 8) (.cons (.bv 9) .nil)) (.chk none (.un .not) (.cons (.bv 10) .nil) (.isb none (.bv 7) (.bnd (.op (.un .not) (.cons (.bv 10) .nil)) (.ite (.bv 11) false (.eff (.call 31) (.cons (.ite (.bv 11) false (.inp 5) (.cst (.tuple #[]))) (.cons (.ite (.bv 11) false (.inp 12) (.cst (.tuple #[]))) .nil)) (.eff (.call 51) (.cons (.inp 6) (.cons (.inp 12) .nil)) (.eff (.bin .neq 74 (.tmp 127) (.tmp 130)) (.cons (.bv 12) (.cons (.bv 13) .nil)) (.isb none (.bv 11) (.done [] (some (.bv 14))))))) (.isb none (.bv 11) (.done [] (some (.cst (.bool true)))))))))))) (.isb none (.bv 7) (.isb none (.cst (.bool true)) (.done [] (some (.cst (.bool true))))))))))))) (.isb none (.bv 3) (.isb none (.cst (.bool true)) (.isb none (.cst (.bool true)) (.done [] (some (.cst (.bool true))))))))))))))) h25_2 .skip) Q env w := rfl
def h25_4 : HC := (.seq (.reg (.eff (.call 48) (.cons (.inp 6) (.cons (.inp 12) .nil)) (.chk none (.ext 0) (.cons (.bv 0) .nil) (.chk none (.ext 1) (.cons (.bv 0) .nil) (.eff (.new 44 (.agg #[(.int .i64 0), (.int .i64 0), (.int .i64 0), (.int .i64 0)])) .nil (.eff (.st 4) (.cons (.bv 1) (.cons (.op (.ext 0) (.cons (.bv 0) .nil)) .nil)) (.done [(15, (.bv 1)), (16, (.op (.ext 1) (.cons (.bv 0) .nil)))] none))))))) h25_3)
@[simp] theorem h25_4_wp {P : Program} {F : PF P} {Q : EX → List Value → World → Prop} {env : List Value} {w : World} : h25_4.wp F Q env w = HC.wp F (.seq (.reg (.eff (.call 48) (.cons (.inp 6) (.cons (.inp 12) .nil)) (.chk none (.ext 0) (.cons (.bv 0) .nil) (.chk none (.ext 1) (.cons (.bv 0) .nil) (.eff (.new 44 (.agg #[(.int .i64 0), (.int .i64 0), (.int .i64 0), (.int .i64 0)])) .nil (.eff (.st 4) (.cons (.bv 1) (.cons (.op (.ext 0) (.cons (.bv 0) .nil)) .nil)) (.done [(15, (.bv 1)), (16, (.op (.ext 1) (.cons (.bv 0) .nil)))] none))))))) h25_3) Q env w := rfl
def h25_5 : HC := (.seq (.reg (.eff (.call 32) (.cons (.inp 5) (.cons (.inp 12) .nil)) (.chk none (.ext 0) (.cons (.bv 0) .nil) (.chk none (.ext 1) (.cons (.bv 0) .nil) (.eff (.new 44 (.agg #[(.int .i64 0), (.int .i64 0), (.int .i64 0), (.int .i64 0)])) .nil (.eff (.st 4) (.cons (.bv 1) (.cons (.op (.ext 0) (.cons (.bv 0) .nil)) .nil)) (.done [(13, (.bv 1)), (14, (.op (.ext 1) (.cons (.bv 0) .nil)))] none))))))) h25_4)
@[simp] theorem h25_5_wp {P : Program} {F : PF P} {Q : EX → List Value → World → Prop} {env : List Value} {w : World} : h25_5.wp F Q env w = HC.wp F (.seq (.reg (.eff (.call 32) (.cons (.inp 5) (.cons (.inp 12) .nil)) (.chk none (.ext 0) (.cons (.bv 0) .nil) (.chk none (.ext 1) (.cons (.bv 0) .nil) (.eff (.new 44 (.agg #[(.int .i64 0), (.int .i64 0), (.int .i64 0), (.int .i64 0)])) .nil (.eff (.st 4) (.cons (.bv 1) (.cons (.op (.ext 0) (.cons (.bv 0) .nil)) .nil)) (.done [(13, (.bv 1)), (14, (.op (.ext 1) (.cons (.bv 0) .nil)))] none))))))) h25_4) Q env w := rfl
def h25_6 : HC := (.seq (.reg (.chk none (.idxL 1) (.cons (.inp 10) (.cons (.inp 11) .nil)) (.eff (.ld false 1) (.cons (.op (.idxL 1) (.cons (.inp 10) (.cons (.inp 11) .nil))) .nil) (.done [(12, (.bv 0))] none)))) h25_5)
@[simp] theorem h25_6_wp {P : Program} {F : PF P} {Q : EX → List Value → World → Prop} {env : List Value} {w : World} : h25_6.wp F Q env w = HC.wp F (.seq (.reg (.chk none (.idxL 1) (.cons (.inp 10) (.cons (.inp 11) .nil)) (.eff (.ld false 1) (.cons (.op (.idxL 1) (.cons (.inp 10) (.cons (.inp 11) .nil))) .nil) (.done [(12, (.bv 0))] none)))) h25_5) Q env w := rfl
def h25_7 : HC := (.seq (.block 3 h25_6) h25_1)
@[simp] theorem h25_7_wp {P : Program} {F : PF P} {Q : EX → List Value → World → Prop} {env : List Value} {w : World} : h25_7.wp F Q env w = HC.wp F (.seq (.block 3 h25_6) h25_1) Q env w := rfl
def h25_8 : HC := (.seq (.br (.chk none .lenL (.cons (.inp 10) .nil) (.chk none (.bin .lss) (.cons (.inp 11) (.cons (.op .lenL (.cons (.inp 10) .nil)) .nil)) (.done [] (some (.op (.bin .lss) (.cons (.inp 11) (.cons (.op .lenL (.cons (.inp 10) .nil)) .nil))))))) .skip (.exit 2)) h25_7)
@[simp] theorem h25_8_wp {P : Program} {F : PF P} {Q : EX → List Value → World → Prop} {env : List Value} {w : World} : h25_8.wp F Q env w = HC.wp F (.seq (.br (.chk none .lenL (.cons (.inp 10) .nil) (.chk none (.bin .lss) (.cons (.inp 11) (.cons (.op .lenL (.cons (.inp 10) .nil)) .nil)) (.done [] (some (.op (.bin .lss) (.cons (.inp 11) (.cons (.op .lenL (.cons (.inp 10) .nil)) .nil))))))) .skip (.exit 2)) h25_7) Q env w := rfl
def h25_9 : HC := (.loop h25_8)
@[simp] theorem h25_9_wp {P : Program} {F : PF P} {Q : EX → List Value → World → Prop} {env : List Value} {w : World} : h25_9.wp F Q env w = HC.wp F (.loop h25_8) Q env w := rfl
def h25_10 : HC := (.seq (.block 2 h25_9) h25_0)
@[simp] theorem h25_10_wp {P : Program} {F : PF P} {Q : EX → List Value → World → Prop} {env : List Value} {w : World} : h25_10.wp F Q env w = HC.wp F (.seq (.block 2 h25_9) h25_0) Q env w := rfl
def h25_11 : HC := (.seq (.reg (.done [(11, (.cst (.int .i64 0)))] none)) h25_10)
@[simp] theorem h25_11_wp {P : Program} {F : PF P} {Q : EX → List Value → World → Prop} {env : List Value} {w : World} : h25_11.wp F Q env w = HC.wp F (.seq (.reg (.done [(11, (.cst (.int .i64 0)))] none)) h25_10) Q env w := rfl
def h25_12 : HC := (.seq (.reg (.chk none .lenL (.cons (.inp 7) .nil) (.chk none .lenL (.cons (.inp 7) .nil) (.chk none (.bin .add) (.cons (.op .lenL (.cons (.inp 7) .nil)) (.cons (.cst (.int .i64 1)) .nil)) (.eff (.bsl 3 9 1 #[(.int .i64 0)] [0, 1, 2, 3, 4, 5, 6, 7, 8]) (.cons (.inp 2) (.cons (.inp 3) (.cons (.cst (.int .i64 (-1))) (.cons (.cst (.int .i64 0)) (.cons (.cst (.int .i64 1)) (.cons (.op .lenL (.cons (.inp 7) .nil)) (.cons (.op (.bin .add) (.cons (.op .lenL (.cons (.inp 7) .nil)) (.cons (.cst (.int .i64 1)) .nil))) (.cons (.cst (.int .i64 63)) (.cons (.cst (.int .i64 64)) .nil))))))))) (.done [(10, (.bv 0))] none)))))) h25_11)
@[simp] theorem h25_12_wp {P : Program} {F : PF P} {Q : EX → List Value → World → Prop} {env : List Value} {w : World} : h25_12.wp F Q env w = HC.wp F (.seq (.reg (.chk none .lenL (.cons (.inp 7) .nil) (.chk none .lenL (.cons (.inp 7) .nil) (.chk none (.bin .add) (.cons (.op .lenL (.cons (.inp 7) .nil)) (.cons (.cst (.int .i64 1)) .nil)) (.eff (.bsl 3 9 1 #[(.int .i64 0)] [0, 1, 2, 3, 4, 5, 6, 7, 8]) (.cons (.inp 2) (.cons (.inp 3) (.cons (.cst (.int .i64 (-1))) (.cons (.cst (.int .i64 0)) (.cons (.cst (.int .i64 1)) (.cons (.op .lenL (.cons (.inp 7) .nil)) (.cons (.op (.bin .add) (.cons (.op .lenL (.cons (.inp 7) .nil)) (.cons (.cst (.int .i64 1)) .nil))) (.cons (.cst (.int .i64 63)) (.cons (.cst (.int .i64 64)) .nil))))))))) (.done [(10, (.bv 0))] none)))))) h25_11) Q env w := rfl
def h25_13 : HC := (.reg (.chk none (.bin .add) (.cons (.inp 9) (.cons (.cst (.int .i64 1)) .nil)) (.done [(9, (.op (.bin .add) (.cons (.inp 9) (.cons (.cst (.int .i64 1)) .nil))))] none)))
@[simp] theorem h25_13_wp {P : Program} {F : PF P} {Q : EX → List Value → World → Prop} {env : List Value} {w : World} : h25_13.wp F Q env w = HC.wp F (.reg (.chk none (.bin .add) (.cons (.inp 9) (.cons (.cst (.int .i64 1)) .nil)) (.done [(9, (.op (.bin .add) (.cons (.inp 9) (.cons (.cst (.int .i64 1)) .nil))))] none))) Q env w := rfl
def h25_14 : HC := (.reg (.chk none (.build #[(.int .i64 0), (.int .i64 0), (.int .i64 0), (.int .i64 0)] [(0, 1), (1, 1), (2, 1), (3, 1)] [0]) (.cons (.cst (.int .i64 (-9))) .nil) (.chk none (.idxL 4) (.cons (.inp 8) (.cons (.inp 9) .nil)) (.eff (.st 4) (.cons (.op (.idxL 4) (.cons (.inp 8) (.cons (.inp 9) .nil))) (.cons (.op (.build #[(.int .i64 0), (.int .i64 0), (.int .i64 0), (.int .i64 0)] [(0, 1), (1, 1), (2, 1), (3, 1)] [0]) (.cons (.cst (.int .i64 (-9))) .nil)) .nil)) (.done [] none)))))
@[simp] theorem h25_14_wp {P : Program} {F : PF P} {Q : EX → List Value → World → Prop} {env : List Value} {w : World} : h25_14.wp F Q env w = HC.wp F (.reg (.chk none (.build #[(.int .i64 0), (.int .i64 0), (.int .i64 0), (.int .i64 0)] [(0, 1), (1, 1), (2, 1), (3, 1)] [0]) (.cons (.cst (.int .i64 (-9))) .nil) (.chk none (.idxL 4) (.cons (.inp 8) (.cons (.inp 9) .nil)) (.eff (.st 4) (.cons (.op (.idxL 4) (.cons (.inp 8) (.cons (.inp 9) .nil))) (.cons (.op (.build #[(.int .i64 0), (.int .i64 0), (.int .i64 0), (.int .i64 0)] [(0, 1), (1, 1), (2, 1), (3, 1)] [0]) (.cons (.cst (.int .i64 (-9))) .nil)) .nil)) (.done [] none))))) Q env w := rfl
def h25_15 : HC := (.seq (.block 1 h25_14) h25_13)
@[simp] theorem h25_15_wp {P : Program} {F : PF P} {Q : EX → List Value → World → Prop} {env : List Value} {w : World} : h25_15.wp F Q env w = HC.wp F (.seq (.block 1 h25_14) h25_13) Q env w := rfl
def h25_16 : HC := (.seq (.br (.chk none .lenL (.cons (.inp 8) .nil) (.chk none (.bin .lss) (.cons (.inp 9) (.cons (.op .lenL (.cons (.inp 8) .nil)) .nil)) (.done [] (some (.op (.bin .lss) (.cons (.inp 9) (.cons (.op .lenL (.cons (.inp 8) .nil)) .nil))))))) .skip (.exit 0)) h25_15)
@[simp] theorem h25_16_wp {P : Program} {F : PF P} {Q : EX → List Value → World → Prop} {env : List Value} {w : World} : h25_16.wp F Q env w = HC.wp F (.seq (.br (.chk none .lenL (.cons (.inp 8) .nil) (.chk none (.bin .lss) (.cons (.inp 9) (.cons (.op .lenL (.cons (.inp 8) .nil)) .nil)) (.done [] (some (.op (.bin .lss) (.cons (.inp 9) (.cons (.op .lenL (.cons (.inp 8) .nil)) .nil))))))) .skip (.exit 0)) h25_15) Q env w := rfl
def h25_17 : HC := (.loop h25_16)
@[simp] theorem h25_17_wp {P : Program} {F : PF P} {Q : EX → List Value → World → Prop} {env : List Value} {w : World} : h25_17.wp F Q env w = HC.wp F (.loop h25_16) Q env w := rfl
def h25_18 : HC := (.seq (.block 0 h25_17) h25_12)
@[simp] theorem h25_18_wp {P : Program} {F : PF P} {Q : EX → List Value → World → Prop} {env : List Value} {w : World} : h25_18.wp F Q env w = HC.wp F (.seq (.block 0 h25_17) h25_12) Q env w := rfl
def h25_19 : HC := (.seq (.reg (.done [(9, (.cst (.int .i64 0)))] none)) h25_18)
@[simp] theorem h25_19_wp {P : Program} {F : PF P} {Q : EX → List Value → World → Prop} {env : List Value} {w : World} : h25_19.wp F Q env w = HC.wp F (.seq (.reg (.done [(9, (.cst (.int .i64 0)))] none)) h25_18) Q env w := rfl
def h25_20 : HC := (.seq (.reg (.done [(4, (.cst (.bool false)))] none)) .ret)
@[simp] theorem h25_20_wp {P : Program} {F : PF P} {Q : EX → List Value → World → Prop} {env : List Value} {w : World} : h25_20.wp F Q env w = HC.wp F (.seq (.reg (.done [(4, (.cst (.bool false)))] none)) .ret) Q env w := rfl
def h25_21 : HC := (.seq (.br (.eff (.call 18) (.cons (.inp 5) .nil) (.eff (.call 46) (.cons (.inp 6) .nil) (.chk none (.bin .neq) (.cons (.bv 0) (.cons (.bv 1) .nil)) (.bnd (.op (.bin .neq) (.cons (.bv 0) (.cons (.bv 1) .nil))) (.ite (.bv 2) false (.eff (.call 30) (.cons (.ite (.bv 2) false (.inp 5) (.cst (.tuple #[]))) .nil) (.chk none .lenL (.cons (.inp 7) .nil) (.chk none (.bin .neq) (.cons (.bv 3) (.cons (.op .lenL (.cons (.inp 7) .nil)) .nil)) (.isb none (.bv 2) (.bnd (.op (.bin .neq) (.cons (.bv 3) (.cons (.op .lenL (.cons (.inp 7) .nil)) .nil))) (.ite (.bv 4) false (.eff (.call 13) (.cons (.ite (.bv 4) false (.inp 8) (.cst (.tuple #[]))) (.cons (.ite (.bv 4) false (.inp 7) (.cst (.tuple #[]))) .nil)) (.chk none (.un .not) (.cons (.bv 5) .nil) (.isb none (.bv 4) (.done [] (some (.op (.un .not) (.cons (.bv 5) .nil))))))) (.isb none (.bv 4) (.done [] (some (.cst (.bool true))))))))))) (.isb none (.bv 2) (.isb none (.cst (.bool true)) (.done [] (some (.cst (.bool true))))))))))) h25_20 .skip) h25_19)
@[simp] theorem h25_21_wp {P : Program} {F : PF P} {Q : EX → List Value → World → Prop} {env : List Value} {w : World} : h25_21.wp F Q env w = HC.wp F (.seq (.br (.eff (.call 18) (.cons (.inp 5) .nil) (.eff (.call 46) (.cons (.inp 6) .nil) (.chk none (.bin .neq) (.cons (.bv 0) (.cons (.bv 1) .nil)) (.bnd (.op (.bin .neq) (.cons (.bv 0) (.cons (.bv 1) .nil))) (.ite (.bv 2) false (.eff (.call 30) (.cons (.ite (.bv 2) false (.inp 5) (.cst (.tuple #[]))) .nil) (.chk none .lenL (.cons (.inp 7) .nil) (.chk none (.bin .neq) (.cons (.bv 3) (.cons (.op .lenL (.cons (.inp 7) .nil)) .nil)) (.isb none (.bv 2) (.bnd (.op (.bin .neq) (.cons (.bv 3) (.cons (.op .lenL (.cons (.inp 7) .nil)) .nil))) (.ite (.bv 4) false (.eff (.call 13) (.cons (.ite (.bv 4) false (.inp 8) (.cst (.tuple #[]))) (.cons (.ite (.bv 4) false (.inp 7) (.cst (.tuple #[]))) .nil)) (.chk none (.un .not) (.cons (.bv 5) .nil) (.isb none (.bv 4) (.done [] (some (.op (.un .not) (.cons (.bv 5) .nil))))))) (.isb none (.bv 4) (.done [] (some (.cst (.bool true))))))))))) (.isb none (.bv 2) (.isb none (.cst (.bool true)) (.done [] (some (.cst (.bool true))))))))))) h25_20 .skip) h25_19) Q env w := rfl
def h25_22 : HC := (.seq (.reg (.eff (.call 11) (.cons (.inp 5) .nil) (.done [(8, (.bv 0))] none))) h25_21)
@[simp] theorem h25_22_wp {P : Program} {F : PF P} {Q : EX → List Value → World → Prop} {env : List Value} {w : World} : h25_22.wp F Q env w = HC.wp F (.seq (.reg (.eff (.call 11) (.cons (.inp 5) .nil) (.done [(8, (.bv 0))] none))) h25_21) Q env w := rfl
def h25_23 : HC := (.seq (.reg (.eff (.call 47) (.cons (.inp 6) .nil) (.done [(7, (.bv 0))] none))) h25_22)
@[simp] theorem h25_23_wp {P : Program} {F : PF P} {Q : EX → List Value → World → Prop} {env : List Value} {w : World} : h25_23.wp F Q env w = HC.wp F (.seq (.reg (.eff (.call 47) (.cons (.inp 6) .nil) (.done [(7, (.bv 0))] none))) h25_22) Q env w := rfl
def h25_24 : HC := (.seq (.regq (some 0) (.chk none .chkp (.cons (.inp 0) .nil) (.chk none (.fld 0) (.cons (.op .chkp (.cons (.inp 0) .nil)) .nil) (.chk none (.idxP 4 1) (.cons (.op (.fld 0) (.cons (.op .chkp (.cons (.inp 0) .nil)) .nil)) (.cons (.inp 1) .nil)) (.eff (.ld false 1) (.cons (.op (.idxP 4 1) (.cons (.op (.fld 0) (.cons (.op .chkp (.cons (.inp 0) .nil)) .nil)) (.cons (.inp 1) .nil))) .nil) (.chk none .chkp (.cons (.inp 0) .nil) (.chk none (.fld 4) (.cons (.op .chkp (.cons (.inp 0) .nil)) .nil) (.chk none (.idxP 4 1) (.cons (.op (.fld 4) (.cons (.op .chkp (.cons (.inp 0) .nil)) .nil)) (.cons (.inp 1) .nil)) (.eff (.ld false 1) (.cons (.op (.idxP 4 1) (.cons (.op (.fld 4) (.cons (.op .chkp (.cons (.inp 0) .nil)) .nil)) (.cons (.inp 1) .nil))) .nil) (.done [(5, (.bv 0)), (6, (.bv 1))] none)))))))))) h25_23)
@[simp] theorem h25_24_wp {P : Program} {F : PF P} {Q : EX → List Value → World → Prop} {env : List Value} {w : World} : h25_24.wp F Q env w = HC.wp F (.seq (.regq (some 0) (.chk none .chkp (.cons (.inp 0) .nil) (.chk none (.fld 0) (.cons (.op .chkp (.cons (.inp 0) .nil)) .nil) (.chk none (.idxP 4 1) (.cons (.op (.fld 0) (.cons (.op .chkp (.cons (.inp 0) .nil)) .nil)) (.cons (.inp 1) .nil)) (.eff (.ld false 1) (.cons (.op (.idxP 4 1) (.cons (.op (.fld 0) (.cons (.op .chkp (.cons (.inp 0) .nil)) .nil)) (.cons (.inp 1) .nil))) .nil) (.chk none .chkp (.cons (.inp 0) .nil) (.chk none (.fld 4) (.cons (.op .chkp (.cons (.inp 0) .nil)) .nil) (.chk none (.idxP 4 1) (.cons (.op (.fld 4) (.cons (.op .chkp (.cons (.inp 0) .nil)) .nil)) (.cons (.inp 1) .nil)) (.eff (.ld false 1) (.cons (.op (.idxP 4 1) (.cons (.op (.fld 4) (.cons (.op .chkp (.cons (.inp 0) .nil)) .nil)) (.cons (.inp 1) .nil))) .nil) (.done [(5, (.bv 0)), (6, (.bv 1))] none)))))))))) h25_23) Q env w := rfl
def l25 : Lifted := ⟨[0, 1, 2, 3, 8, 9, 10, 11, 12, 13, 14, 15, 16, 17, 18, 19, 20], 133, [.slot 4], (.seq (.reg (.done [(4, (.cst (.bool false)))] none)) h25_24)⟩
theorem l25_ok : liftFn G2 25 400 = some l25 := by kernel_rfl


theorem eff_bsl9 {P : Program} {K : Value → World → Prop} {w w0 : World} {F : Asn} {e : Nat} {z : Value} (l : List Int) (x0 x1 x2 x3 x4 x5 x6 x7 x8 : Int) (hl : l = [x0, x1, x2, x3, x4, x5, x6, x7, x8]) (s : St w0 F w)
    (hk : ∀ v w', St w0 (F * own e 1 v 9 (ints l)) w' → K v w') : EffW P (.bsl e 9 1 #[z] [0, 1, 2, 3, 4, 5, 6, 7, 8]) [.int .i64 x0, .int .i64 x1, .int .i64 x2, .int .i64 x3, .int .i64 x4, .int .i64 x5, .int .i64 x6, .int .i64 x7, .int .i64 x8] K w := by
  subst hl
  refine eff_bsl (cells := (ints [x0, x1, x2, x3, x4, x5, x6, x7, x8]).toArray) s ?_ fun b w' s' => hk _ w' (s'.own_mk (Nat.le_refl 9) (by decide) rfl rfl)
  rw [zrow]
  simp [Instr.fill, Value.cells, ints]
theorem looks_rest (dd k : Nat) (t : Slot) (a b : Int) (w0 w : World) (A : Asn) (hlen : (itsS t).length ≤ 512) (ht : slotOK t) (ra : Option Addr) (rcap : Nat) (v8 v9 : Value)
    (s : St w0 (A * own 44 4 (.slice ra (itsS t).length rcap) (itsS t).length (flat (itsS t)) * slotA t) w) :
    HC.wp G2 h25_12 (endQ Try.prog [RV.slot 4] fun r w' => r = Value.bool true ∧ St w0 (A * slotA t) w')
      [.pointer (some ⟨dd, 0, none⟩), .int .i64 k, .int .i64 a, .int .i64 b, .bool false, gp t, mp t, .slice ra (itsS t).length rcap, v8, v9, undef, undef, undef, undef, undef, undef, undef] w := by
  have hw1 : IntKind.i64.wrap (((itsS t).length : Int) + 1) = ((itsS t).length : Int) + 1 := wrap64 (by omega) (by omega)
  simp [hw1]
  refine eff_bsl9 [a, b, -1, 0, 1, (itsS t).length, (itsS t).length + 1, 63, 64] _ _ _ _ _ _ _ _ _ rfl s ?_
  intro vn w1 s1
  have hnl : [a, b, -1, 0, 1, ((itsS t).length : Int), ((itsS t).length : Int) + 1, 63, 64].length = 9 := rfl
  generalize [a, b, -1, 0, 1, ((itsS t).length : Int), ((itsS t).length : Int) + 1, 63, 64] = near at s1 hnl
  obtain ⟨na, ncap, rfl, _⟩ := s1.own_val
  simp
  have u1 := St.cut (own 44 4 (.slice ra (itsS t).length rcap) (itsS t).length (flat (itsS t))) s1 (B := A * own 3 1 (.slice na 9 ncap) 9 (ints near) * slotA t) (by ac_rfl)
  refine loopI (fun env w' => ∃ (i : Nat) (o12 o13 o14 o15 o16 : Value), env = [.pointer (some ⟨dd, 0, none⟩), .int .i64 k, .int .i64 a, .int .i64 b, .bool false, gp t, mp t, .slice ra (itsS t).length rcap, v8, v9, .slice na 9 ncap, .int .i64 i, o12, o13, o14, o15, o16] ∧ i ≤ 9 ∧
      St w0 (A * own 3 1 (.slice na 9 ncap) 9 (ints near) * slotA t) w')
    (fun env _ => 9 - slotN env 11) ⟨0, _, _, _, _, _, rfl, by omega, u1⟩ ?_
  rintro LQ env w' ⟨i, o12, o13, o14, o15, o16, rfl, hi, s'⟩ hN hE hR
  simp
  refine cndI (fun h => ?_) (fun h => ?_)
  · simp at h
    have hi9 : i < near.length := by omega
    obtain ⟨g, cap', hv, _, hc⟩ := s'.swap.own_at (by omega)
    cases hv
    simp [h]
    refine eff_ldc (v := .int .i64 near[i]) (hc i _ (ints_at hi9)) ?_
    generalize near[i] = n
    simp
    refine eff_call ((oGet t n w0 w' _ ht s').mono ?_)
    rintro r w2 ⟨rfl, s2⟩
    simp
    refine eff_new s2 ?_
    intro xb w3 s3
    simp
    refine eff_stA (vs := (getS t n).1.cs) s3 rfl rfl (cs_one _) (by simp) ?_
    intro w4 s4
    simp
    have s5 : St w0 (A * own 3 1 (.slice (some ⟨g, 0, none⟩) 9 ncap) 9 (ints near) * pt xb (.cells (getS t n).1.cs.toArray 44 (0, 0)) * slotA t) w4 := by
      have := s4.swap
      simpa using this
    refine eff_call ((orGet t n w0 w4 _ ht s5).mono ?_)
    rintro r w5 ⟨rfl, s6⟩
    simp
    refine eff_new s6 ?_
    intro yb w6 s7
    simp
    refine eff_stA (vs := (getS t n).1.cs) s7 rfl rfl (cs_one _) (by simp) ?_
    intro w7 s8
    simp
    have s9 : St w0 (A * own 3 1 (.slice (some ⟨g, 0, none⟩) 9 ncap) 9 (ints near) * pt xb (.cells (getS t n).1.cs.toArray 44 (0, 0)) * pt yb (.cells (getS t n).1.cs.toArray 44 (0, 0)) * slotA t) w7 := by
      have := s8.swap
      simpa using this
    refine eff_ldcs (vs := (getS t n).1.cs) (off := 0) s9.drop.swap.row_cells rfl ?_
    simp
    refine eff_ldcs (vs := (getS t n).1.cs) (off := 0) s9.drop.row_cells rfl ?_
    simp
    refine eff_neqS itemT _ _ rfl rfl (getS t n).1.cs_holds (getS t n).1.cs_holds ?_
    simp
    have v0 := s9.to (B := A * own 3 1 (.slice (some ⟨g, 0, none⟩) 9 ncap) 9 (ints near) * (pt xb (.cells (getS t n).1.cs.toArray 44 (0, 0)) * pt yb (.cells (getS t n).1.cs.toArray 44 (0, 0))) * slotA t) (by ac_rfl)
    generalize (pt xb (.cells (getS t n).1.cs.toArray 44 (0, 0)) * pt yb (.cells (getS t n).1.cs.toArray 44 (0, 0))) = J at v0
    refine eff_call ((oOf t n w0 w7 _ ht v0).mono ?_)
    intro q1 x1 y1
    simp
    refine eff_call ((orOf t n w0 x1 (A * own 3 1 (.slice (some ⟨g, 0, none⟩) 9 ncap) 9 (ints near) * J * own 3 1 q1 (ofF (itsS t) n).length (ints (ofF (itsS t) n))) ht (y1.to (by ac_rfl))).mono ?_)
    intro q2 x2 y2
    simp
    have hlo : (ofF (itsS t) n).length ≤ 1048576 := by unfold ofF; rw [List.length_map]; exact Nat.le_trans (List.length_filter_le _ _) (by omega)
    have hli : (inF (itsS t) n).length ≤ 1048576 := by unfold inF; rw [List.length_map]; exact Nat.le_trans (List.length_filter_le _ _) (by omega)
    refine eff_call ((ints_spec _ _ q1 q2 w0 x2 _ hlo (row_in (e := 3) (B := A * own 3 1 (.slice (some ⟨g, 0, none⟩) 9 ncap) 9 (ints near) * J * slotA t * own 3 1 q2 (ofF (itsS t) n).length (ints (ofF (itsS t) n))) y2 (by ac_rfl)) (row_own y2) y2).mono ?_)
    rintro r x3 ⟨rfl, y3⟩
    simp
    refine eff_call ((oIn t n w0 x3 (A * own 3 1 (.slice (some ⟨g, 0, none⟩) 9 ncap) 9 (ints near) * J) ht (y3.drop.swap.drop.to (by ac_rfl))).mono ?_)
    intro q3 x4 y4
    simp
    refine eff_call ((orIn t n w0 x4 (A * own 3 1 (.slice (some ⟨g, 0, none⟩) 9 ncap) 9 (ints near) * J * own 3 1 q3 (inF (itsS t) n).length (ints (inF (itsS t) n))) ht (y4.to (by ac_rfl))).mono ?_)
    intro q4 x5 y5
    simp
    refine eff_call ((ints_spec _ _ q3 q4 w0 x5 _ hli (row_in (e := 3) (B := A * own 3 1 (.slice (some ⟨g, 0, none⟩) 9 ncap) 9 (ints near) * J * slotA t * own 3 1 q4 (inF (itsS t) n).length (ints (inF (itsS t) n))) y5 (by ac_rfl)) (row_own y5) y5).mono ?_)
    rintro r x6 ⟨rfl, y6⟩
    simp
    refine eff_call ((oKinds t n w0 x6 (A * own 3 1 (.slice (some ⟨g, 0, none⟩) 9 ncap) 9 (ints near) * J) ht (y6.drop.swap.drop.to (by ac_rfl))).mono ?_)
    rintro r x7 ⟨rfl, y7⟩
    simp
    refine eff_call ((orKinds t n w0 x7 _ ht y7).mono ?_)
    rintro r x8 ⟨rfl, y8⟩
    simp
    refine eff_neqA arrT _ _ (tally_len _) (tally_len _) (ints_holds _) (ints_holds _) ?_
    simp
    try simp (disch := omega) only [wrap64]
    refine hN _ _ ⟨i + 1, _, _, _, _, _, by simp; exact ⟨rfl, rfl, rfl, rfl, rfl⟩, by omega, ?_⟩ (by simp [slotN]; omega)
    exact St.cut J y8 (by ac_rfl)
  · simp at h
    simp
    refine hE _ _ _ ?_
    simp
    exact s'.swap.drop
theorem looks_spec (dd : Nat) (k : Nat) (t : Slot) (a b : Int) (w0 w : World) (A : Asn) (hk : k < 4) (ht : slotOK t)
    (hgm : ∀ w, St w0 (A * slotA t) w → w.cell? ⟨dd, k, none⟩ = some (gp t) ∧ w.cell? ⟨dd, 4 + k, none⟩ = some (mp t)) (s : St w0 (A * slotA t) w) :
    CallW Try.prog 25 [.pointer (some ⟨dd, 0, none⟩), .int .i64 k, .int .i64 a, .int .i64 b] (fun r w' => r = .bool true ∧ St w0 (A * slotA t) w') w := by
  refine callW_of_lift l25_ok (by simp [l25]) ?_
  simp [l25]
  have hlen : (itsS t).length ≤ 512 := by
    cases t with
    | none => simp [itsS]
    | some x => have h1 := (show GI x.lim x.its from ht).len; have h2 := (show GI x.lim x.its from ht).lim; simp only [itsS]; omega
  refine regqI s ?_
  have hki : (k : Int) < 4 := by omega
  have c1 : ∀ w, St w0 (A * slotA t) w → w.cell? ⟨dd, k, none⟩ = some (gp t) := fun w s => (hgm w s).1
  have c2 : ∀ w, St w0 (A * slotA t) w → w.cell? ⟨dd, 4 + k, none⟩ = some (mp t) := fun w s => (hgm w s).2
  simp [hki]
  refine effq_ldc c1 ?_
  simp [hki]
  refine effq_ldc c2 ?_
  simp
  intro w1 s1
  refine eff_call ((orRows t w0 w1 A ht s1).mono ?_)
  intro v1 w2 s2
  obtain ⟨ra, rcap, rfl, _⟩ := s2.own_val
  simp
  refine eff_call ((oRows t w0 w2 (A * own 44 4 (.slice ra (itsS t).length rcap) (itsS t).length (flat (itsS t))) ht (s2.to (by ac_rfl))).mono ?_)
  intro v2 w3 s3
  obtain ⟨ta, tcap, rfl, _⟩ := s3.own_val
  simp
  refine eff_call ((oLimit t w0 w3 (A * own 44 4 (.slice ra (itsS t).length rcap) (itsS t).length (flat (itsS t)) * own 44 4 (.slice ta (itsS t).length tcap) (itsS t).length (flat (itsS t))) ht (s3.to (by ac_rfl))).mono ?_)
  rintro r w4 ⟨rfl, s4⟩
  simp
  refine eff_call ((orLimit t w0 w4 _ ht s4).mono ?_)
  rintro r w5 ⟨rfl, s5⟩
  simp
  refine eff_call ((oLen t w0 w5 _ ht s5).mono ?_)
  rintro r w6 ⟨rfl, s6⟩
  simp
  refine eff_call ((items_spec (itsS t) (itsS t) (.slice ta (itsS t).length tcap) (.slice ra (itsS t).length rcap) w0 w6 _ (by omega)
    (row_in (e := 44) (B := A * slotA t * own 44 4 (.slice ra (itsS t).length rcap) (itsS t).length (flat (itsS t))) s6 (by ac_rfl))
    (row_in (e := 44) (B := A * slotA t * own 44 4 (.slice ta (itsS t).length tcap) (itsS t).length (flat (itsS t))) s6 (by ac_rfl)) s6).mono ?_)
  rintro r w7 ⟨rfl, s7⟩
  simp
  refine loopI (fun env w' => ∃ (i : Nat) (xs : List Value), env = [.pointer (some ⟨dd, 0, none⟩), .int .i64 k, .int .i64 a, .int .i64 b, .bool false, gp t, mp t, .slice ra (itsS t).length rcap, .slice ta (itsS t).length tcap, .int .i64 i, undef, undef, undef, undef, undef, undef, undef] ∧ i ≤ (itsS t).length ∧
      St w0 (A * own 44 4 (.slice ra (itsS t).length rcap) (itsS t).length (flat (itsS t)) * slotA t * own 44 4 (.slice ta (itsS t).length tcap) (itsS t).length xs) w')
    (fun env _ => (itsS t).length - slotN env 9) ⟨0, _, rfl, by omega, s7.to (by ac_rfl)⟩ ?_
  rintro LQ env w' ⟨i, xs, rfl, hi, s'⟩ hN hE hR
  simp
  refine cndI (fun h => ?_) (fun h => ?_)
  · simp at h
    obtain ⟨g, cap', hv, _, _⟩ := s'.own_at (by omega)
    cases hv
    have hxl : xs.length = (itsS t).length * 4 := s'.own.1
    simp [h, Instr.fill, Value.cells]
    refine eff_stR (vs := It.cs ⟨-9, 0, 0, 0⟩) s' rfl rfl (cs_one _) (by omega) ?_
    intro w8 s8
    simp
    try simp (disch := omega) only [wrap64]
    exact hN _ _ ⟨i + 1, _, by simp, by omega, s8⟩ (by simp [slotN]; omega)
  · simp at h
    simp
    refine hE _ _ _ ?_
    simp
    simpa using looks_rest dd k t a b w0 w' A hlen ht ra rcap _ _ s'.drop
end Go.HL.Gd
