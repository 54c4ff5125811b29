/-
  Wheel: time goes on; what is done with one timer. Conditions: so many timers at most.
-/
import Derived.Test.YtngjaibngkhidaaWhG
import Derived.Test.YtngjaibngkhidaaWhF
namespace Go.HL.Wh
open Go.HL Go.Proofs
set_option maxRecDepth 4000
set_option linter.unusedSimpArgs false
set_option linter.unusedVariables false
-- (*bazaar/wheel.Wheel).Advance
def h14_0 : HC := (.seq (.reg (.done [(2, (.inp 6)), (3, (.cst (.int .i64 0)))] none)) .ret)
@[simp] theorem h14_0_wp {P : Program} {F : PF P} {Q : EX → List Value → World → Prop} {env : List Value} {w : World} : h14_0.wp F Q env w = HC.wp F (.seq (.reg (.done [(2, (.inp 6)), (3, (.cst (.int .i64 0)))] none)) .ret) Q env w := rfl
def h14_1 : HC := (.seq (.reg (.eff (.call 33) (.cons (.inp 6) (.cons (.cst (.func (.func 34) #[] #[])) .nil)) (.done [] none))) h14_0)
@[simp] theorem h14_1_wp {P : Program} {F : PF P} {Q : EX → List Value → World → Prop} {env : List Value} {w : World} : h14_1.wp F Q env w = HC.wp F (.seq (.reg (.eff (.call 33) (.cons (.inp 6) (.cons (.cst (.func (.func 34) #[] #[])) .nil)) (.done [] none))) h14_0) Q env w := rfl
def h14_2 : HC := (.reg (.chk none (.bin .add) (.cons (.inp 7) (.cons (.cst (.int .i64 1)) .nil)) (.done [(7, (.op (.bin .add) (.cons (.inp 7) (.cons (.cst (.int .i64 1)) .nil))))] none)))
@[simp] theorem h14_2_wp {P : Program} {F : PF P} {Q : EX → List Value → World → Prop} {env : List Value} {w : World} : h14_2.wp F Q env w = HC.wp F (.reg (.chk none (.bin .add) (.cons (.inp 7) (.cons (.cst (.int .i64 1)) .nil)) (.done [(7, (.op (.bin .add) (.cons (.inp 7) (.cons (.cst (.int .i64 1)) .nil))))] none))) Q env w := rfl
def h14_3 : HC := (.reg (.chk none (.bin .add) (.cons (.inp 11) (.cons (.cst (.int .i64 1)) .nil)) (.done [(11, (.op (.bin .add) (.cons (.inp 11) (.cons (.cst (.int .i64 1)) .nil))))] none)))
@[simp] theorem h14_3_wp {P : Program} {F : PF P} {Q : EX → List Value → World → Prop} {env : List Value} {w : World} : h14_3.wp F Q env w = HC.wp F (.reg (.chk none (.bin .add) (.cons (.inp 11) (.cons (.cst (.int .i64 1)) .nil)) (.done [(11, (.op (.bin .add) (.cons (.inp 11) (.cons (.cst (.int .i64 1)) .nil))))] none))) Q env w := rfl
def h14_4 : HC := (.reg (.eff (.call 30) (.cons (.inp 0) (.cons (.inp 9) .nil)) (.done [] none)))
@[simp] theorem h14_4_wp {P : Program} {F : PF P} {Q : EX → List Value → World → Prop} {env : List Value} {w : World} : h14_4.wp F Q env w = HC.wp F (.reg (.eff (.call 30) (.cons (.inp 0) (.cons (.inp 9) .nil)) (.done [] none))) Q env w := rfl
def h14_5 : HC := (.seq (.reg (.chk none .chkp (.cons (.inp 9) .nil) (.chk none (.fld 0) (.cons (.op .chkp (.cons (.inp 9) .nil)) .nil) (.eff (.ld true 2) (.cons (.op (.fld 0) (.cons (.op .chkp (.cons (.inp 9) .nil)) .nil)) .nil) (.eff (.bsl 32 1 2 #[(.int .i64 0), (.int .i64 0)] [0]) (.cons (.bv 0) .nil) (.eff (.app 38 38 32 2 16 (.agg #[(.int .i64 0), (.int .i64 0)])) (.cons (.inp 6) (.cons (.bv 1) .nil)) (.done [(6, (.bv 2))] none))))))) h14_4)
@[simp] theorem h14_5_wp {P : Program} {F : PF P} {Q : EX → List Value → World → Prop} {env : List Value} {w : World} : h14_5.wp F Q env w = HC.wp F (.seq (.reg (.chk none .chkp (.cons (.inp 9) .nil) (.chk none (.fld 0) (.cons (.op .chkp (.cons (.inp 9) .nil)) .nil) (.eff (.ld true 2) (.cons (.op (.fld 0) (.cons (.op .chkp (.cons (.inp 9) .nil)) .nil)) .nil) (.eff (.bsl 32 1 2 #[(.int .i64 0), (.int .i64 0)] [0]) (.cons (.bv 0) .nil) (.eff (.app 38 38 32 2 16 (.agg #[(.int .i64 0), (.int .i64 0)])) (.cons (.inp 6) (.cons (.bv 1) .nil)) (.done [(6, (.bv 2))] none))))))) h14_4) Q env w := rfl
def h14_6 : HC := (.reg (.chk none .chkp (.cons (.inp 0) .nil) (.chk none (.fld 1) (.cons (.op .chkp (.cons (.inp 0) .nil)) .nil) (.eff (.ld false 1) (.cons (.op (.fld 1) (.cons (.op .chkp (.cons (.inp 0) .nil)) .nil)) .nil) (.chk none (.bin .add) (.cons (.bv 0) (.cons (.cst (.int .i64 1)) .nil)) (.chk none .chkp (.cons (.inp 0) .nil) (.chk none (.fld 1) (.cons (.op .chkp (.cons (.inp 0) .nil)) .nil) (.eff (.st 1) (.cons (.op (.fld 1) (.cons (.op .chkp (.cons (.inp 0) .nil)) .nil)) (.cons (.op (.bin .add) (.cons (.bv 0) (.cons (.cst (.int .i64 1)) .nil))) .nil)) (.done [] none)))))))))
@[simp] theorem h14_6_wp {P : Program} {F : PF P} {Q : EX → List Value → World → Prop} {env : List Value} {w : World} : h14_6.wp F Q env w = HC.wp F (.reg (.chk none .chkp (.cons (.inp 0) .nil) (.chk none (.fld 1) (.cons (.op .chkp (.cons (.inp 0) .nil)) .nil) (.eff (.ld false 1) (.cons (.op (.fld 1) (.cons (.op .chkp (.cons (.inp 0) .nil)) .nil)) .nil) (.chk none (.bin .add) (.cons (.bv 0) (.cons (.cst (.int .i64 1)) .nil)) (.chk none .chkp (.cons (.inp 0) .nil) (.chk none (.fld 1) (.cons (.op .chkp (.cons (.inp 0) .nil)) .nil) (.eff (.st 1) (.cons (.op (.fld 1) (.cons (.op .chkp (.cons (.inp 0) .nil)) .nil)) (.cons (.op (.bin .add) (.cons (.bv 0) (.cons (.cst (.int .i64 1)) .nil))) .nil)) (.done [] none))))))))) Q env w := rfl
def h14_7 : HC := (.seq (.reg (.eff (.call 29) (.cons (.inp 0) (.cons (.inp 9) .nil)) (.done [] none))) h14_6)
@[simp] theorem h14_7_wp {P : Program} {F : PF P} {Q : EX → List Value → World → Prop} {env : List Value} {w : World} : h14_7.wp F Q env w = HC.wp F (.seq (.reg (.eff (.call 29) (.cons (.inp 0) (.cons (.inp 9) .nil)) (.done [] none))) h14_6) Q env w := rfl
def h14_8 : HC := (.seq (.regq (some 1) (.chk none (.cal 32) (.cons (.inp 0) (.cons (.inp 7) (.cons (.inp 8) .nil))) (.chk none .chkp (.cons (.op (.cal 32) (.cons (.inp 0) (.cons (.inp 7) (.cons (.inp 8) .nil)))) .nil) (.eff (.ld false 1) (.cons (.op .chkp (.cons (.op (.cal 32) (.cons (.inp 0) (.cons (.inp 7) (.cons (.inp 8) .nil)))) .nil)) .nil) (.chk none .chkp (.cons (.inp 9) .nil) (.chk none (.fld 0) (.cons (.op .chkp (.cons (.inp 9) .nil)) .nil) (.chk none (.fld 0) (.cons (.op (.fld 0) (.cons (.op .chkp (.cons (.inp 9) .nil)) .nil)) .nil) (.eff (.ld false 1) (.cons (.op (.fld 0) (.cons (.op (.fld 0) (.cons (.op .chkp (.cons (.inp 9) .nil)) .nil)) .nil)) .nil) (.eff (.bi .delete #[72, 3] 0 #[false, false]) (.cons (.bv 0) (.cons (.bv 1) .nil)) (.done [] none)))))))))) h14_7)
@[simp] theorem h14_8_wp {P : Program} {F : PF P} {Q : EX → List Value → World → Prop} {env : List Value} {w : World} : h14_8.wp F Q env w = HC.wp F (.seq (.regq (some 1) (.chk none (.cal 32) (.cons (.inp 0) (.cons (.inp 7) (.cons (.inp 8) .nil))) (.chk none .chkp (.cons (.op (.cal 32) (.cons (.inp 0) (.cons (.inp 7) (.cons (.inp 8) .nil)))) .nil) (.eff (.ld false 1) (.cons (.op .chkp (.cons (.op (.cal 32) (.cons (.inp 0) (.cons (.inp 7) (.cons (.inp 8) .nil)))) .nil)) .nil) (.chk none .chkp (.cons (.inp 9) .nil) (.chk none (.fld 0) (.cons (.op .chkp (.cons (.inp 9) .nil)) .nil) (.chk none (.fld 0) (.cons (.op (.fld 0) (.cons (.op .chkp (.cons (.inp 9) .nil)) .nil)) .nil) (.eff (.ld false 1) (.cons (.op (.fld 0) (.cons (.op (.fld 0) (.cons (.op .chkp (.cons (.inp 9) .nil)) .nil)) .nil)) .nil) (.eff (.bi .delete #[72, 3] 0 #[false, false]) (.cons (.bv 0) (.cons (.bv 1) .nil)) (.done [] none)))))))))) h14_7) Q env w := rfl
def h14_9 : HC := (.br (.chk none (.bin .neq) (.cons (.inp 10) (.cons (.inp 7) .nil)) (.done [] (some (.op (.bin .neq) (.cons (.inp 10) (.cons (.inp 7) .nil)))))) h14_8 .skip)
@[simp] theorem h14_9_wp {P : Program} {F : PF P} {Q : EX → List Value → World → Prop} {env : List Value} {w : World} : h14_9.wp F Q env w = HC.wp F (.br (.chk none (.bin .neq) (.cons (.inp 10) (.cons (.inp 7) .nil)) (.done [] (some (.op (.bin .neq) (.cons (.inp 10) (.cons (.inp 7) .nil)))))) h14_8 .skip) Q env w := rfl
def h14_10 : HC := (.seq (.reg (.chk none .chkp (.cons (.inp 9) .nil) (.chk none (.fld 0) (.cons (.op .chkp (.cons (.inp 9) .nil)) .nil) (.chk none (.fld 1) (.cons (.op (.fld 0) (.cons (.op .chkp (.cons (.inp 9) .nil)) .nil)) .nil) (.eff (.ld false 1) (.cons (.op (.fld 1) (.cons (.op (.fld 0) (.cons (.op .chkp (.cons (.inp 9) .nil)) .nil)) .nil)) .nil) (.chk none (.cal 31) (.cons (.bv 0) (.cons (.inp 1) .nil)) (.chk none (.ext 0) (.cons (.op (.cal 31) (.cons (.bv 0) (.cons (.inp 1) .nil))) .nil) (.chk none (.ext 1) (.cons (.op (.cal 31) (.cons (.bv 0) (.cons (.inp 1) .nil))) .nil) (.done [(10, (.op (.ext 0) (.cons (.op (.cal 31) (.cons (.bv 0) (.cons (.inp 1) .nil))) .nil)))] none))))))))) h14_9)
@[simp] theorem h14_10_wp {P : Program} {F : PF P} {Q : EX → List Value → World → Prop} {env : List Value} {w : World} : h14_10.wp F Q env w = HC.wp F (.seq (.reg (.chk none .chkp (.cons (.inp 9) .nil) (.chk none (.fld 0) (.cons (.op .chkp (.cons (.inp 9) .nil)) .nil) (.chk none (.fld 1) (.cons (.op (.fld 0) (.cons (.op .chkp (.cons (.inp 9) .nil)) .nil)) .nil) (.eff (.ld false 1) (.cons (.op (.fld 1) (.cons (.op (.fld 0) (.cons (.op .chkp (.cons (.inp 9) .nil)) .nil)) .nil)) .nil) (.chk none (.cal 31) (.cons (.bv 0) (.cons (.inp 1) .nil)) (.chk none (.ext 0) (.cons (.op (.cal 31) (.cons (.bv 0) (.cons (.inp 1) .nil))) .nil) (.chk none (.ext 1) (.cons (.op (.cal 31) (.cons (.bv 0) (.cons (.inp 1) .nil))) .nil) (.done [(10, (.op (.ext 0) (.cons (.op (.cal 31) (.cons (.bv 0) (.cons (.inp 1) .nil))) .nil)))] none))))))))) h14_9) Q env w := rfl
def h14_11 : HC := (.br (.chk none .chkp (.cons (.inp 9) .nil) (.chk none (.fld 0) (.cons (.op .chkp (.cons (.inp 9) .nil)) .nil) (.chk none (.fld 1) (.cons (.op (.fld 0) (.cons (.op .chkp (.cons (.inp 9) .nil)) .nil)) .nil) (.eff (.ld false 1) (.cons (.op (.fld 1) (.cons (.op (.fld 0) (.cons (.op .chkp (.cons (.inp 9) .nil)) .nil)) .nil)) .nil) (.chk none (.bin .leq) (.cons (.bv 0) (.cons (.inp 1) .nil)) (.done [] (some (.op (.bin .leq) (.cons (.bv 0) (.cons (.inp 1) .nil)))))))))) h14_5 h14_10)
@[simp] theorem h14_11_wp {P : Program} {F : PF P} {Q : EX → List Value → World → Prop} {env : List Value} {w : World} : h14_11.wp F Q env w = HC.wp F (.br (.chk none .chkp (.cons (.inp 9) .nil) (.chk none (.fld 0) (.cons (.op .chkp (.cons (.inp 9) .nil)) .nil) (.chk none (.fld 1) (.cons (.op (.fld 0) (.cons (.op .chkp (.cons (.inp 9) .nil)) .nil)) .nil) (.eff (.ld false 1) (.cons (.op (.fld 1) (.cons (.op (.fld 0) (.cons (.op .chkp (.cons (.inp 9) .nil)) .nil)) .nil)) .nil) (.chk none (.bin .leq) (.cons (.bv 0) (.cons (.inp 1) .nil)) (.done [] (some (.op (.bin .leq) (.cons (.bv 0) (.cons (.inp 1) .nil)))))))))) h14_5 h14_10) Q env w := rfl
def h14_12 : HC := (.seq (.reg (.eff .ent (.cons (.inp 12) .nil) (.chk none (.ext 1) (.cons (.bv 0) .nil) (.done [(9, (.op (.ext 1) (.cons (.bv 0) .nil)))] none)))) h14_11)
@[simp] theorem h14_12_wp {P : Program} {F : PF P} {Q : EX → List Value → World → Prop} {env : List Value} {w : World} : h14_12.wp F Q env w = HC.wp F (.seq (.reg (.eff .ent (.cons (.inp 12) .nil) (.chk none (.ext 1) (.cons (.bv 0) .nil) (.done [(9, (.op (.ext 1) (.cons (.bv 0) .nil)))] none)))) h14_11) Q env w := rfl
def h14_13 : HC := (.block 6 h14_12)
@[simp] theorem h14_13_wp {P : Program} {F : PF P} {Q : EX → List Value → World → Prop} {env : List Value} {w : World} : h14_13.wp F Q env w = HC.wp F (.block 6 h14_12) Q env w := rfl
def h14_14 : HC := (.seq (.br (.eff (.nxt false 0) (.cons (.inp 12) .nil) (.chk none (.ext 0) (.cons (.bv 0) .nil) (.done [] (some (.op (.ext 0) (.cons (.bv 0) .nil)))))) .skip (.exit 5)) h14_13)
@[simp] theorem h14_14_wp {P : Program} {F : PF P} {Q : EX → List Value → World → Prop} {env : List Value} {w : World} : h14_14.wp F Q env w = HC.wp F (.seq (.br (.eff (.nxt false 0) (.cons (.inp 12) .nil) (.chk none (.ext 0) (.cons (.bv 0) .nil) (.done [] (some (.op (.ext 0) (.cons (.bv 0) .nil)))))) .skip (.exit 5)) h14_13) Q env w := rfl
def h14_15 : HC := (.loop h14_14)
@[simp] theorem h14_15_wp {P : Program} {F : PF P} {Q : EX → List Value → World → Prop} {env : List Value} {w : World} : h14_15.wp F Q env w = HC.wp F (.loop h14_14) Q env w := rfl
def h14_16 : HC := (.block 5 h14_15)
@[simp] theorem h14_16_wp {P : Program} {F : PF P} {Q : EX → List Value → World → Prop} {env : List Value} {w : World} : h14_16.wp F Q env w = HC.wp F (.block 5 h14_15) Q env w := rfl
def h14_17 : HC := (.seq (.reg (.chk none (.cal 32) (.cons (.inp 0) (.cons (.inp 7) (.cons (.inp 8) .nil))) (.chk none .chkp (.cons (.op (.cal 32) (.cons (.inp 0) (.cons (.inp 7) (.cons (.inp 8) .nil)))) .nil) (.eff (.ld false 1) (.cons (.op .chkp (.cons (.op (.cal 32) (.cons (.inp 0) (.cons (.inp 7) (.cons (.inp 8) .nil)))) .nil)) .nil) (.eff (.rng 72) (.cons (.bv 0) .nil) (.done [(12, (.bv 1))] none)))))) h14_16)
@[simp] theorem h14_17_wp {P : Program} {F : PF P} {Q : EX → List Value → World → Prop} {env : List Value} {w : World} : h14_17.wp F Q env w = HC.wp F (.seq (.reg (.chk none (.cal 32) (.cons (.inp 0) (.cons (.inp 7) (.cons (.inp 8) .nil))) (.chk none .chkp (.cons (.op (.cal 32) (.cons (.inp 0) (.cons (.inp 7) (.cons (.inp 8) .nil)))) .nil) (.eff (.ld false 1) (.cons (.op .chkp (.cons (.op (.cal 32) (.cons (.inp 0) (.cons (.inp 7) (.cons (.inp 8) .nil)))) .nil)) .nil) (.eff (.rng 72) (.cons (.bv 0) .nil) (.done [(12, (.bv 1))] none)))))) h14_16) Q env w := rfl
def h14_18 : HC := (.seq (.br (.chk none (.bin .eql) (.cons (.inp 7) (.cons (.cst (.int .i64 4)) .nil)) (.bnd (.op (.bin .eql) (.cons (.inp 7) (.cons (.cst (.int .i64 4)) .nil))) (.chk (some ((.bv 0), true)) (.bin .gtr) (.cons (.inp 8) (.cons (.cst (.int .i64 0)) .nil)) (.isb none (.bv 0) (.bnd (.ite (.bv 0) true (.op (.bin .gtr) (.cons (.inp 8) (.cons (.cst (.int .i64 0)) .nil))) (.cst (.bool false))) (.chk (some ((.bv 1), false)) (.bin .eql) (.cons (.inp 7) (.cons (.inp 4) .nil)) (.bnd (.ite (.bv 1) false (.op (.bin .eql) (.cons (.inp 7) (.cons (.inp 4) .nil))) (.cst (.tuple #[]))) (.chk (some ((.bv 2), true)) (.bin .gtr) (.cons (.inp 8) (.cons (.inp 5) .nil)) (.isb (some ((.bv 1), false)) (.bv 2) (.isb none (.bv 1) (.done [] (some (.ite (.bv 1) true (.cst (.bool true)) (.ite (.bv 2) true (.op (.bin .gtr) (.cons (.inp 8) (.cons (.inp 5) .nil))) (.cst (.bool false)))))))))))))))) (.exit 3) .skip) h14_17)
@[simp] theorem h14_18_wp {P : Program} {F : PF P} {Q : EX → List Value → World → Prop} {env : List Value} {w : World} : h14_18.wp F Q env w = HC.wp F (.seq (.br (.chk none (.bin .eql) (.cons (.inp 7) (.cons (.cst (.int .i64 4)) .nil)) (.bnd (.op (.bin .eql) (.cons (.inp 7) (.cons (.cst (.int .i64 4)) .nil))) (.chk (some ((.bv 0), true)) (.bin .gtr) (.cons (.inp 8) (.cons (.cst (.int .i64 0)) .nil)) (.isb none (.bv 0) (.bnd (.ite (.bv 0) true (.op (.bin .gtr) (.cons (.inp 8) (.cons (.cst (.int .i64 0)) .nil))) (.cst (.bool false))) (.chk (some ((.bv 1), false)) (.bin .eql) (.cons (.inp 7) (.cons (.inp 4) .nil)) (.bnd (.ite (.bv 1) false (.op (.bin .eql) (.cons (.inp 7) (.cons (.inp 4) .nil))) (.cst (.tuple #[]))) (.chk (some ((.bv 2), true)) (.bin .gtr) (.cons (.inp 8) (.cons (.inp 5) .nil)) (.isb (some ((.bv 1), false)) (.bv 2) (.isb none (.bv 1) (.done [] (some (.ite (.bv 1) true (.cst (.bool true)) (.ite (.bv 2) true (.op (.bin .gtr) (.cons (.inp 8) (.cons (.inp 5) .nil))) (.cst (.bool false)))))))))))))))) (.exit 3) .skip) h14_17) Q env w := rfl
def h14_19 : HC := (.seq (.reg (.done [(8, (.inp 11))] none)) h14_18)
@[simp] theorem h14_19_wp {P : Program} {F : PF P} {Q : EX → List Value → World → Prop} {env : List Value} {w : World} : h14_19.wp F Q env w = HC.wp F (.seq (.reg (.done [(8, (.inp 11))] none)) h14_18) Q env w := rfl
def h14_20 : HC := (.seq (.block 4 h14_19) h14_3)
@[simp] theorem h14_20_wp {P : Program} {F : PF P} {Q : EX → List Value → World → Prop} {env : List Value} {w : World} : h14_20.wp F Q env w = HC.wp F (.seq (.block 4 h14_19) h14_3) Q env w := rfl
def h14_21 : HC := (.seq (.br (.chk none (.bin .lss) (.cons (.inp 11) (.cons (.cst (.int .i64 64)) .nil)) (.done [] (some (.op (.bin .lss) (.cons (.inp 11) (.cons (.cst (.int .i64 64)) .nil)))))) .skip (.exit 3)) h14_20)
@[simp] theorem h14_21_wp {P : Program} {F : PF P} {Q : EX → List Value → World → Prop} {env : List Value} {w : World} : h14_21.wp F Q env w = HC.wp F (.seq (.br (.chk none (.bin .lss) (.cons (.inp 11) (.cons (.cst (.int .i64 64)) .nil)) (.done [] (some (.op (.bin .lss) (.cons (.inp 11) (.cons (.cst (.int .i64 64)) .nil)))))) .skip (.exit 3)) h14_20) Q env w := rfl
def h14_22 : HC := (.loop h14_21)
@[simp] theorem h14_22_wp {P : Program} {F : PF P} {Q : EX → List Value → World → Prop} {env : List Value} {w : World} : h14_22.wp F Q env w = HC.wp F (.loop h14_21) Q env w := rfl
def h14_23 : HC := (.block 3 h14_22)
@[simp] theorem h14_23_wp {P : Program} {F : PF P} {Q : EX → List Value → World → Prop} {env : List Value} {w : World} : h14_23.wp F Q env w = HC.wp F (.block 3 h14_22) Q env w := rfl
def h14_24 : HC := (.seq (.reg (.done [(11, (.cst (.int .i64 0)))] none)) h14_23)
@[simp] theorem h14_24_wp {P : Program} {F : PF P} {Q : EX → List Value → World → Prop} {env : List Value} {w : World} : h14_24.wp F Q env w = HC.wp F (.seq (.reg (.done [(11, (.cst (.int .i64 0)))] none)) h14_23) Q env w := rfl
def h14_25 : HC := (.seq (.block 2 h14_24) h14_2)
@[simp] theorem h14_25_wp {P : Program} {F : PF P} {Q : EX → List Value → World → Prop} {env : List Value} {w : World} : h14_25.wp F Q env w = HC.wp F (.seq (.block 2 h14_24) h14_2) Q env w := rfl
def h14_26 : HC := (.seq (.br (.chk none (.bin .leq) (.cons (.inp 7) (.cons (.inp 4) .nil)) (.done [] (some (.op (.bin .leq) (.cons (.inp 7) (.cons (.inp 4) .nil)))))) .skip (.exit 1)) h14_25)
@[simp] theorem h14_26_wp {P : Program} {F : PF P} {Q : EX → List Value → World → Prop} {env : List Value} {w : World} : h14_26.wp F Q env w = HC.wp F (.seq (.br (.chk none (.bin .leq) (.cons (.inp 7) (.cons (.inp 4) .nil)) (.done [] (some (.op (.bin .leq) (.cons (.inp 7) (.cons (.inp 4) .nil)))))) .skip (.exit 1)) h14_25) Q env w := rfl
def h14_27 : HC := (.loop h14_26)
@[simp] theorem h14_27_wp {P : Program} {F : PF P} {Q : EX → List Value → World → Prop} {env : List Value} {w : World} : h14_27.wp F Q env w = HC.wp F (.loop h14_26) Q env w := rfl
def h14_28 : HC := (.seq (.block 1 h14_27) h14_1)
@[simp] theorem h14_28_wp {P : Program} {F : PF P} {Q : EX → List Value → World → Prop} {env : List Value} {w : World} : h14_28.wp F Q env w = HC.wp F (.seq (.block 1 h14_27) h14_1) Q env w := rfl
def h14_29 : HC := (.seq (.reg (.done [(7, (.cst (.int .i64 0)))] none)) h14_28)
@[simp] theorem h14_29_wp {P : Program} {F : PF P} {Q : EX → List Value → World → Prop} {env : List Value} {w : World} : h14_29.wp F Q env w = HC.wp F (.seq (.reg (.done [(7, (.cst (.int .i64 0)))] none)) h14_28) Q env w := rfl
def h14_30 : HC := (.seq (.reg (.done [(6, (.cst (.slice none 0 0)))] none)) h14_29)
@[simp] theorem h14_30_wp {P : Program} {F : PF P} {Q : EX → List Value → World → Prop} {env : List Value} {w : World} : h14_30.wp F Q env w = HC.wp F (.seq (.reg (.done [(6, (.cst (.slice none 0 0)))] none)) h14_29) Q env w := rfl
def h14_31 : HC := (.seq (.reg (.chk none .chkp (.cons (.inp 0) .nil) (.chk none (.fld 0) (.cons (.op .chkp (.cons (.inp 0) .nil)) .nil) (.eff (.st 1) (.cons (.op (.fld 0) (.cons (.op .chkp (.cons (.inp 0) .nil)) .nil)) (.cons (.inp 1) .nil)) (.done [] none))))) h14_30)
@[simp] theorem h14_31_wp {P : Program} {F : PF P} {Q : EX → List Value → World → Prop} {env : List Value} {w : World} : h14_31.wp F Q env w = HC.wp F (.seq (.reg (.chk none .chkp (.cons (.inp 0) .nil) (.chk none (.fld 0) (.cons (.op .chkp (.cons (.inp 0) .nil)) .nil) (.eff (.st 1) (.cons (.op (.fld 0) (.cons (.op .chkp (.cons (.inp 0) .nil)) .nil)) (.cons (.inp 1) .nil)) (.done [] none))))) h14_30) Q env w := rfl
def h14_32 : HC := (.seq (.reg (.chk none .chkp (.cons (.inp 0) .nil) (.chk none (.fld 0) (.cons (.op .chkp (.cons (.inp 0) .nil)) .nil) (.eff (.ld false 1) (.cons (.op (.fld 0) (.cons (.op .chkp (.cons (.inp 0) .nil)) .nil)) .nil) (.chk none (.cal 31) (.cons (.inp 1) (.cons (.bv 0) .nil)) (.chk none (.ext 0) (.cons (.op (.cal 31) (.cons (.inp 1) (.cons (.bv 0) .nil))) .nil) (.chk none (.ext 1) (.cons (.op (.cal 31) (.cons (.inp 1) (.cons (.bv 0) .nil))) .nil) (.done [(4, (.op (.ext 0) (.cons (.op (.cal 31) (.cons (.inp 1) (.cons (.bv 0) .nil))) .nil))), (5, (.op (.ext 1) (.cons (.op (.cal 31) (.cons (.inp 1) (.cons (.bv 0) .nil))) .nil)))] none)))))))) h14_31)
@[simp] theorem h14_32_wp {P : Program} {F : PF P} {Q : EX → List Value → World → Prop} {env : List Value} {w : World} : h14_32.wp F Q env w = HC.wp F (.seq (.reg (.chk none .chkp (.cons (.inp 0) .nil) (.chk none (.fld 0) (.cons (.op .chkp (.cons (.inp 0) .nil)) .nil) (.eff (.ld false 1) (.cons (.op (.fld 0) (.cons (.op .chkp (.cons (.inp 0) .nil)) .nil)) .nil) (.chk none (.cal 31) (.cons (.inp 1) (.cons (.bv 0) .nil)) (.chk none (.ext 0) (.cons (.op (.cal 31) (.cons (.inp 1) (.cons (.bv 0) .nil))) .nil) (.chk none (.ext 1) (.cons (.op (.cal 31) (.cons (.inp 1) (.cons (.bv 0) .nil))) .nil) (.done [(4, (.op (.ext 0) (.cons (.op (.cal 31) (.cons (.inp 1) (.cons (.bv 0) .nil))) .nil))), (5, (.op (.ext 1) (.cons (.op (.cal 31) (.cons (.inp 1) (.cons (.bv 0) .nil))) .nil)))] none)))))))) h14_31) Q env w := rfl
def h14_33 : HC := (.seq (.reg (.done [(2, (.cst (.slice none 0 0))), (3, (.cst (.int .i64 1)))] none)) .ret)
@[simp] theorem h14_33_wp {P : Program} {F : PF P} {Q : EX → List Value → World → Prop} {env : List Value} {w : World} : h14_33.wp F Q env w = HC.wp F (.seq (.reg (.done [(2, (.cst (.slice none 0 0))), (3, (.cst (.int .i64 1)))] none)) .ret) Q env w := rfl
def h14_34 : HC := (.seq (.reg (.done [(2, (.cst (.slice none 0 0))), (3, (.cst (.int .i64 90)))] none)) .ret)
@[simp] theorem h14_34_wp {P : Program} {F : PF P} {Q : EX → List Value → World → Prop} {env : List Value} {w : World} : h14_34.wp F Q env w = HC.wp F (.seq (.reg (.done [(2, (.cst (.slice none 0 0))), (3, (.cst (.int .i64 90)))] none)) .ret) Q env w := rfl
def h14_35 : HC := (.seq (.reg (.done [(2, (.cst (.slice none 0 0))), (3, (.cst (.int .i64 0)))] none)) .ret)
@[simp] theorem h14_35_wp {P : Program} {F : PF P} {Q : EX → List Value → World → Prop} {env : List Value} {w : World} : h14_35.wp F Q env w = HC.wp F (.seq (.reg (.done [(2, (.cst (.slice none 0 0))), (3, (.cst (.int .i64 0)))] none)) .ret) Q env w := rfl
def h14_36 : HC := (.br (.chk none .chkp (.cons (.inp 0) .nil) (.chk none (.fld 0) (.cons (.op .chkp (.cons (.inp 0) .nil)) .nil) (.eff (.ld false 1) (.cons (.op (.fld 0) (.cons (.op .chkp (.cons (.inp 0) .nil)) .nil)) .nil) (.chk none (.bin .eql) (.cons (.inp 1) (.cons (.bv 0) .nil)) (.done [] (some (.op (.bin .eql) (.cons (.inp 1) (.cons (.bv 0) .nil))))))))) h14_35 .skip)
@[simp] theorem h14_36_wp {P : Program} {F : PF P} {Q : EX → List Value → World → Prop} {env : List Value} {w : World} : h14_36.wp F Q env w = HC.wp F (.br (.chk none .chkp (.cons (.inp 0) .nil) (.chk none (.fld 0) (.cons (.op .chkp (.cons (.inp 0) .nil)) .nil) (.eff (.ld false 1) (.cons (.op (.fld 0) (.cons (.op .chkp (.cons (.inp 0) .nil)) .nil)) .nil) (.chk none (.bin .eql) (.cons (.inp 1) (.cons (.bv 0) .nil)) (.done [] (some (.op (.bin .eql) (.cons (.inp 1) (.cons (.bv 0) .nil))))))))) h14_35 .skip) Q env w := rfl
def h14_37 : HC := (.br (.chk none .chkp (.cons (.inp 0) .nil) (.chk none (.fld 0) (.cons (.op .chkp (.cons (.inp 0) .nil)) .nil) (.eff (.ld false 1) (.cons (.op (.fld 0) (.cons (.op .chkp (.cons (.inp 0) .nil)) .nil)) .nil) (.chk none (.bin .lss) (.cons (.inp 1) (.cons (.bv 0) .nil)) (.bnd (.op (.bin .lss) (.cons (.inp 1) (.cons (.bv 0) .nil))) (.chk (some ((.bv 1), false)) (.bin .gtr) (.cons (.inp 1) (.cons (.cst (.int .i64 1099511627776)) .nil)) (.isb none (.bv 1) (.done [] (some (.ite (.bv 1) true (.cst (.bool true)) (.op (.bin .gtr) (.cons (.inp 1) (.cons (.cst (.int .i64 1099511627776)) .nil))))))))))))) h14_34 h14_36)
@[simp] theorem h14_37_wp {P : Program} {F : PF P} {Q : EX → List Value → World → Prop} {env : List Value} {w : World} : h14_37.wp F Q env w = HC.wp F (.br (.chk none .chkp (.cons (.inp 0) .nil) (.chk none (.fld 0) (.cons (.op .chkp (.cons (.inp 0) .nil)) .nil) (.eff (.ld false 1) (.cons (.op (.fld 0) (.cons (.op .chkp (.cons (.inp 0) .nil)) .nil)) .nil) (.chk none (.bin .lss) (.cons (.inp 1) (.cons (.bv 0) .nil)) (.bnd (.op (.bin .lss) (.cons (.inp 1) (.cons (.bv 0) .nil))) (.chk (some ((.bv 1), false)) (.bin .gtr) (.cons (.inp 1) (.cons (.cst (.int .i64 1099511627776)) .nil)) (.isb none (.bv 1) (.done [] (some (.ite (.bv 1) true (.cst (.bool true)) (.op (.bin .gtr) (.cons (.inp 1) (.cons (.cst (.int .i64 1099511627776)) .nil))))))))))))) h14_34 h14_36) Q env w := rfl
def h14_38 : HC := (.br (.chk none (.eqNil false (.pointer 76) (.pointer none)) (.cons (.inp 0) .nil) (.done [] (some (.op (.eqNil false (.pointer 76) (.pointer none)) (.cons (.inp 0) .nil))))) h14_33 h14_37)
@[simp] theorem h14_38_wp {P : Program} {F : PF P} {Q : EX → List Value → World → Prop} {env : List Value} {w : World} : h14_38.wp F Q env w = HC.wp F (.br (.chk none (.eqNil false (.pointer 76) (.pointer none)) (.cons (.inp 0) .nil) (.done [] (some (.op (.eqNil false (.pointer 76) (.pointer none)) (.cons (.inp 0) .nil))))) h14_33 h14_37) Q env w := rfl
def h14_39 : HC := (.seq (.block 0 h14_38) h14_32)
@[simp] theorem h14_39_wp {P : Program} {F : PF P} {Q : EX → List Value → World → Prop} {env : List Value} {w : World} : h14_39.wp F Q env w = HC.wp F (.seq (.block 0 h14_38) h14_32) Q env w := rfl
def l14 : Lifted := ⟨[0, 1, 4, 5, 6, 7, 8, 9, 10, 12, 13, 54, 79], 139, [.slot 2, .slot 3], (.seq (.reg (.done [(2, (.cst (.slice none 0 0))), (3, (.cst (.int .i64 0)))] none)) h14_39)⟩
theorem l14_ok : liftFn U2 14 400 = some l14 := by kernel_rfl


def tmr (t : Tm) : Int × Int := (t.n, (t.a : Int))
abbrev outs (v : Value) (os : List (Int × Int)) : Asn := own 32 2 v os.length (os.flatMap encT)
/-- one that is due -/
theorem due_part (p am now mv : Nat) (Y : Dk) (u : Tm) (aes : List En) (ac : Nat) (x : Nat × List En × Nat) (v : Value) (os : List (Int × Int)) (w0 w : World) (A : Asn) {Q : EX → List Value → World → Prop} (x1 x2 x3 x4 x5 x7 x8 x10 x11 x12 : Value) (ht : tmOK u) (hY : Y (tmQ u) = some x) (hos : os.length ≤ 65536)
    (s : St w0 (A * imap am aes ac * bigA slA Y 257 * wc p now mv am Y * outs v os * tmA u) w)
    (hk : ∀ v' w', St w0 (A * imap am (delI aes u.n) ac * bigA slA (upF Y (tmQ u) (dlX (some x) u.n)) 257 * wc p now mv am (upF Y (tmQ u) (dlX (some x) u.n)) * outs v' (os ++ [tmr u])) w' → Q .nrm [.pointer (some ⟨p, 0, none⟩), x1, x2, x3, x4, x5, v', x7, x8, tp u, x10, x11, x12] w') :
    h14_5.wp U2 Q [.pointer (some ⟨p, 0, none⟩), x1, x2, x3, x4, x5, v, x7, x8, tp u, x10, x11, x12] w := by
  simp
  refine eff_ldcs (vs := encT (tmr u)) (fun j y hy => ?_) rfl ?_
  · have hj : u.cs[j]? = some y := by
      match j, hy with
      | 0, hy => exact hy
      | 1, hy => exact hy
    exact s.row_cells j y hj
  simp
  refine eff_bslV s rfl ?_
  intro c w1 s1
  simp
  refine eff_app (m := 1) (news := encT (tmr u)) (s1.to (B := A * imap am aes ac * bigA slA Y 257 * wc p now mv am Y * tmA u * pt c (.cells (encT (tmr u)).toArray 32 (0, 0)) * outs v os) (by ac_rfl)) rfl s1.cells_look (fun y hy => by simp at hy; rcases hy with rfl | rfl <;> rfl) (by decide) rfl (by unfold maxLen; omega) (by omega) ?_
  intro v2 w2 s2
  simp
  have e : own 32 2 v2 (os.length + 1) (os.flatMap encT ++ encT (tmr u)) = outs v2 (os ++ [tmr u]) := by
    show _ = own _ 2 v2 (os ++ [tmr u]).length ((os ++ [tmr u]).flatMap encT)
    rw [List.length_append, List.flatMap_append]
    simp
  rw [e] at s2
  refine eff_call (drop_spec p am now mv Y u aes ac x w0 w2 (A * outs v2 (os ++ [tmr u])) ht hY (St.cut (pt c (.cells (encT (tmr u)).toArray 32 (0, 0))) s2 (by ac_rfl)) fun r w3 s3 => ?_)
  simp
  exact hk _ _ (St.cut (tmA u) s3 (by ac_rfl))
/-- one that goes to another place -/
theorem mov_part (p am now mv : Nat) (Y : Dk) (u : Tm) (x : Nat × List En × Nat) (w0 w : World) (A : Asn) {Q : EX → List Value → World → Prop} (l n : Nat) (x1 x2 x3 x4 x5 x6 x10 x11 x12 : Value) (hl : l ≤ 4) (hn : n < 64) (h4 : l = 4 → n = 0) (hY : Y (l * 64 + n) = some x) (ha : u.a ≤ 1099511627776) (hnow : now ≤ 1099511627776) (hmv : mv ≤ 4611686018427387904)
    (hfree : getI (slE (upF Y (l * 64 + n) (dlX (some x) u.n) (hgQ u now))) u.n = none)
    (s : St w0 (A * bigA slA Y 257 * wc p now mv am Y * tmA u) w)
    (hk : ∀ Y' m w', Y' = upF Y (l * 64 + n) (dlX (some x) u.n) → St w0 (A * bigA slA (upF Y' (hgQ u now) (hgX m (Y' (hgQ u now)) u)) 257 * wc p now (mv + 1) am (upF Y' (hgQ u now) (hgX m (Y' (hgQ u now)) u)) * tmA (hgT u now)) w' → Q .nrm [.pointer (some ⟨p, 0, none⟩), x1, x2, x3, x4, x5, x6, .int .i64 l, .int .i64 n, tp u, x10, x11, x12] w') :
    h14_8.wp U2 Q [.pointer (some ⟨p, 0, none⟩), x1, x2, x3, x4, x5, x6, .int .i64 l, .int .i64 n, tp u, x10, x11, x12] w := by
  obtain ⟨q, hqe⟩ : ∃ q, l * 64 + n = q := ⟨_, rfl⟩
  have hq257 : q < 257 := by omega
  rw [hqe] at hY hk hfree
  rw [big_at hq257, hY] at s
  have s : St w0 (A * (bigH slA Y q 257 * imap x.1 x.2.1 x.2.2) * wc p now mv am Y * tmA u) w := s
  simp
  refine regmI (plC2 (St w0 (A * (bigH slA Y q 257 * imap x.1 x.2.1 x.2.2) * wc p now mv am Y * tmA u)) (St w0 (A * (bigH slA Y q 257 * imap x.1 (delI x.2.1 u.n) x.2.2) * wc p now mv am Y * tmA u))) s.drew ?_
  simp
  refine ⟨⟨by omega, by omega, by omega⟩, ?_⟩
  rw [hqe]
  refine effm_ldc (v := .map (some x.1)) (fun vs' w he hw => ?_) ?_
  · match vs', hw with
    | [], hw =>
      have := wc_cell (show St w0 _ w from hw).drop hq257
      rw [hY] at this
      exact this
    | _ :: _, hw => simp [era] at he
  simp
  refine effm_ldc (v := .int .i64 u.n) (fun vs' w he hw => ?_) ?_
  · match vs', hw with
    | [], hw => exact (show St w0 _ w from hw).row_cells 0 _ rfl
    | _ :: _, hw => simp [era] at he
  simp
  refine effm_mv rfl (fun w hw => eff_delI hungI (St.to (show St w0 _ w from hw) (B := A * bigH slA Y q 257 * wc p now mv am Y * tmA u * imap x.1 x.2.1 x.2.2) (by ac_rfl)) fun w' h => ?_) (fun v _ => ?_)
  · show St w0 _ w'
    exact h.to (by ac_rfl)
  simp
  intro w2 s2
  have s2 : St w0 (A * (bigH slA Y q 257 * imap x.1 (delI x.2.1 u.n) x.2.2) * wc p now mv am Y * tmA u) w2 := s2
  obtain ⟨Y', hY'⟩ : ∃ Y', upF Y q (dlX (some x) u.n) = Y' := ⟨_, rfl⟩
  have s3 : St w0 (A * bigA slA Y' 257 * wc p now mv am Y' * tmA u) w2 := by
    rw [← hY', big_set hq257, wc_id p now mv am Y hq257 (x := dlX (some x) u.n) (by rw [hY]; rfl), show slA q (dlX (some x) u.n) = imap x.1 (delI x.2.1 u.n) x.2.2 from rfl]
    exact s2
  rw [hY'] at hfree hk
  refine eff_call (hang_spec p am now mv Y' u w0 w2 A (by omega) (by omega) hfree s3 fun r m w3 hm s4 => ?_)
  obtain ⟨Z, hZ⟩ : ∃ Z, upF Y' (hgQ u now) (hgX m (Y' (hgQ u now)) u) = Z := ⟨_, rfl⟩
  have hk := hk Y' m
  rw [hZ] at s4 hk
  simp
  refine eff_ldc (v := .int .i64 mv) (s4.drop.row_cells 1 _ rfl) ?_
  simp
  try simp (disch := omega) only [wrap64]
  refine eff_st1 (s4.swap) rfl (by simp [wcs_len]) ?_
  intro w4 s5
  simp
  refine hk w4 rfl ?_
  have e : (wcs now mv am Z).toArray.setIfInBounds 1 (.int .i64 (mv + 1)) = (wcs now (mv + 1) am Z).toArray := by
    simp [wcs]
  rw [e] at s5
  exact s5.swap
end Go.HL.Wh
