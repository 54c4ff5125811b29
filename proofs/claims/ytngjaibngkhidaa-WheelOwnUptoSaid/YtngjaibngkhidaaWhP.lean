/-
  Wheel: the law of what is due: what came out is checked, one by one. No condition.
-/
import Derived.Test.YtngjaibngkhidaaWhO
namespace Go.HL.Wh
open Go.HL Go.Proofs
set_option maxRecDepth 4000
set_option linter.unusedSimpArgs false
set_option linter.unusedVariables false
theorem setI : MapI Try.prog 30 3 3 (.int .i64 0) := ⟨by kernel_rfl, by kernel_rfl, by kernel_rfl⟩
-- bazaar/bazaarlaw09.WheelDue
def h3_0 : HC := (.seq (.reg (.done [(2, (.cst (.bool true)))] none)) .ret)
@[simp] theorem h3_0_wp {P : Program} {F : PF P} {Q : EX → List Value → World → Prop} {env : List Value} {w : World} : h3_0.wp F Q env w = HC.wp F (.seq (.reg (.done [(2, (.cst (.bool true)))] none)) .ret) Q env w := rfl
def h3_1 : HC := (.reg (.chk none (.bin .add) (.cons (.inp 8) (.cons (.cst (.int .i64 1)) .nil)) (.done [(8, (.op (.bin .add) (.cons (.inp 8) (.cons (.cst (.int .i64 1)) .nil))))] none)))
@[simp] theorem h3_1_wp {P : Program} {F : PF P} {Q : EX → List Value → World → Prop} {env : List Value} {w : World} : h3_1.wp F Q env w = HC.wp F (.reg (.chk none (.bin .add) (.cons (.inp 8) (.cons (.cst (.int .i64 1)) .nil)) (.done [(8, (.op (.bin .add) (.cons (.inp 8) (.cons (.cst (.int .i64 1)) .nil))))] none))) Q env w := rfl
def h3_2 : HC := (.seq (.reg (.done [(2, (.cst (.bool false)))] none)) .ret)
@[simp] theorem h3_2_wp {P : Program} {F : PF P} {Q : EX → List Value → World → Prop} {env : List Value} {w : World} : h3_2.wp F Q env w = HC.wp F (.seq (.reg (.done [(2, (.cst (.bool false)))] none)) .ret) Q env w := rfl
def h3_3 : HC := (.br (.eff (.call 15) (.cons (.inp 3) .nil) (.eff (.bi .len #[30] 3 #[false]) (.cons (.inp 5) .nil) (.chk none (.bin .neq) (.cons (.bv 0) (.cons (.bv 1) .nil)) (.bnd (.op (.bin .neq) (.cons (.bv 0) (.cons (.bv 1) .nil))) (.ite (.bv 2) false (.eff (.call 16) (.cons (.ite (.bv 2) false (.inp 3) (.cst (.tuple #[]))) .nil) (.chk none (.bin .neq) (.cons (.bv 3) (.cons (.inp 0) .nil)) (.isb none (.bv 2) (.bnd (.op (.bin .neq) (.cons (.bv 3) (.cons (.inp 0) .nil))) (.ite (.bv 4) false (.eff (.call 17) (.cons (.ite (.bv 4) false (.inp 3) (.cst (.tuple #[]))) .nil) (.chk none (.bin .lss) (.cons (.bv 5) (.cons (.cst (.int .i64 0)) .nil)) (.isb none (.bv 4) (.bnd (.op (.bin .lss) (.cons (.bv 5) (.cons (.cst (.int .i64 0)) .nil))) (.ite (.bv 6) false (.eff (.call 17) (.cons (.ite (.bv 6) false (.inp 3) (.cst (.tuple #[]))) .nil) (.chk none (.bin .mul) (.cons (.cst (.int .i64 4)) (.cons (.inp 6) .nil)) (.chk none (.bin .gtr) (.cons (.bv 7) (.cons (.op (.bin .mul) (.cons (.cst (.int .i64 4)) (.cons (.inp 6) .nil))) .nil)) (.isb none (.bv 6) (.done [] (some (.op (.bin .gtr) (.cons (.bv 7) (.cons (.op (.bin .mul) (.cons (.cst (.int .i64 4)) (.cons (.inp 6) .nil))) .nil))))))))) (.isb none (.bv 6) (.done [] (some (.cst (.bool true)))))))))) (.isb none (.bv 4) (.isb none (.cst (.bool true)) (.done [] (some (.cst (.bool true))))))))))) (.isb none (.bv 2) (.isb none (.cst (.bool true)) (.isb none (.cst (.bool true)) (.done [] (some (.cst (.bool true)))))))))))) h3_2 .skip)
@[simp] theorem h3_3_wp {P : Program} {F : PF P} {Q : EX → List Value → World → Prop} {env : List Value} {w : World} : h3_3.wp F Q env w = HC.wp F (.br (.eff (.call 15) (.cons (.inp 3) .nil) (.eff (.bi .len #[30] 3 #[false]) (.cons (.inp 5) .nil) (.chk none (.bin .neq) (.cons (.bv 0) (.cons (.bv 1) .nil)) (.bnd (.op (.bin .neq) (.cons (.bv 0) (.cons (.bv 1) .nil))) (.ite (.bv 2) false (.eff (.call 16) (.cons (.ite (.bv 2) false (.inp 3) (.cst (.tuple #[]))) .nil) (.chk none (.bin .neq) (.cons (.bv 3) (.cons (.inp 0) .nil)) (.isb none (.bv 2) (.bnd (.op (.bin .neq) (.cons (.bv 3) (.cons (.inp 0) .nil))) (.ite (.bv 4) false (.eff (.call 17) (.cons (.ite (.bv 4) false (.inp 3) (.cst (.tuple #[]))) .nil) (.chk none (.bin .lss) (.cons (.bv 5) (.cons (.cst (.int .i64 0)) .nil)) (.isb none (.bv 4) (.bnd (.op (.bin .lss) (.cons (.bv 5) (.cons (.cst (.int .i64 0)) .nil))) (.ite (.bv 6) false (.eff (.call 17) (.cons (.ite (.bv 6) false (.inp 3) (.cst (.tuple #[]))) .nil) (.chk none (.bin .mul) (.cons (.cst (.int .i64 4)) (.cons (.inp 6) .nil)) (.chk none (.bin .gtr) (.cons (.bv 7) (.cons (.op (.bin .mul) (.cons (.cst (.int .i64 4)) (.cons (.inp 6) .nil))) .nil)) (.isb none (.bv 6) (.done [] (some (.op (.bin .gtr) (.cons (.bv 7) (.cons (.op (.bin .mul) (.cons (.cst (.int .i64 4)) (.cons (.inp 6) .nil))) .nil))))))))) (.isb none (.bv 6) (.done [] (some (.cst (.bool true)))))))))) (.isb none (.bv 4) (.isb none (.cst (.bool true)) (.done [] (some (.cst (.bool true))))))))))) (.isb none (.bv 2) (.isb none (.cst (.bool true)) (.isb none (.cst (.bool true)) (.done [] (some (.cst (.bool true)))))))))))) h3_2 .skip) Q env w := rfl
def h3_4 : HC := (.reg (.chk none (.bin .add) (.cons (.inp 6) (.cons (.cst (.int .i64 1)) .nil)) (.done [(6, (.op (.bin .add) (.cons (.inp 6) (.cons (.cst (.int .i64 1)) .nil))))] none)))
@[simp] theorem h3_4_wp {P : Program} {F : PF P} {Q : EX → List Value → World → Prop} {env : List Value} {w : World} : h3_4.wp F Q env w = HC.wp F (.reg (.chk none (.bin .add) (.cons (.inp 6) (.cons (.cst (.int .i64 1)) .nil)) (.done [(6, (.op (.bin .add) (.cons (.inp 6) (.cons (.cst (.int .i64 1)) .nil))))] none))) Q env w := rfl
def h3_5 : HC := (.seq (.reg (.chk none (.fld 1) (.cons (.inp 9) .nil) (.eff (.ld false 1) (.cons (.op (.fld 1) (.cons (.inp 9) .nil)) .nil) (.eff (.upd 30) (.cons (.inp 5) (.cons (.bv 0) (.cons (.inp 10) .nil))) (.done [] none))))) h3_4)
@[simp] theorem h3_5_wp {P : Program} {F : PF P} {Q : EX → List Value → World → Prop} {env : List Value} {w : World} : h3_5.wp F Q env w = HC.wp F (.seq (.reg (.chk none (.fld 1) (.cons (.inp 9) .nil) (.eff (.ld false 1) (.cons (.op (.fld 1) (.cons (.inp 9) .nil)) .nil) (.eff (.upd 30) (.cons (.inp 5) (.cons (.bv 0) (.cons (.inp 10) .nil))) (.done [] none))))) h3_4) Q env w := rfl
def h3_6 : HC := (.seq (.reg (.done [(2, (.cst (.bool false)))] none)) .ret)
@[simp] theorem h3_6_wp {P : Program} {F : PF P} {Q : EX → List Value → World → Prop} {env : List Value} {w : World} : h3_6.wp F Q env w = HC.wp F (.seq (.reg (.done [(2, (.cst (.bool false)))] none)) .ret) Q env w := rfl
def h3_7 : HC := (.seq (.br (.chk none (.bin .neq) (.cons (.inp 11) (.cons (.cst (.int .i64 0)) .nil)) (.done [] (some (.op (.bin .neq) (.cons (.inp 11) (.cons (.cst (.int .i64 0)) .nil)))))) h3_6 .skip) h3_5)
@[simp] theorem h3_7_wp {P : Program} {F : PF P} {Q : EX → List Value → World → Prop} {env : List Value} {w : World} : h3_7.wp F Q env w = HC.wp F (.seq (.br (.chk none (.bin .neq) (.cons (.inp 11) (.cons (.cst (.int .i64 0)) .nil)) (.done [] (some (.op (.bin .neq) (.cons (.inp 11) (.cons (.cst (.int .i64 0)) .nil)))))) h3_6 .skip) h3_5) Q env w := rfl
def h3_8 : HC := (.seq (.reg (.done [(2, (.cst (.bool false)))] none)) .ret)
@[simp] theorem h3_8_wp {P : Program} {F : PF P} {Q : EX → List Value → World → Prop} {env : List Value} {w : World} : h3_8.wp F Q env w = HC.wp F (.seq (.reg (.done [(2, (.cst (.bool false)))] none)) .ret) Q env w := rfl
def h3_9 : HC := (.br (.chk none (.bin .eql) (.cons (.inp 11) (.cons (.cst (.int .i64 0)) .nil)) (.done [] (some (.op (.bin .eql) (.cons (.inp 11) (.cons (.cst (.int .i64 0)) .nil)))))) h3_8 .skip)
@[simp] theorem h3_9_wp {P : Program} {F : PF P} {Q : EX → List Value → World → Prop} {env : List Value} {w : World} : h3_9.wp F Q env w = HC.wp F (.br (.chk none (.bin .eql) (.cons (.inp 11) (.cons (.cst (.int .i64 0)) .nil)) (.done [] (some (.op (.bin .eql) (.cons (.inp 11) (.cons (.cst (.int .i64 0)) .nil)))))) h3_8 .skip) Q env w := rfl
def h3_10 : HC := (.br (.chk none (.fld 1) (.cons (.inp 9) .nil) (.eff (.ld false 1) (.cons (.op (.fld 1) (.cons (.inp 9) .nil)) .nil) (.chk none (.bin .geq) (.cons (.bv 0) (.cons (.cst (.int .i64 1)) .nil)) (.bnd (.op (.bin .geq) (.cons (.bv 0) (.cons (.cst (.int .i64 1)) .nil))) (.chk (some ((.bv 1), true)) (.bin .leq) (.cons (.inp 10) (.cons (.cst (.int .i64 1099511627776)) .nil)) (.isb none (.bv 1) (.bnd (.ite (.bv 1) true (.op (.bin .leq) (.cons (.inp 10) (.cons (.cst (.int .i64 1099511627776)) .nil))) (.cst (.bool false))) (.chk (some ((.bv 2), true)) (.fld 1) (.cons (.inp 9) .nil) (.ite (.bv 2) true (.eff (.ld false 1) (.cons (.ite (.bv 2) true (.op (.fld 1) (.cons (.inp 9) .nil)) (.cst (.tuple #[]))) .nil) (.eff (.look 30 false) (.cons (.ite (.bv 2) true (.inp 5) (.cst (.tuple #[]))) (.cons (.bv 3) .nil)) (.chk none (.bin .eql) (.cons (.bv 4) (.cons (.cst (.int .i64 0)) .nil)) (.isb none (.bv 2) (.bnd (.op (.bin .eql) (.cons (.bv 4) (.cons (.cst (.int .i64 0)) .nil))) (.ite (.bv 5) true (.eff (.bi .len #[30] 3 #[false]) (.cons (.ite (.bv 5) true (.inp 5) (.cst (.tuple #[]))) .nil) (.chk none (.bin .lss) (.cons (.bv 6) (.cons (.cst (.int .i64 65536)) .nil)) (.isb none (.bv 5) (.done [] (some (.op (.bin .lss) (.cons (.bv 6) (.cons (.cst (.int .i64 65536)) .nil)))))))) (.isb none (.bv 5) (.done [] (some (.cst (.bool false))))))))))) (.isb none (.bv 2) (.isb none (.cst (.bool false)) (.done [] (some (.cst (.bool false))))))))))))))) h3_7 h3_9)
@[simp] theorem h3_10_wp {P : Program} {F : PF P} {Q : EX → List Value → World → Prop} {env : List Value} {w : World} : h3_10.wp F Q env w = HC.wp F (.br (.chk none (.fld 1) (.cons (.inp 9) .nil) (.eff (.ld false 1) (.cons (.op (.fld 1) (.cons (.inp 9) .nil)) .nil) (.chk none (.bin .geq) (.cons (.bv 0) (.cons (.cst (.int .i64 1)) .nil)) (.bnd (.op (.bin .geq) (.cons (.bv 0) (.cons (.cst (.int .i64 1)) .nil))) (.chk (some ((.bv 1), true)) (.bin .leq) (.cons (.inp 10) (.cons (.cst (.int .i64 1099511627776)) .nil)) (.isb none (.bv 1) (.bnd (.ite (.bv 1) true (.op (.bin .leq) (.cons (.inp 10) (.cons (.cst (.int .i64 1099511627776)) .nil))) (.cst (.bool false))) (.chk (some ((.bv 2), true)) (.fld 1) (.cons (.inp 9) .nil) (.ite (.bv 2) true (.eff (.ld false 1) (.cons (.ite (.bv 2) true (.op (.fld 1) (.cons (.inp 9) .nil)) (.cst (.tuple #[]))) .nil) (.eff (.look 30 false) (.cons (.ite (.bv 2) true (.inp 5) (.cst (.tuple #[]))) (.cons (.bv 3) .nil)) (.chk none (.bin .eql) (.cons (.bv 4) (.cons (.cst (.int .i64 0)) .nil)) (.isb none (.bv 2) (.bnd (.op (.bin .eql) (.cons (.bv 4) (.cons (.cst (.int .i64 0)) .nil))) (.ite (.bv 5) true (.eff (.bi .len #[30] 3 #[false]) (.cons (.ite (.bv 5) true (.inp 5) (.cst (.tuple #[]))) .nil) (.chk none (.bin .lss) (.cons (.bv 6) (.cons (.cst (.int .i64 65536)) .nil)) (.isb none (.bv 5) (.done [] (some (.op (.bin .lss) (.cons (.bv 6) (.cons (.cst (.int .i64 65536)) .nil)))))))) (.isb none (.bv 5) (.done [] (some (.cst (.bool false))))))))))) (.isb none (.bv 2) (.isb none (.cst (.bool false)) (.done [] (some (.cst (.bool false))))))))))))))) h3_7 h3_9) Q env w := rfl
def h3_11 : HC := (.seq (.reg (.chk none (.fld 1) (.cons (.inp 9) .nil) (.eff (.ld false 1) (.cons (.op (.fld 1) (.cons (.inp 9) .nil)) .nil) (.eff (.call 12) (.cons (.inp 3) (.cons (.bv 0) (.cons (.inp 10) .nil))) (.chk none (.cal 10) (.cons (.bv 1) .nil) (.done [(11, (.op (.cal 10) (.cons (.bv 1) .nil)))] none)))))) h3_10)
@[simp] theorem h3_11_wp {P : Program} {F : PF P} {Q : EX → List Value → World → Prop} {env : List Value} {w : World} : h3_11.wp F Q env w = HC.wp F (.seq (.reg (.chk none (.fld 1) (.cons (.inp 9) .nil) (.eff (.ld false 1) (.cons (.op (.fld 1) (.cons (.inp 9) .nil)) .nil) (.eff (.call 12) (.cons (.inp 3) (.cons (.bv 0) (.cons (.inp 10) .nil))) (.chk none (.cal 10) (.cons (.bv 1) .nil) (.done [(11, (.op (.cal 10) (.cons (.bv 1) .nil)))] none)))))) h3_10) Q env w := rfl
def h3_12 : HC := (.seq (.reg (.chk none (.fld 2) (.cons (.inp 9) .nil) (.eff (.ld false 1) (.cons (.op (.fld 2) (.cons (.inp 9) .nil)) .nil) (.chk none (.cal 11) (.cons (.bv 0) .nil) (.chk none (.bin .add) (.cons (.inp 0) (.cons (.op (.cal 11) (.cons (.bv 0) .nil)) .nil)) (.done [(10, (.op (.bin .add) (.cons (.inp 0) (.cons (.op (.cal 11) (.cons (.bv 0) .nil)) .nil))))] none)))))) h3_11)
@[simp] theorem h3_12_wp {P : Program} {F : PF P} {Q : EX → List Value → World → Prop} {env : List Value} {w : World} : h3_12.wp F Q env w = HC.wp F (.seq (.reg (.chk none (.fld 2) (.cons (.inp 9) .nil) (.eff (.ld false 1) (.cons (.op (.fld 2) (.cons (.inp 9) .nil)) .nil) (.chk none (.cal 11) (.cons (.bv 0) .nil) (.chk none (.bin .add) (.cons (.inp 0) (.cons (.op (.cal 11) (.cons (.bv 0) .nil)) .nil)) (.done [(10, (.op (.bin .add) (.cons (.inp 0) (.cons (.op (.cal 11) (.cons (.bv 0) .nil)) .nil))))] none)))))) h3_11) Q env w := rfl
def h3_13 : HC := (.reg (.chk none (.fld 1) (.cons (.inp 9) .nil) (.eff (.ld false 1) (.cons (.op (.fld 1) (.cons (.inp 9) .nil)) .nil) (.eff (.bi .delete #[30, 3] 0 #[false, false]) (.cons (.inp 5) (.cons (.bv 0) .nil)) (.done [] none)))))
@[simp] theorem h3_13_wp {P : Program} {F : PF P} {Q : EX → List Value → World → Prop} {env : List Value} {w : World} : h3_13.wp F Q env w = HC.wp F (.reg (.chk none (.fld 1) (.cons (.inp 9) .nil) (.eff (.ld false 1) (.cons (.op (.fld 1) (.cons (.inp 9) .nil)) .nil) (.eff (.bi .delete #[30, 3] 0 #[false, false]) (.cons (.inp 5) (.cons (.bv 0) .nil)) (.done [] none))))) Q env w := rfl
def h3_14 : HC := (.seq (.reg (.done [(2, (.cst (.bool false)))] none)) .ret)
@[simp] theorem h3_14_wp {P : Program} {F : PF P} {Q : EX → List Value → World → Prop} {env : List Value} {w : World} : h3_14.wp F Q env w = HC.wp F (.seq (.reg (.done [(2, (.cst (.bool false)))] none)) .ret) Q env w := rfl
def h3_15 : HC := (.seq (.br (.chk none (.bin .eql) (.cons (.inp 12) (.cons (.cst (.int .i64 0)) .nil)) (.chk none (.fld 1) (.cons (.inp 9) .nil) (.eff (.ld false 1) (.cons (.op (.fld 1) (.cons (.inp 9) .nil)) .nil) (.eff (.look 30 false) (.cons (.inp 5) (.cons (.bv 0) .nil)) (.chk none (.bin .neq) (.cons (.bv 1) (.cons (.cst (.int .i64 0)) .nil)) (.chk none (.eqB true) (.cons (.op (.bin .eql) (.cons (.inp 12) (.cons (.cst (.int .i64 0)) .nil))) (.cons (.op (.bin .neq) (.cons (.bv 1) (.cons (.cst (.int .i64 0)) .nil))) .nil)) (.done [] (some (.op (.eqB true) (.cons (.op (.bin .eql) (.cons (.inp 12) (.cons (.cst (.int .i64 0)) .nil))) (.cons (.op (.bin .neq) (.cons (.bv 1) (.cons (.cst (.int .i64 0)) .nil))) .nil))))))))))) h3_14 .skip) h3_13)
@[simp] theorem h3_15_wp {P : Program} {F : PF P} {Q : EX → List Value → World → Prop} {env : List Value} {w : World} : h3_15.wp F Q env w = HC.wp F (.seq (.br (.chk none (.bin .eql) (.cons (.inp 12) (.cons (.cst (.int .i64 0)) .nil)) (.chk none (.fld 1) (.cons (.inp 9) .nil) (.eff (.ld false 1) (.cons (.op (.fld 1) (.cons (.inp 9) .nil)) .nil) (.eff (.look 30 false) (.cons (.inp 5) (.cons (.bv 0) .nil)) (.chk none (.bin .neq) (.cons (.bv 1) (.cons (.cst (.int .i64 0)) .nil)) (.chk none (.eqB true) (.cons (.op (.bin .eql) (.cons (.inp 12) (.cons (.cst (.int .i64 0)) .nil))) (.cons (.op (.bin .neq) (.cons (.bv 1) (.cons (.cst (.int .i64 0)) .nil))) .nil)) (.done [] (some (.op (.eqB true) (.cons (.op (.bin .eql) (.cons (.inp 12) (.cons (.cst (.int .i64 0)) .nil))) (.cons (.op (.bin .neq) (.cons (.bv 1) (.cons (.cst (.int .i64 0)) .nil))) .nil))))))))))) h3_14 .skip) h3_13) Q env w := rfl
def h3_16 : HC := (.seq (.reg (.chk none (.fld 1) (.cons (.inp 9) .nil) (.eff (.ld false 1) (.cons (.op (.fld 1) (.cons (.inp 9) .nil)) .nil) (.eff (.call 13) (.cons (.inp 3) (.cons (.bv 0) .nil)) (.chk none (.cal 10) (.cons (.bv 1) .nil) (.done [(12, (.op (.cal 10) (.cons (.bv 1) .nil)))] none)))))) h3_15)
@[simp] theorem h3_16_wp {P : Program} {F : PF P} {Q : EX → List Value → World → Prop} {env : List Value} {w : World} : h3_16.wp F Q env w = HC.wp F (.seq (.reg (.chk none (.fld 1) (.cons (.inp 9) .nil) (.eff (.ld false 1) (.cons (.op (.fld 1) (.cons (.inp 9) .nil)) .nil) (.eff (.call 13) (.cons (.inp 3) (.cons (.bv 0) .nil)) (.chk none (.cal 10) (.cons (.bv 1) .nil) (.done [(12, (.op (.cal 10) (.cons (.bv 1) .nil)))] none)))))) h3_15) Q env w := rfl
def h3_17 : HC := (.reg (.chk none (.bin .add) (.cons (.inp 0) (.cons (.cst (.int .i64 1)) .nil)) (.chk none (.build #[(.int .i64 0), (.int .i64 0)] [(0, 1), (1, 1)] [1]) (.cons (.op (.bin .add) (.cons (.inp 0) (.cons (.cst (.int .i64 1)) .nil))) .nil) (.eff (.st 2) (.cons (.inp 7) (.cons (.op (.build #[(.int .i64 0), (.int .i64 0)] [(0, 1), (1, 1)] [1]) (.cons (.op (.bin .add) (.cons (.inp 0) (.cons (.cst (.int .i64 1)) .nil))) .nil)) .nil)) (.done [] none)))))
@[simp] theorem h3_17_wp {P : Program} {F : PF P} {Q : EX → List Value → World → Prop} {env : List Value} {w : World} : h3_17.wp F Q env w = HC.wp F (.reg (.chk none (.bin .add) (.cons (.inp 0) (.cons (.cst (.int .i64 1)) .nil)) (.chk none (.build #[(.int .i64 0), (.int .i64 0)] [(0, 1), (1, 1)] [1]) (.cons (.op (.bin .add) (.cons (.inp 0) (.cons (.cst (.int .i64 1)) .nil))) .nil) (.eff (.st 2) (.cons (.inp 7) (.cons (.op (.build #[(.int .i64 0), (.int .i64 0)] [(0, 1), (1, 1)] [1]) (.cons (.op (.bin .add) (.cons (.inp 0) (.cons (.cst (.int .i64 1)) .nil))) .nil)) .nil)) (.done [] none))))) Q env w := rfl
def h3_18 : HC := (.seq (.reg (.done [(2, (.cst (.bool false)))] none)) .ret)
@[simp] theorem h3_18_wp {P : Program} {F : PF P} {Q : EX → List Value → World → Prop} {env : List Value} {w : World} : h3_18.wp F Q env w = HC.wp F (.seq (.reg (.done [(2, (.cst (.bool false)))] none)) .ret) Q env w := rfl
def h3_19 : HC := (.br (.chk none (.bin .leq) (.cons (.inp 18) (.cons (.inp 0) .nil)) (.done [] (some (.op (.bin .leq) (.cons (.inp 18) (.cons (.inp 0) .nil)))))) h3_18 .skip)
@[simp] theorem h3_19_wp {P : Program} {F : PF P} {Q : EX → List Value → World → Prop} {env : List Value} {w : World} : h3_19.wp F Q env w = HC.wp F (.br (.chk none (.bin .leq) (.cons (.inp 18) (.cons (.inp 0) .nil)) (.done [] (some (.op (.bin .leq) (.cons (.inp 18) (.cons (.inp 0) .nil)))))) h3_18 .skip) Q env w := rfl
def h3_20 : HC := (.seq (.reg (.eff .ent (.cons (.inp 20) .nil) (.chk none (.ext 1) (.cons (.bv 0) .nil) (.done [(18, (.op (.ext 1) (.cons (.bv 0) .nil)))] none)))) h3_19)
@[simp] theorem h3_20_wp {P : Program} {F : PF P} {Q : EX → List Value → World → Prop} {env : List Value} {w : World} : h3_20.wp F Q env w = HC.wp F (.seq (.reg (.eff .ent (.cons (.inp 20) .nil) (.chk none (.ext 1) (.cons (.bv 0) .nil) (.done [(18, (.op (.ext 1) (.cons (.bv 0) .nil)))] none)))) h3_19) Q env w := rfl
def h3_21 : HC := (.block 6 h3_20)
@[simp] theorem h3_21_wp {P : Program} {F : PF P} {Q : EX → List Value → World → Prop} {env : List Value} {w : World} : h3_21.wp F Q env w = HC.wp F (.block 6 h3_20) Q env w := rfl
def h3_22 : HC := (.seq (.br (.eff (.nxt false 0) (.cons (.inp 20) .nil) (.chk none (.ext 0) (.cons (.bv 0) .nil) (.done [] (some (.op (.ext 0) (.cons (.bv 0) .nil)))))) .skip (.exit 5)) h3_21)
@[simp] theorem h3_22_wp {P : Program} {F : PF P} {Q : EX → List Value → World → Prop} {env : List Value} {w : World} : h3_22.wp F Q env w = HC.wp F (.seq (.br (.eff (.nxt false 0) (.cons (.inp 20) .nil) (.chk none (.ext 0) (.cons (.bv 0) .nil) (.done [] (some (.op (.ext 0) (.cons (.bv 0) .nil)))))) .skip (.exit 5)) h3_21) Q env w := rfl
def h3_23 : HC := (.loop h3_22)
@[simp] theorem h3_23_wp {P : Program} {F : PF P} {Q : EX → List Value → World → Prop} {env : List Value} {w : World} : h3_23.wp F Q env w = HC.wp F (.loop h3_22) Q env w := rfl
def h3_24 : HC := (.seq (.block 5 h3_23) h3_17)
@[simp] theorem h3_24_wp {P : Program} {F : PF P} {Q : EX → List Value → World → Prop} {env : List Value} {w : World} : h3_24.wp F Q env w = HC.wp F (.seq (.block 5 h3_23) h3_17) Q env w := rfl
def h3_25 : HC := (.seq (.reg (.eff (.rng 30) (.cons (.inp 5) .nil) (.done [(20, (.bv 0))] none))) h3_24)
@[simp] theorem h3_25_wp {P : Program} {F : PF P} {Q : EX → List Value → World → Prop} {env : List Value} {w : World} : h3_25.wp F Q env w = HC.wp F (.seq (.reg (.eff (.rng 30) (.cons (.inp 5) .nil) (.done [(20, (.bv 0))] none))) h3_24) Q env w := rfl
def h3_26 : HC := (.reg (.chk none (.bin .add) (.cons (.inp 16) (.cons (.cst (.int .i64 1)) .nil)) (.done [(16, (.op (.bin .add) (.cons (.inp 16) (.cons (.cst (.int .i64 1)) .nil))))] none)))
@[simp] theorem h3_26_wp {P : Program} {F : PF P} {Q : EX → List Value → World → Prop} {env : List Value} {w : World} : h3_26.wp F Q env w = HC.wp F (.reg (.chk none (.bin .add) (.cons (.inp 16) (.cons (.cst (.int .i64 1)) .nil)) (.done [(16, (.op (.bin .add) (.cons (.inp 16) (.cons (.cst (.int .i64 1)) .nil))))] none))) Q env w := rfl
def h3_27 : HC := (.reg (.eff (.ld true 2) (.cons (.inp 17) .nil) (.eff (.st 2) (.cons (.inp 7) (.cons (.bv 0) .nil)) (.done [] none))))
@[simp] theorem h3_27_wp {P : Program} {F : PF P} {Q : EX → List Value → World → Prop} {env : List Value} {w : World} : h3_27.wp F Q env w = HC.wp F (.reg (.eff (.ld true 2) (.cons (.inp 17) .nil) (.eff (.st 2) (.cons (.inp 7) (.cons (.bv 0) .nil)) (.done [] none)))) Q env w := rfl
def h3_28 : HC := (.seq (.reg (.chk none (.fld 0) (.cons (.inp 17) .nil) (.eff (.ld false 1) (.cons (.op (.fld 0) (.cons (.inp 17) .nil)) .nil) (.eff (.bi .delete #[30, 3] 0 #[false, false]) (.cons (.inp 5) (.cons (.bv 0) .nil)) (.done [] none))))) h3_27)
@[simp] theorem h3_28_wp {P : Program} {F : PF P} {Q : EX → List Value → World → Prop} {env : List Value} {w : World} : h3_28.wp F Q env w = HC.wp F (.seq (.reg (.chk none (.fld 0) (.cons (.inp 17) .nil) (.eff (.ld false 1) (.cons (.op (.fld 0) (.cons (.inp 17) .nil)) .nil) (.eff (.bi .delete #[30, 3] 0 #[false, false]) (.cons (.inp 5) (.cons (.bv 0) .nil)) (.done [] none))))) h3_27) Q env w := rfl
def h3_29 : HC := (.seq (.reg (.done [(2, (.cst (.bool false)))] none)) .ret)
@[simp] theorem h3_29_wp {P : Program} {F : PF P} {Q : EX → List Value → World → Prop} {env : List Value} {w : World} : h3_29.wp F Q env w = HC.wp F (.seq (.reg (.done [(2, (.cst (.bool false)))] none)) .ret) Q env w := rfl
def h3_30 : HC := (.seq (.br (.chk none (.fld 0) (.cons (.inp 17) .nil) (.eff (.ld false 1) (.cons (.op (.fld 0) (.cons (.inp 17) .nil)) .nil) (.eff (.look 30 false) (.cons (.inp 5) (.cons (.bv 0) .nil)) (.chk none (.bin .eql) (.cons (.bv 1) (.cons (.cst (.int .i64 0)) .nil)) (.bnd (.op (.bin .eql) (.cons (.bv 1) (.cons (.cst (.int .i64 0)) .nil))) (.chk (some ((.bv 2), false)) (.fld 0) (.cons (.inp 17) .nil) (.ite (.bv 2) false (.eff (.ld false 1) (.cons (.ite (.bv 2) false (.op (.fld 0) (.cons (.inp 17) .nil)) (.cst (.tuple #[]))) .nil) (.eff (.look 30 false) (.cons (.ite (.bv 2) false (.inp 5) (.cst (.tuple #[]))) (.cons (.bv 3) .nil)) (.chk none (.fld 1) (.cons (.inp 17) .nil) (.eff (.ld false 1) (.cons (.op (.fld 1) (.cons (.inp 17) .nil)) .nil) (.chk none (.bin .neq) (.cons (.bv 4) (.cons (.bv 5) .nil)) (.isb none (.bv 2) (.bnd (.op (.bin .neq) (.cons (.bv 4) (.cons (.bv 5) .nil))) (.chk (some ((.bv 6), false)) (.fld 1) (.cons (.inp 17) .nil) (.ite (.bv 6) false (.eff (.ld false 1) (.cons (.ite (.bv 6) false (.op (.fld 1) (.cons (.inp 17) .nil)) (.cst (.tuple #[]))) .nil) (.chk none (.bin .gtr) (.cons (.bv 7) (.cons (.inp 0) .nil)) (.isb none (.bv 6) (.bnd (.op (.bin .gtr) (.cons (.bv 7) (.cons (.inp 0) .nil))) (.chk (some ((.bv 8), false)) (.fld 1) (.cons (.inp 17) .nil) (.ite (.bv 8) false (.eff (.ld false 1) (.cons (.ite (.bv 8) false (.op (.fld 1) (.cons (.inp 17) .nil)) (.cst (.tuple #[]))) .nil) (.chk none (.fld 1) (.cons (.inp 7) .nil) (.eff (.ld false 1) (.cons (.op (.fld 1) (.cons (.inp 7) .nil)) .nil) (.chk none (.bin .lss) (.cons (.bv 9) (.cons (.bv 10) .nil)) (.isb none (.bv 8) (.bnd (.op (.bin .lss) (.cons (.bv 9) (.cons (.bv 10) .nil))) (.chk (some ((.bv 11), false)) (.fld 1) (.cons (.inp 17) .nil) (.ite (.bv 11) false (.eff (.ld false 1) (.cons (.ite (.bv 11) false (.op (.fld 1) (.cons (.inp 17) .nil)) (.cst (.tuple #[]))) .nil) (.chk none (.fld 1) (.cons (.inp 7) .nil) (.eff (.ld false 1) (.cons (.op (.fld 1) (.cons (.inp 7) .nil)) .nil) (.chk none (.bin .eql) (.cons (.bv 12) (.cons (.bv 13) .nil)) (.bnd (.op (.bin .eql) (.cons (.bv 12) (.cons (.bv 13) .nil))) (.chk (some ((.bv 14), true)) (.fld 0) (.cons (.inp 17) .nil) (.ite (.bv 14) true (.eff (.ld false 1) (.cons (.ite (.bv 14) true (.op (.fld 0) (.cons (.inp 17) .nil)) (.cst (.tuple #[]))) .nil) (.chk none (.fld 0) (.cons (.inp 7) .nil) (.eff (.ld false 1) (.cons (.op (.fld 0) (.cons (.inp 7) .nil)) .nil) (.chk none (.bin .leq) (.cons (.bv 15) (.cons (.bv 16) .nil)) (.isb none (.bv 14) (.isb none (.bv 11) (.done [] (some (.op (.bin .leq) (.cons (.bv 15) (.cons (.bv 16) .nil))))))))))) (.isb none (.bv 14) (.isb none (.bv 11) (.done [] (some (.cst (.bool false))))))))))))) (.isb none (.bv 11) (.done [] (some (.cst (.bool true))))))))))))) (.isb none (.bv 8) (.isb none (.cst (.bool true)) (.done [] (some (.cst (.bool true)))))))))))) (.isb none (.bv 6) (.isb none (.cst (.bool true)) (.isb none (.cst (.bool true)) (.done [] (some (.cst (.bool true)))))))))))))))) (.isb none (.bv 2) (.isb none (.cst (.bool true)) (.isb none (.cst (.bool true)) (.isb none (.cst (.bool true)) (.done [] (some (.cst (.bool true))))))))))))))) h3_29 .skip) h3_28)
@[simp] theorem h3_30_wp {P : Program} {F : PF P} {Q : EX → List Value → World → Prop} {env : List Value} {w : World} : h3_30.wp F Q env w = HC.wp F (.seq (.br (.chk none (.fld 0) (.cons (.inp 17) .nil) (.eff (.ld false 1) (.cons (.op (.fld 0) (.cons (.inp 17) .nil)) .nil) (.eff (.look 30 false) (.cons (.inp 5) (.cons (.bv 0) .nil)) (.chk none (.bin .eql) (.cons (.bv 1) (.cons (.cst (.int .i64 0)) .nil)) (.bnd (.op (.bin .eql) (.cons (.bv 1) (.cons (.cst (.int .i64 0)) .nil))) (.chk (some ((.bv 2), false)) (.fld 0) (.cons (.inp 17) .nil) (.ite (.bv 2) false (.eff (.ld false 1) (.cons (.ite (.bv 2) false (.op (.fld 0) (.cons (.inp 17) .nil)) (.cst (.tuple #[]))) .nil) (.eff (.look 30 false) (.cons (.ite (.bv 2) false (.inp 5) (.cst (.tuple #[]))) (.cons (.bv 3) .nil)) (.chk none (.fld 1) (.cons (.inp 17) .nil) (.eff (.ld false 1) (.cons (.op (.fld 1) (.cons (.inp 17) .nil)) .nil) (.chk none (.bin .neq) (.cons (.bv 4) (.cons (.bv 5) .nil)) (.isb none (.bv 2) (.bnd (.op (.bin .neq) (.cons (.bv 4) (.cons (.bv 5) .nil))) (.chk (some ((.bv 6), false)) (.fld 1) (.cons (.inp 17) .nil) (.ite (.bv 6) false (.eff (.ld false 1) (.cons (.ite (.bv 6) false (.op (.fld 1) (.cons (.inp 17) .nil)) (.cst (.tuple #[]))) .nil) (.chk none (.bin .gtr) (.cons (.bv 7) (.cons (.inp 0) .nil)) (.isb none (.bv 6) (.bnd (.op (.bin .gtr) (.cons (.bv 7) (.cons (.inp 0) .nil))) (.chk (some ((.bv 8), false)) (.fld 1) (.cons (.inp 17) .nil) (.ite (.bv 8) false (.eff (.ld false 1) (.cons (.ite (.bv 8) false (.op (.fld 1) (.cons (.inp 17) .nil)) (.cst (.tuple #[]))) .nil) (.chk none (.fld 1) (.cons (.inp 7) .nil) (.eff (.ld false 1) (.cons (.op (.fld 1) (.cons (.inp 7) .nil)) .nil) (.chk none (.bin .lss) (.cons (.bv 9) (.cons (.bv 10) .nil)) (.isb none (.bv 8) (.bnd (.op (.bin .lss) (.cons (.bv 9) (.cons (.bv 10) .nil))) (.chk (some ((.bv 11), false)) (.fld 1) (.cons (.inp 17) .nil) (.ite (.bv 11) false (.eff (.ld false 1) (.cons (.ite (.bv 11) false (.op (.fld 1) (.cons (.inp 17) .nil)) (.cst (.tuple #[]))) .nil) (.chk none (.fld 1) (.cons (.inp 7) .nil) (.eff (.ld false 1) (.cons (.op (.fld 1) (.cons (.inp 7) .nil)) .nil) (.chk none (.bin .eql) (.cons (.bv 12) (.cons (.bv 13) .nil)) (.bnd (.op (.bin .eql) (.cons (.bv 12) (.cons (.bv 13) .nil))) (.chk (some ((.bv 14), true)) (.fld 0) (.cons (.inp 17) .nil) (.ite (.bv 14) true (.eff (.ld false 1) (.cons (.ite (.bv 14) true (.op (.fld 0) (.cons (.inp 17) .nil)) (.cst (.tuple #[]))) .nil) (.chk none (.fld 0) (.cons (.inp 7) .nil) (.eff (.ld false 1) (.cons (.op (.fld 0) (.cons (.inp 7) .nil)) .nil) (.chk none (.bin .leq) (.cons (.bv 15) (.cons (.bv 16) .nil)) (.isb none (.bv 14) (.isb none (.bv 11) (.done [] (some (.op (.bin .leq) (.cons (.bv 15) (.cons (.bv 16) .nil))))))))))) (.isb none (.bv 14) (.isb none (.bv 11) (.done [] (some (.cst (.bool false))))))))))))) (.isb none (.bv 11) (.done [] (some (.cst (.bool true))))))))))))) (.isb none (.bv 8) (.isb none (.cst (.bool true)) (.done [] (some (.cst (.bool true)))))))))))) (.isb none (.bv 6) (.isb none (.cst (.bool true)) (.isb none (.cst (.bool true)) (.done [] (some (.cst (.bool true)))))))))))))))) (.isb none (.bv 2) (.isb none (.cst (.bool true)) (.isb none (.cst (.bool true)) (.isb none (.cst (.bool true)) (.done [] (some (.cst (.bool true))))))))))))))) h3_29 .skip) h3_28) Q env w := rfl
def h3_31 : HC := (.seq (.reg (.chk none (.idxL 2) (.cons (.inp 14) (.cons (.inp 16) .nil)) (.eff (.ld true 2) (.cons (.op (.idxL 2) (.cons (.inp 14) (.cons (.inp 16) .nil))) .nil) (.eff (.new 32 (.agg #[(.int .i64 0), (.int .i64 0)])) .nil (.eff (.st 2) (.cons (.bv 1) (.cons (.bv 0) .nil)) (.done [(17, (.bv 1))] none)))))) h3_30)
@[simp] theorem h3_31_wp {P : Program} {F : PF P} {Q : EX → List Value → World → Prop} {env : List Value} {w : World} : h3_31.wp F Q env w = HC.wp F (.seq (.reg (.chk none (.idxL 2) (.cons (.inp 14) (.cons (.inp 16) .nil)) (.eff (.ld true 2) (.cons (.op (.idxL 2) (.cons (.inp 14) (.cons (.inp 16) .nil))) .nil) (.eff (.new 32 (.agg #[(.int .i64 0), (.int .i64 0)])) .nil (.eff (.st 2) (.cons (.bv 1) (.cons (.bv 0) .nil)) (.done [(17, (.bv 1))] none)))))) h3_30) Q env w := rfl
def h3_32 : HC := (.seq (.block 4 h3_31) h3_26)
@[simp] theorem h3_32_wp {P : Program} {F : PF P} {Q : EX → List Value → World → Prop} {env : List Value} {w : World} : h3_32.wp F Q env w = HC.wp F (.seq (.block 4 h3_31) h3_26) Q env w := rfl
def h3_33 : HC := (.seq (.br (.chk none .lenL (.cons (.inp 14) .nil) (.chk none (.bin .lss) (.cons (.inp 16) (.cons (.op .lenL (.cons (.inp 14) .nil)) .nil)) (.done [] (some (.op (.bin .lss) (.cons (.inp 16) (.cons (.op .lenL (.cons (.inp 14) .nil)) .nil))))))) .skip (.exit 3)) h3_32)
@[simp] theorem h3_33_wp {P : Program} {F : PF P} {Q : EX → List Value → World → Prop} {env : List Value} {w : World} : h3_33.wp F Q env w = HC.wp F (.seq (.br (.chk none .lenL (.cons (.inp 14) .nil) (.chk none (.bin .lss) (.cons (.inp 16) (.cons (.op .lenL (.cons (.inp 14) .nil)) .nil)) (.done [] (some (.op (.bin .lss) (.cons (.inp 16) (.cons (.op .lenL (.cons (.inp 14) .nil)) .nil))))))) .skip (.exit 3)) h3_32) Q env w := rfl
def h3_34 : HC := (.loop h3_33)
@[simp] theorem h3_34_wp {P : Program} {F : PF P} {Q : EX → List Value → World → Prop} {env : List Value} {w : World} : h3_34.wp F Q env w = HC.wp F (.loop h3_33) Q env w := rfl
def h3_35 : HC := (.seq (.block 3 h3_34) h3_25)
@[simp] theorem h3_35_wp {P : Program} {F : PF P} {Q : EX → List Value → World → Prop} {env : List Value} {w : World} : h3_35.wp F Q env w = HC.wp F (.seq (.block 3 h3_34) h3_25) Q env w := rfl
def h3_36 : HC := (.seq (.reg (.done [(16, (.cst (.int .i64 0)))] none)) h3_35)
@[simp] theorem h3_36_wp {P : Program} {F : PF P} {Q : EX → List Value → World → Prop} {env : List Value} {w : World} : h3_36.wp F Q env w = HC.wp F (.seq (.reg (.done [(16, (.cst (.int .i64 0)))] none)) h3_35) Q env w := rfl
def h3_37 : HC := (.seq (.reg (.done [(0, (.inp 13))] none)) h3_36)
@[simp] theorem h3_37_wp {P : Program} {F : PF P} {Q : EX → List Value → World → Prop} {env : List Value} {w : World} : h3_37.wp F Q env w = HC.wp F (.seq (.reg (.done [(0, (.inp 13))] none)) h3_36) Q env w := rfl
def h3_38 : HC := (.seq (.reg (.done [(2, (.cst (.bool false)))] none)) .ret)
@[simp] theorem h3_38_wp {P : Program} {F : PF P} {Q : EX → List Value → World → Prop} {env : List Value} {w : World} : h3_38.wp F Q env w = HC.wp F (.seq (.reg (.done [(2, (.cst (.bool false)))] none)) .ret) Q env w := rfl
def h3_39 : HC := (.seq (.br (.chk none (.cal 10) (.cons (.inp 15) .nil) (.chk none (.bin .neq) (.cons (.op (.cal 10) (.cons (.inp 15) .nil)) (.cons (.cst (.int .i64 0)) .nil)) (.done [] (some (.op (.bin .neq) (.cons (.op (.cal 10) (.cons (.inp 15) .nil)) (.cons (.cst (.int .i64 0)) .nil))))))) h3_38 .skip) h3_37)
@[simp] theorem h3_39_wp {P : Program} {F : PF P} {Q : EX → List Value → World → Prop} {env : List Value} {w : World} : h3_39.wp F Q env w = HC.wp F (.seq (.br (.chk none (.cal 10) (.cons (.inp 15) .nil) (.chk none (.bin .neq) (.cons (.op (.cal 10) (.cons (.inp 15) .nil)) (.cons (.cst (.int .i64 0)) .nil)) (.done [] (some (.op (.bin .neq) (.cons (.op (.cal 10) (.cons (.inp 15) .nil)) (.cons (.cst (.int .i64 0)) .nil))))))) h3_38 .skip) h3_37) Q env w := rfl
def h3_40 : HC := (.seq (.reg (.eff (.call 14) (.cons (.inp 3) (.cons (.inp 13) .nil)) (.chk none (.ext 0) (.cons (.bv 0) .nil) (.chk none (.ext 1) (.cons (.bv 0) .nil) (.done [(14, (.op (.ext 0) (.cons (.bv 0) .nil))), (15, (.op (.ext 1) (.cons (.bv 0) .nil)))] none))))) h3_39)
@[simp] theorem h3_40_wp {P : Program} {F : PF P} {Q : EX → List Value → World → Prop} {env : List Value} {w : World} : h3_40.wp F Q env w = HC.wp F (.seq (.reg (.eff (.call 14) (.cons (.inp 3) (.cons (.inp 13) .nil)) (.chk none (.ext 0) (.cons (.bv 0) .nil) (.chk none (.ext 1) (.cons (.bv 0) .nil) (.done [(14, (.op (.ext 0) (.cons (.bv 0) .nil))), (15, (.op (.ext 1) (.cons (.bv 0) .nil)))] none))))) h3_39) Q env w := rfl
def h3_41 : HC := (.seq (.br (.chk none (.bin .gtr) (.cons (.inp 13) (.cons (.cst (.int .i64 1099511627776)) .nil)) (.done [] (some (.op (.bin .gtr) (.cons (.inp 13) (.cons (.cst (.int .i64 1099511627776)) .nil)))))) (.exit 1) .skip) h3_40)
@[simp] theorem h3_41_wp {P : Program} {F : PF P} {Q : EX → List Value → World → Prop} {env : List Value} {w : World} : h3_41.wp F Q env w = HC.wp F (.seq (.br (.chk none (.bin .gtr) (.cons (.inp 13) (.cons (.cst (.int .i64 1099511627776)) .nil)) (.done [] (some (.op (.bin .gtr) (.cons (.inp 13) (.cons (.cst (.int .i64 1099511627776)) .nil)))))) (.exit 1) .skip) h3_40) Q env w := rfl
def h3_42 : HC := (.seq (.reg (.chk none (.fld 2) (.cons (.inp 9) .nil) (.eff (.ld false 1) (.cons (.op (.fld 2) (.cons (.inp 9) .nil)) .nil) (.chk none (.cal 11) (.cons (.bv 0) .nil) (.chk none (.bin .add) (.cons (.inp 0) (.cons (.op (.cal 11) (.cons (.bv 0) .nil)) .nil)) (.done [(13, (.op (.bin .add) (.cons (.inp 0) (.cons (.op (.cal 11) (.cons (.bv 0) .nil)) .nil))))] none)))))) h3_41)
@[simp] theorem h3_42_wp {P : Program} {F : PF P} {Q : EX → List Value → World → Prop} {env : List Value} {w : World} : h3_42.wp F Q env w = HC.wp F (.seq (.reg (.chk none (.fld 2) (.cons (.inp 9) .nil) (.eff (.ld false 1) (.cons (.op (.fld 2) (.cons (.inp 9) .nil)) .nil) (.chk none (.cal 11) (.cons (.bv 0) .nil) (.chk none (.bin .add) (.cons (.inp 0) (.cons (.op (.cal 11) (.cons (.bv 0) .nil)) .nil)) (.done [(13, (.op (.bin .add) (.cons (.inp 0) (.cons (.op (.cal 11) (.cons (.bv 0) .nil)) .nil))))] none)))))) h3_41) Q env w := rfl
def h3_43 : HC := (.br (.chk none (.bin .eql) (.cons (.inp 19) (.cons (.cst (.int .i64 3)) .nil)) (.done [] (some (.op (.bin .eql) (.cons (.inp 19) (.cons (.cst (.int .i64 3)) .nil)))))) h3_42 .skip)
@[simp] theorem h3_43_wp {P : Program} {F : PF P} {Q : EX → List Value → World → Prop} {env : List Value} {w : World} : h3_43.wp F Q env w = HC.wp F (.br (.chk none (.bin .eql) (.cons (.inp 19) (.cons (.cst (.int .i64 3)) .nil)) (.done [] (some (.op (.bin .eql) (.cons (.inp 19) (.cons (.cst (.int .i64 3)) .nil)))))) h3_42 .skip) Q env w := rfl
def h3_44 : HC := (.br (.chk none (.bin .eql) (.cons (.inp 19) (.cons (.cst (.int .i64 2)) .nil)) (.done [] (some (.op (.bin .eql) (.cons (.inp 19) (.cons (.cst (.int .i64 2)) .nil)))))) h3_16 h3_43)
@[simp] theorem h3_44_wp {P : Program} {F : PF P} {Q : EX → List Value → World → Prop} {env : List Value} {w : World} : h3_44.wp F Q env w = HC.wp F (.br (.chk none (.bin .eql) (.cons (.inp 19) (.cons (.cst (.int .i64 2)) .nil)) (.done [] (some (.op (.bin .eql) (.cons (.inp 19) (.cons (.cst (.int .i64 2)) .nil)))))) h3_16 h3_43) Q env w := rfl
def h3_45 : HC := (.br (.chk none (.bin .eql) (.cons (.inp 19) (.cons (.cst (.int .i64 1)) .nil)) (.done [] (some (.op (.bin .eql) (.cons (.inp 19) (.cons (.cst (.int .i64 1)) .nil)))))) h3_12 h3_44)
@[simp] theorem h3_45_wp {P : Program} {F : PF P} {Q : EX → List Value → World → Prop} {env : List Value} {w : World} : h3_45.wp F Q env w = HC.wp F (.br (.chk none (.bin .eql) (.cons (.inp 19) (.cons (.cst (.int .i64 1)) .nil)) (.done [] (some (.op (.bin .eql) (.cons (.inp 19) (.cons (.cst (.int .i64 1)) .nil)))))) h3_12 h3_44) Q env w := rfl
def h3_46 : HC := (.seq (.block 2 h3_45) h3_3)
@[simp] theorem h3_46_wp {P : Program} {F : PF P} {Q : EX → List Value → World → Prop} {env : List Value} {w : World} : h3_46.wp F Q env w = HC.wp F (.seq (.block 2 h3_45) h3_3) Q env w := rfl
def h3_47 : HC := (.seq (.reg (.chk none (.fld 0) (.cons (.inp 9) .nil) (.eff (.ld false 1) (.cons (.op (.fld 0) (.cons (.inp 9) .nil)) .nil) (.done [(19, (.bv 0))] none)))) h3_46)
@[simp] theorem h3_47_wp {P : Program} {F : PF P} {Q : EX → List Value → World → Prop} {env : List Value} {w : World} : h3_47.wp F Q env w = HC.wp F (.seq (.reg (.chk none (.fld 0) (.cons (.inp 9) .nil) (.eff (.ld false 1) (.cons (.op (.fld 0) (.cons (.inp 9) .nil)) .nil) (.done [(19, (.bv 0))] none)))) h3_46) Q env w := rfl
def h3_48 : HC := (.seq (.reg (.chk none (.idxL 3) (.cons (.inp 1) (.cons (.inp 8) .nil)) (.eff (.ld true 3) (.cons (.op (.idxL 3) (.cons (.inp 1) (.cons (.inp 8) .nil))) .nil) (.eff (.new 34 (.agg #[(.int .i64 0), (.int .i64 0), (.int .i64 0)])) .nil (.eff (.st 3) (.cons (.bv 1) (.cons (.bv 0) .nil)) (.done [(9, (.bv 1))] none)))))) h3_47)
@[simp] theorem h3_48_wp {P : Program} {F : PF P} {Q : EX → List Value → World → Prop} {env : List Value} {w : World} : h3_48.wp F Q env w = HC.wp F (.seq (.reg (.chk none (.idxL 3) (.cons (.inp 1) (.cons (.inp 8) .nil)) (.eff (.ld true 3) (.cons (.op (.idxL 3) (.cons (.inp 1) (.cons (.inp 8) .nil))) .nil) (.eff (.new 34 (.agg #[(.int .i64 0), (.int .i64 0), (.int .i64 0)])) .nil (.eff (.st 3) (.cons (.bv 1) (.cons (.bv 0) .nil)) (.done [(9, (.bv 1))] none)))))) h3_47) Q env w := rfl
def h3_49 : HC := (.seq (.block 1 h3_48) h3_1)
@[simp] theorem h3_49_wp {P : Program} {F : PF P} {Q : EX → List Value → World → Prop} {env : List Value} {w : World} : h3_49.wp F Q env w = HC.wp F (.seq (.block 1 h3_48) h3_1) Q env w := rfl
def h3_50 : HC := (.seq (.br (.chk none .lenL (.cons (.inp 1) .nil) (.chk none (.bin .lss) (.cons (.inp 8) (.cons (.op .lenL (.cons (.inp 1) .nil)) .nil)) (.done [] (some (.op (.bin .lss) (.cons (.inp 8) (.cons (.op .lenL (.cons (.inp 1) .nil)) .nil))))))) .skip (.exit 0)) h3_49)
@[simp] theorem h3_50_wp {P : Program} {F : PF P} {Q : EX → List Value → World → Prop} {env : List Value} {w : World} : h3_50.wp F Q env w = HC.wp F (.seq (.br (.chk none .lenL (.cons (.inp 1) .nil) (.chk none (.bin .lss) (.cons (.inp 8) (.cons (.op .lenL (.cons (.inp 1) .nil)) .nil)) (.done [] (some (.op (.bin .lss) (.cons (.inp 8) (.cons (.op .lenL (.cons (.inp 1) .nil)) .nil))))))) .skip (.exit 0)) h3_49) Q env w := rfl
def h3_51 : HC := (.loop h3_50)
@[simp] theorem h3_51_wp {P : Program} {F : PF P} {Q : EX → List Value → World → Prop} {env : List Value} {w : World} : h3_51.wp F Q env w = HC.wp F (.loop h3_50) Q env w := rfl
def h3_52 : HC := (.seq (.block 0 h3_51) h3_0)
@[simp] theorem h3_52_wp {P : Program} {F : PF P} {Q : EX → List Value → World → Prop} {env : List Value} {w : World} : h3_52.wp F Q env w = HC.wp F (.seq (.block 0 h3_51) h3_0) Q env w := rfl
def h3_53 : HC := (.seq (.reg (.done [(8, (.cst (.int .i64 0)))] none)) h3_52)
@[simp] theorem h3_53_wp {P : Program} {F : PF P} {Q : EX → List Value → World → Prop} {env : List Value} {w : World} : h3_53.wp F Q env w = HC.wp F (.seq (.reg (.done [(8, (.cst (.int .i64 0)))] none)) h3_52) Q env w := rfl
def h3_54 : HC := (.seq (.reg (.chk none (.build #[(.int .i64 0), (.int .i64 0)] [(0, 1), (1, 1)] [1]) (.cons (.inp 0) .nil) (.eff (.new 32 (.agg #[(.int .i64 0), (.int .i64 0)])) .nil (.eff (.st 2) (.cons (.bv 0) (.cons (.op (.build #[(.int .i64 0), (.int .i64 0)] [(0, 1), (1, 1)] [1]) (.cons (.inp 0) .nil)) .nil)) (.done [(7, (.bv 0))] none))))) h3_53)
@[simp] theorem h3_54_wp {P : Program} {F : PF P} {Q : EX → List Value → World → Prop} {env : List Value} {w : World} : h3_54.wp F Q env w = HC.wp F (.seq (.reg (.chk none (.build #[(.int .i64 0), (.int .i64 0)] [(0, 1), (1, 1)] [1]) (.cons (.inp 0) .nil) (.eff (.new 32 (.agg #[(.int .i64 0), (.int .i64 0)])) .nil (.eff (.st 2) (.cons (.bv 0) (.cons (.op (.build #[(.int .i64 0), (.int .i64 0)] [(0, 1), (1, 1)] [1]) (.cons (.inp 0) .nil)) .nil)) (.done [(7, (.bv 0))] none))))) h3_53) Q env w := rfl
def h3_55 : HC := (.seq (.reg (.done [(6, (.cst (.int .i64 0)))] none)) h3_54)
@[simp] theorem h3_55_wp {P : Program} {F : PF P} {Q : EX → List Value → World → Prop} {env : List Value} {w : World} : h3_55.wp F Q env w = HC.wp F (.seq (.reg (.done [(6, (.cst (.int .i64 0)))] none)) h3_54) Q env w := rfl
def h3_56 : HC := (.seq (.reg (.eff (.mkm 30 false) .nil (.done [(5, (.bv 0))] none))) h3_55)
@[simp] theorem h3_56_wp {P : Program} {F : PF P} {Q : EX → List Value → World → Prop} {env : List Value} {w : World} : h3_56.wp F Q env w = HC.wp F (.seq (.reg (.eff (.mkm 30 false) .nil (.done [(5, (.bv 0))] none))) h3_55) Q env w := rfl
def h3_57 : HC := (.seq (.reg (.done [(2, (.cst (.bool false)))] none)) .ret)
@[simp] theorem h3_57_wp {P : Program} {F : PF P} {Q : EX → List Value → World → Prop} {env : List Value} {w : World} : h3_57.wp F Q env w = HC.wp F (.seq (.reg (.done [(2, (.cst (.bool false)))] none)) .ret) Q env w := rfl
def h3_58 : HC := (.seq (.br (.chk none (.cal 10) (.cons (.inp 4) .nil) (.chk none (.bin .neq) (.cons (.op (.cal 10) (.cons (.inp 4) .nil)) (.cons (.cst (.int .i64 0)) .nil)) (.done [] (some (.op (.bin .neq) (.cons (.op (.cal 10) (.cons (.inp 4) .nil)) (.cons (.cst (.int .i64 0)) .nil))))))) h3_57 .skip) h3_56)
@[simp] theorem h3_58_wp {P : Program} {F : PF P} {Q : EX → List Value → World → Prop} {env : List Value} {w : World} : h3_58.wp F Q env w = HC.wp F (.seq (.br (.chk none (.cal 10) (.cons (.inp 4) .nil) (.chk none (.bin .neq) (.cons (.op (.cal 10) (.cons (.inp 4) .nil)) (.cons (.cst (.int .i64 0)) .nil)) (.done [] (some (.op (.bin .neq) (.cons (.op (.cal 10) (.cons (.inp 4) .nil)) (.cons (.cst (.int .i64 0)) .nil))))))) h3_57 .skip) h3_56) Q env w := rfl
def h3_59 : HC := (.seq (.reg (.eff (.call 9) (.cons (.inp 0) .nil) (.chk none (.ext 0) (.cons (.bv 0) .nil) (.chk none (.ext 1) (.cons (.bv 0) .nil) (.done [(3, (.op (.ext 0) (.cons (.bv 0) .nil))), (4, (.op (.ext 1) (.cons (.bv 0) .nil)))] none))))) h3_58)
@[simp] theorem h3_59_wp {P : Program} {F : PF P} {Q : EX → List Value → World → Prop} {env : List Value} {w : World} : h3_59.wp F Q env w = HC.wp F (.seq (.reg (.eff (.call 9) (.cons (.inp 0) .nil) (.chk none (.ext 0) (.cons (.bv 0) .nil) (.chk none (.ext 1) (.cons (.bv 0) .nil) (.done [(3, (.op (.ext 0) (.cons (.bv 0) .nil))), (4, (.op (.ext 1) (.cons (.bv 0) .nil)))] none))))) h3_58) Q env w := rfl
def h3_60 : HC := (.seq (.reg (.chk none (.cal 8) (.cons (.inp 0) (.cons (.cst (.int .i64 1099511627776)) .nil)) (.done [(0, (.op (.cal 8) (.cons (.inp 0) (.cons (.cst (.int .i64 1099511627776)) .nil))))] none))) h3_59)
@[simp] theorem h3_60_wp {P : Program} {F : PF P} {Q : EX → List Value → World → Prop} {env : List Value} {w : World} : h3_60.wp F Q env w = HC.wp F (.seq (.reg (.chk none (.cal 8) (.cons (.inp 0) (.cons (.cst (.int .i64 1099511627776)) .nil)) (.done [(0, (.op (.cal 8) (.cons (.inp 0) (.cons (.cst (.int .i64 1099511627776)) .nil))))] none))) h3_59) Q env w := rfl
def h3_61 : HC := (.seq (.reg (.done [(2, (.cst (.bool false)))] none)) .ret)
@[simp] theorem h3_61_wp {P : Program} {F : PF P} {Q : EX → List Value → World → Prop} {env : List Value} {w : World} : h3_61.wp F Q env w = HC.wp F (.seq (.reg (.done [(2, (.cst (.bool false)))] none)) .ret) Q env w := rfl
def h3_62 : HC := (.seq (.br (.eff (.call 7) .nil (.chk none (.un .not) (.cons (.bv 0) .nil) (.done [] (some (.op (.un .not) (.cons (.bv 0) .nil)))))) h3_61 .skip) h3_60)
@[simp] theorem h3_62_wp {P : Program} {F : PF P} {Q : EX → List Value → World → Prop} {env : List Value} {w : World} : h3_62.wp F Q env w = HC.wp F (.seq (.br (.eff (.call 7) .nil (.chk none (.un .not) (.cons (.bv 0) .nil) (.done [] (some (.op (.un .not) (.cons (.bv 0) .nil)))))) h3_61 .skip) h3_60) Q env w := rfl
def l3 : Lifted := ⟨[0, 1, 4, 5, 6, 7, 8, 9, 10, 11, 12, 13, 14, 15, 16, 17, 18, 19, 21, 48, 184], 218, [.slot 2], (.seq (.reg (.done [(2, (.cst (.bool false)))] none)) h3_62)⟩
theorem l3_ok : liftFn U2 3 400 = some l3 := by kernel_rfl


abbrev lastA (lb : Nat) (x : Int × Int) : Asn := pt lb (.cells (encT x).toArray 32 (0, 0))
theorem encT_one (x : Int × Int) : ∀ u ∈ encT x, u.oneCell' = true := fun u hu => by simp at hu; rcases hu with rfl | rfl <;> rfl
theorem flatT_at {L : List (Int × Int)} {k : Nat} (hk : k < L.length) (j : Nat) (u : Value) (hu : (encT L[k])[j]? = some u) : (L.flatMap encT)[k * 2 + j]? = some u := by
  have hj : j < 2 := by
    have := (List.getElem?_eq_some_iff.1 hu).1
    simpa using this
  rw [flat_get encT 2 (fun _ => rfl) L k j hk hj]; exact hu
set_option maxHeartbeats 1000000 in
theorem kloop_part (now to m c lb : Nat) (ts : List Tm) (es : List En) (x0 : Int × Int) (v : Value) (w0 w : World) (A : Asn) {Q : EX → List Value → World → Prop} (x1 x2 x3 x4 x6 x8 x9 x10 x11 x12 x13 x15 x17 x18 x19 x20 : Value)
    (hp : plOK now ts) (hto : to ≤ 1099511627776) (hs : setOK es c ts) (hx1 : x0.1 = 0) (hx2 : x0.2 ≤ now + 1) (hlen : ts.length ≤ 65536)
    (s : St w0 (A * outs v (outL to ts) * imap m es c * lastA lb x0) w)
    (hk : ∀ y16 y17 es' x' w', setOK es' c (restT to ts) → St w0 (A * outs v (outL to ts) * imap m es' c * lastA lb x') w' → Q .nrm [.int .i64 to, x1, x2, x3, x4, .map (some m), x6, .pointer (some ⟨lb, 0, none⟩), x8, x9, x10, x11, x12, x13, v, x15, y16, y17, x18, x19, x20] w') :
    (HC.block 3 h3_34).wp U2 Q [.int .i64 to, x1, x2, x3, x4, .map (some m), x6, .pointer (some ⟨lb, 0, none⟩), x8, x9, x10, x11, x12, x13, v, x15, .int .i64 0, x17, x18, x19, x20] w := by
  obtain ⟨L, hL⟩ : ∃ L, outL to ts = L := ⟨_, rfl⟩
  have hLl : L.length ≤ 65536 := by rw [← hL]; exact Nat.le_trans (outL_len to ts) hlen
  have hlt := outL_lt (to := to) hp
  rw [hL] at s hk hlt
  have hget : ∀ {k : Nat} (hk : k < L.length), ∃ t ∈ ts, t.a ≤ to ∧ L[k] = tmr t ∧ t ∈ leftS L k ts := by
    subst hL; exact fun hk => leftS_get hp hk
  have hend : setE (leftS L L.length ts) = setE (restT to ts) := by subst hL; exact leftS_end hp
  obtain ⟨a, cap, rfl, _⟩ := s.p3.own_val
  simp
  refine loopI (fun env w' => ∃ (k : Nat) (es : List En) (x : Int × Int) (x17 : Value), env = [.int .i64 to, x1, x2, x3, x4, .map (some m), x6, .pointer (some ⟨lb, 0, none⟩), x8, x9, x10, x11, x12, x13, .slice a L.length cap, x15, .int .i64 k, x17, x18, x19, x20] ∧ k ≤ L.length ∧ setOK es c (leftS L k ts) ∧ (∀ h : k < L.length, x.2 ≤ L[k].2 ∧ (x.2 = L[k].2 → x.1 < L[k].1)) ∧ St w0 (A * outs (.slice a L.length cap) L * imap m es c * lastA lb x) w') (fun env _ => L.length - slotN env 16)
    ⟨0, es, x0, x17, rfl, by omega, by rw [leftS_zero]; exact hs, fun h => ?_, s⟩ ?_
  · obtain ⟨t, ht, _, hx, _⟩ := hget h
    have h1 := hp.ah t ht
    have h2 := hp.bd t ht
    rw [hx, hx1]
    simp only [tmr]
    omega
  clear hx1 hx2 s hs
  rintro LQ env w' ⟨k, es, x, x17, rfl, hkl, hs, hx, s'⟩ hN hE hR
  simp
  refine cndI (fun h => ?_) (fun h => ?_)
  · simp at h
    obtain ⟨t, ht, hle, hLk, hleft⟩ := hget h
    have hah := hp.ah t ht
    have hbd := hp.bd t ht
    have hx := hx h
    obtain ⟨g, cap', hv, hcap, hc⟩ := s'.p3.own_at (n := L.length) (by omega)
    cases hv
    simp
    refine ⟨h, ?_⟩
    refine eff_ldcs (vs := encT L[k]) (fun j u hu => ?_) rfl ?_
    · exact hc _ u (flatT_at h j u hu)
    simp
    refine eff_new s' ?_
    intro b w1 s1
    simp
    refine eff_stA (vs := encT L[k]) s1 rfl rfl (encT_one _) (by simp) ?_
    intro w2 s2
    have s2 : St w0 (A * outs (.slice (some ⟨g, 0, none⟩) L.length cap) L * imap m es c * lastA lb x * pt b (.cells (encT L[k]).toArray 32 (0, 0))) w2 := by simpa using s2
    have t0 : w2.cell? ⟨b, 0, none⟩ = some (.int .i64 L[k].1) := by have := s2.row_cells 0 _ rfl; exact this
    have t1 : w2.cell? ⟨b, 1, none⟩ = some (.int .i64 L[k].2) := by have := s2.row_cells 1 _ rfl; exact this
    have q0 : w2.cell? ⟨lb, 0, none⟩ = some (.int .i64 x.1) := by have := s2.swap.row_cells 0 _ rfl; exact this
    have q1 : w2.cell? ⟨lb, 1, none⟩ = some (.int .i64 x.2) := by have := s2.swap.row_cells 1 _ rfl; exact this
    have hgt : getI es t.n = some (.int .i64 t.a) := by
      rw [hs.get, fnd_num (show ((leftS L k ts).map (·.n)).Nodup from hp.num.sublist (List.filter_sublist.map _)) hleft]
      rfl
    rw [hLk] at t0 t1 hx
    have t0 : w2.cell? ⟨b, 0, none⟩ = some (.int .i64 t.n) := t0
    have t1 : w2.cell? ⟨b, 1, none⟩ = some (.int .i64 t.a) := t1
    have hx1 : x.2 ≤ t.a := hx.1
    have hx2 : x.2 = t.a → x.1 < t.n := hx.2
    simp
    refine eff_ldc t0 ?_
    simp
    refine eff_lookI setI s2.drop.swap.look ?_
    rw [hgt]
    simp
    have hne : ¬ t.a = 0 := by omega
    simp [hne]
    refine eff_ldc t0 ?_
    simp
    refine eff_lookI setI s2.drop.swap.look ?_
    rw [hgt]
    simp
    refine eff_ldc t1 ?_
    simp
    refine eff_ldc t1 ?_
    simp
    have hna : ¬ to < t.a := by omega
    simp [hna]
    refine eff_ldc t1 ?_
    simp
    refine eff_ldc q1 ?_
    simp
    have hnb : ¬ (t.a : Int) < x.2 := by omega
    simp [hnb]
    refine eff_ldc t1 ?_
    simp
    refine eff_ldc q1 ?_
    simp
    have fin : ∀ w3, w3 = w2 → HC.wp U2 h3_28 (blockQ 4 (seqQ U2 h3_26 LQ)) [.int .i64 to, x1, x2, x3, x4, .map (some m), x6, .pointer (some ⟨lb, 0, none⟩), x8, x9, x10, x11, x12, x13, .slice (some ⟨g, 0, none⟩) L.length cap, x15, .int .i64 k, .pointer (some ⟨b, 0, none⟩), x18, x19, x20] w3 := by
      intro w3 hw
      subst hw
      simp
      refine eff_ldc t0 ?_
      simp
      refine eff_delI setI (s2.to (B := A * outs (.slice (some ⟨g, 0, none⟩) L.length cap) L * lastA lb x * pt b (.cells (encT L[k]).toArray 32 (0, 0)) * imap m es c) (by ac_rfl)) ?_
      intro w4 s4
      simp
      refine eff_ldcs (vs := encT L[k]) (fun j u hu => s4.swap.row_cells j u hu) rfl ?_
      simp
      refine eff_stA (vs := encT L[k]) (s4.to (B := A * outs (.slice (some ⟨g, 0, none⟩) L.length cap) L * imap m (delI es t.n) c * pt b (.cells (encT L[k]).toArray 32 (0, 0)) * lastA lb x) (by ac_rfl)) rfl rfl (encT_one _) (by simp) ?_
      intro w5 s5
      have s5 : St w0 (A * outs (.slice (some ⟨g, 0, none⟩) L.length cap) L * imap m (delI es t.n) c * pt b (.cells (encT L[k]).toArray 32 (0, 0)) * lastA lb L[k]) w5 := by simpa using s5
      simp
      try simp (disch := omega) only [wrap64]
      refine hN _ _ ⟨k + 1, delI es t.n, L[k], .pointer (some ⟨b, 0, none⟩), by simp, by omega, ?_, fun h2 => ?_, St.cut (pt b _) s5 (by ac_rfl)⟩ (by simp [slotN]; omega)
      · rw [leftS_succ L k h, hLk]
        exact hs.del t.n
      · have := (List.pairwise_iff_getElem.1 hlt) k (k + 1) h h2 (by omega)
        omega
    by_cases he : (t.a : Int) = x.2
    · simp [he]
      refine eff_ldc t0 ?_
      simp
      refine eff_ldc q0 ?_
      simp
      have hnc : ¬ t.n ≤ x.1 := by have := hx2 he.symm; omega
      simp [hnc]
      simpa using fin _ rfl
    · simp [he]
      simpa using fin _ rfl
  · simp at h
    simp
    refine hE _ _ _ ?_
    simp
    have hkL : k = L.length := by omega
    subst hkL
    refine hk _ _ es x w' ⟨hs.ok, by rw [hs.eq, hend]⟩ s'
end Go.HL.Wh
