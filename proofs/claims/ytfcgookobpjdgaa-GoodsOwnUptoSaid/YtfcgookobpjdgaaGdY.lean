/-
  Goods: a step of the desk. Conditions: so many rows at most.
-/
import Derived.Test.YtfcgookobpjdgaaGdYa
namespace Go.HL.Gd
open Go.HL Go.Proofs
set_option maxRecDepth 4000
set_option linter.unusedSimpArgs false
set_option linter.unusedVariables false
-- (*bazaar/bazaarlaw15.desk).step
def h24_0 : HC := (.seq (.reg (.chk (some ((.inp 7), true)) (.fld 2) (.cons (.inp 2) .nil) (.ite (.inp 7) true (.eff (.ld false 1) (.cons (.ite (.inp 7) true (.op (.fld 2) (.cons (.inp 2) .nil)) (.cst (.tuple #[]))) .nil) (.chk none (.fld 3) (.cons (.inp 2) .nil) (.eff (.ld false 1) (.cons (.op (.fld 3) (.cons (.inp 2) .nil)) .nil) (.eff (.call 25) (.cons (.ite (.inp 7) true (.inp 0) (.cst (.tuple #[]))) (.cons (.ite (.inp 7) true (.inp 4) (.cst (.tuple #[]))) (.cons (.bv 0) (.cons (.bv 1) .nil)))) (.isb none (.inp 7) (.done [(3, (.bv 2))] none)))))) (.isb none (.inp 7) (.done [(3, (.cst (.bool false)))] none))))) .ret)
@[simp] theorem h24_0_wp {P : Program} {F : PF P} {Q : EX → List Value → World → Prop} {env : List Value} {w : World} : h24_0.wp F Q env w = HC.wp F (.seq (.reg (.chk (some ((.inp 7), true)) (.fld 2) (.cons (.inp 2) .nil) (.ite (.inp 7) true (.eff (.ld false 1) (.cons (.ite (.inp 7) true (.op (.fld 2) (.cons (.inp 2) .nil)) (.cst (.tuple #[]))) .nil) (.chk none (.fld 3) (.cons (.inp 2) .nil) (.eff (.ld false 1) (.cons (.op (.fld 3) (.cons (.inp 2) .nil)) .nil) (.eff (.call 25) (.cons (.ite (.inp 7) true (.inp 0) (.cst (.tuple #[]))) (.cons (.ite (.inp 7) true (.inp 4) (.cst (.tuple #[]))) (.cons (.bv 0) (.cons (.bv 1) .nil)))) (.isb none (.inp 7) (.done [(3, (.bv 2))] none)))))) (.isb none (.inp 7) (.done [(3, (.cst (.bool false)))] none))))) .ret) Q env w := rfl
def h24_1 : HC := (.reg (.chk none (.bin .eql) (.cons (.inp 8) (.cons (.inp 10) .nil)) (.bnd (.op (.bin .eql) (.cons (.inp 8) (.cons (.inp 10) .nil))) (.chk (some ((.bv 0), true)) (.cal 10) (.cons (.inp 9) .nil) (.chk (some ((.bv 0), true)) (.bin .eql) (.cons (.op (.cal 10) (.cons (.inp 9) .nil)) (.cons (.inp 11) .nil)) (.isb none (.bv 0) (.done [(7, (.ite (.bv 0) true (.op (.bin .eql) (.cons (.op (.cal 10) (.cons (.inp 9) .nil)) (.cons (.inp 11) .nil))) (.cst (.bool false))))] none)))))))
@[simp] theorem h24_1_wp {P : Program} {F : PF P} {Q : EX → List Value → World → Prop} {env : List Value} {w : World} : h24_1.wp F Q env w = HC.wp F (.reg (.chk none (.bin .eql) (.cons (.inp 8) (.cons (.inp 10) .nil)) (.bnd (.op (.bin .eql) (.cons (.inp 8) (.cons (.inp 10) .nil))) (.chk (some ((.bv 0), true)) (.cal 10) (.cons (.inp 9) .nil) (.chk (some ((.bv 0), true)) (.bin .eql) (.cons (.op (.cal 10) (.cons (.inp 9) .nil)) (.cons (.inp 11) .nil)) (.isb none (.bv 0) (.done [(7, (.ite (.bv 0) true (.op (.bin .eql) (.cons (.op (.cal 10) (.cons (.inp 9) .nil)) (.cons (.inp 11) .nil))) (.cst (.bool false))))] none))))))) Q env w := rfl
def h24_2 : HC := (.seq (.reg (.chk none (.fld 2) (.cons (.inp 2) .nil) (.eff (.ld false 1) (.cons (.op (.fld 2) (.cons (.inp 2) .nil)) .nil) (.chk none (.fld 3) (.cons (.inp 2) .nil) (.eff (.ld false 1) (.cons (.op (.fld 3) (.cons (.inp 2) .nil)) .nil) (.eff (.call 40) (.cons (.inp 6) (.cons (.bv 0) (.cons (.bv 1) .nil))) (.chk none (.ext 0) (.cons (.bv 2) .nil) (.chk none (.ext 1) (.cons (.bv 2) .nil) (.done [(10, (.op (.ext 0) (.cons (.bv 2) .nil))), (11, (.op (.ext 1) (.cons (.bv 2) .nil)))] none))))))))) h24_1)
@[simp] theorem h24_2_wp {P : Program} {F : PF P} {Q : EX → List Value → World → Prop} {env : List Value} {w : World} : h24_2.wp F Q env w = HC.wp F (.seq (.reg (.chk none (.fld 2) (.cons (.inp 2) .nil) (.eff (.ld false 1) (.cons (.op (.fld 2) (.cons (.inp 2) .nil)) .nil) (.chk none (.fld 3) (.cons (.inp 2) .nil) (.eff (.ld false 1) (.cons (.op (.fld 3) (.cons (.inp 2) .nil)) .nil) (.eff (.call 40) (.cons (.inp 6) (.cons (.bv 0) (.cons (.bv 1) .nil))) (.chk none (.ext 0) (.cons (.bv 2) .nil) (.chk none (.ext 1) (.cons (.bv 2) .nil) (.done [(10, (.op (.ext 0) (.cons (.bv 2) .nil))), (11, (.op (.ext 1) (.cons (.bv 2) .nil)))] none))))))))) h24_1) Q env w := rfl
def h24_3 : HC := (.seq (.reg (.chk none (.fld 2) (.cons (.inp 2) .nil) (.eff (.ld false 1) (.cons (.op (.fld 2) (.cons (.inp 2) .nil)) .nil) (.chk none (.fld 3) (.cons (.inp 2) .nil) (.eff (.ld false 1) (.cons (.op (.fld 3) (.cons (.inp 2) .nil)) .nil) (.eff (.call 26) (.cons (.inp 5) (.cons (.bv 0) (.cons (.bv 1) .nil))) (.chk none (.ext 0) (.cons (.bv 2) .nil) (.chk none (.ext 1) (.cons (.bv 2) .nil) (.done [(8, (.op (.ext 0) (.cons (.bv 2) .nil))), (9, (.op (.ext 1) (.cons (.bv 2) .nil)))] none))))))))) h24_2)
@[simp] theorem h24_3_wp {P : Program} {F : PF P} {Q : EX → List Value → World → Prop} {env : List Value} {w : World} : h24_3.wp F Q env w = HC.wp F (.seq (.reg (.chk none (.fld 2) (.cons (.inp 2) .nil) (.eff (.ld false 1) (.cons (.op (.fld 2) (.cons (.inp 2) .nil)) .nil) (.chk none (.fld 3) (.cons (.inp 2) .nil) (.eff (.ld false 1) (.cons (.op (.fld 3) (.cons (.inp 2) .nil)) .nil) (.eff (.call 26) (.cons (.inp 5) (.cons (.bv 0) (.cons (.bv 1) .nil))) (.chk none (.ext 0) (.cons (.bv 2) .nil) (.chk none (.ext 1) (.cons (.bv 2) .nil) (.done [(8, (.op (.ext 0) (.cons (.bv 2) .nil))), (9, (.op (.ext 1) (.cons (.bv 2) .nil)))] none))))))))) h24_2) Q env w := rfl
def h24_4 : HC := (.regq (some 2) (.chk none (.fld 2) (.cons (.inp 2) .nil) (.eff (.ld false 1) (.cons (.op (.fld 2) (.cons (.inp 2) .nil)) .nil) (.chk none (.fld 3) (.cons (.inp 2) .nil) (.eff (.ld false 1) (.cons (.op (.fld 3) (.cons (.inp 2) .nil)) .nil) (.eff (.call 29) (.cons (.inp 5) (.cons (.bv 0) (.cons (.bv 1) .nil))) (.chk none (.cal 10) (.cons (.bv 2) .nil) (.chk none (.fld 2) (.cons (.inp 2) .nil) (.eff (.ld false 1) (.cons (.op (.fld 2) (.cons (.inp 2) .nil)) .nil) (.chk none (.fld 3) (.cons (.inp 2) .nil) (.eff (.ld false 1) (.cons (.op (.fld 3) (.cons (.inp 2) .nil)) .nil) (.eff (.call 41) (.cons (.inp 6) (.cons (.bv 3) (.cons (.bv 4) .nil))) (.chk none (.bin .eql) (.cons (.op (.cal 10) (.cons (.bv 2) .nil)) (.cons (.bv 5) .nil)) (.done [(7, (.op (.bin .eql) (.cons (.op (.cal 10) (.cons (.bv 2) .nil)) (.cons (.bv 5) .nil))))] none))))))))))))))
@[simp] theorem h24_4_wp {P : Program} {F : PF P} {Q : EX → List Value → World → Prop} {env : List Value} {w : World} : h24_4.wp F Q env w = HC.wp F (.regq (some 2) (.chk none (.fld 2) (.cons (.inp 2) .nil) (.eff (.ld false 1) (.cons (.op (.fld 2) (.cons (.inp 2) .nil)) .nil) (.chk none (.fld 3) (.cons (.inp 2) .nil) (.eff (.ld false 1) (.cons (.op (.fld 3) (.cons (.inp 2) .nil)) .nil) (.eff (.call 29) (.cons (.inp 5) (.cons (.bv 0) (.cons (.bv 1) .nil))) (.chk none (.cal 10) (.cons (.bv 2) .nil) (.chk none (.fld 2) (.cons (.inp 2) .nil) (.eff (.ld false 1) (.cons (.op (.fld 2) (.cons (.inp 2) .nil)) .nil) (.chk none (.fld 3) (.cons (.inp 2) .nil) (.eff (.ld false 1) (.cons (.op (.fld 3) (.cons (.inp 2) .nil)) .nil) (.eff (.call 41) (.cons (.inp 6) (.cons (.bv 3) (.cons (.bv 4) .nil))) (.chk none (.bin .eql) (.cons (.op (.cal 10) (.cons (.bv 2) .nil)) (.cons (.bv 5) .nil)) (.done [(7, (.op (.bin .eql) (.cons (.op (.cal 10) (.cons (.bv 2) .nil)) (.cons (.bv 5) .nil))))] none)))))))))))))) Q env w := rfl
def h24_5 : HC := (.regq (some 2) (.chk none (.fld 2) (.cons (.inp 2) .nil) (.eff (.ld false 1) (.cons (.op (.fld 2) (.cons (.inp 2) .nil)) .nil) (.chk none (.fld 3) (.cons (.inp 2) .nil) (.eff (.ld false 1) (.cons (.op (.fld 3) (.cons (.inp 2) .nil)) .nil) (.eff (.call 27) (.cons (.inp 5) (.cons (.bv 0) (.cons (.bv 1) .nil))) (.chk none (.cal 10) (.cons (.bv 2) .nil) (.chk none (.fld 2) (.cons (.inp 2) .nil) (.eff (.ld false 1) (.cons (.op (.fld 2) (.cons (.inp 2) .nil)) .nil) (.chk none (.fld 3) (.cons (.inp 2) .nil) (.eff (.ld false 1) (.cons (.op (.fld 3) (.cons (.inp 2) .nil)) .nil) (.eff (.call 42) (.cons (.inp 6) (.cons (.bv 3) (.cons (.bv 4) .nil))) (.chk none (.bin .eql) (.cons (.op (.cal 10) (.cons (.bv 2) .nil)) (.cons (.bv 5) .nil)) (.done [(7, (.op (.bin .eql) (.cons (.op (.cal 10) (.cons (.bv 2) .nil)) (.cons (.bv 5) .nil))))] none))))))))))))))
@[simp] theorem h24_5_wp {P : Program} {F : PF P} {Q : EX → List Value → World → Prop} {env : List Value} {w : World} : h24_5.wp F Q env w = HC.wp F (.regq (some 2) (.chk none (.fld 2) (.cons (.inp 2) .nil) (.eff (.ld false 1) (.cons (.op (.fld 2) (.cons (.inp 2) .nil)) .nil) (.chk none (.fld 3) (.cons (.inp 2) .nil) (.eff (.ld false 1) (.cons (.op (.fld 3) (.cons (.inp 2) .nil)) .nil) (.eff (.call 27) (.cons (.inp 5) (.cons (.bv 0) (.cons (.bv 1) .nil))) (.chk none (.cal 10) (.cons (.bv 2) .nil) (.chk none (.fld 2) (.cons (.inp 2) .nil) (.eff (.ld false 1) (.cons (.op (.fld 2) (.cons (.inp 2) .nil)) .nil) (.chk none (.fld 3) (.cons (.inp 2) .nil) (.eff (.ld false 1) (.cons (.op (.fld 3) (.cons (.inp 2) .nil)) .nil) (.eff (.call 42) (.cons (.inp 6) (.cons (.bv 3) (.cons (.bv 4) .nil))) (.chk none (.bin .eql) (.cons (.op (.cal 10) (.cons (.bv 2) .nil)) (.cons (.bv 5) .nil)) (.done [(7, (.op (.bin .eql) (.cons (.op (.cal 10) (.cons (.bv 2) .nil)) (.cons (.bv 5) .nil))))] none)))))))))))))) Q env w := rfl
def h24_6 : HC := (.regq (some 2) (.chk none (.fld 2) (.cons (.inp 2) .nil) (.eff (.ld false 1) (.cons (.op (.fld 2) (.cons (.inp 2) .nil)) .nil) (.chk none (.fld 3) (.cons (.inp 2) .nil) (.eff (.ld false 1) (.cons (.op (.fld 3) (.cons (.inp 2) .nil)) .nil) (.eff (.call 28) (.cons (.inp 5) (.cons (.bv 0) (.cons (.bv 1) .nil))) (.chk none (.cal 10) (.cons (.bv 2) .nil) (.chk none (.fld 2) (.cons (.inp 2) .nil) (.eff (.ld false 1) (.cons (.op (.fld 2) (.cons (.inp 2) .nil)) .nil) (.chk none (.fld 3) (.cons (.inp 2) .nil) (.eff (.ld false 1) (.cons (.op (.fld 3) (.cons (.inp 2) .nil)) .nil) (.eff (.call 43) (.cons (.inp 6) (.cons (.bv 3) (.cons (.bv 4) .nil))) (.chk none (.bin .eql) (.cons (.op (.cal 10) (.cons (.bv 2) .nil)) (.cons (.bv 5) .nil)) (.done [(7, (.op (.bin .eql) (.cons (.op (.cal 10) (.cons (.bv 2) .nil)) (.cons (.bv 5) .nil))))] none))))))))))))))
@[simp] theorem h24_6_wp {P : Program} {F : PF P} {Q : EX → List Value → World → Prop} {env : List Value} {w : World} : h24_6.wp F Q env w = HC.wp F (.regq (some 2) (.chk none (.fld 2) (.cons (.inp 2) .nil) (.eff (.ld false 1) (.cons (.op (.fld 2) (.cons (.inp 2) .nil)) .nil) (.chk none (.fld 3) (.cons (.inp 2) .nil) (.eff (.ld false 1) (.cons (.op (.fld 3) (.cons (.inp 2) .nil)) .nil) (.eff (.call 28) (.cons (.inp 5) (.cons (.bv 0) (.cons (.bv 1) .nil))) (.chk none (.cal 10) (.cons (.bv 2) .nil) (.chk none (.fld 2) (.cons (.inp 2) .nil) (.eff (.ld false 1) (.cons (.op (.fld 2) (.cons (.inp 2) .nil)) .nil) (.chk none (.fld 3) (.cons (.inp 2) .nil) (.eff (.ld false 1) (.cons (.op (.fld 3) (.cons (.inp 2) .nil)) .nil) (.eff (.call 43) (.cons (.inp 6) (.cons (.bv 3) (.cons (.bv 4) .nil))) (.chk none (.bin .eql) (.cons (.op (.cal 10) (.cons (.bv 2) .nil)) (.cons (.bv 5) .nil)) (.done [(7, (.op (.bin .eql) (.cons (.op (.cal 10) (.cons (.bv 2) .nil)) (.cons (.bv 5) .nil))))] none)))))))))))))) Q env w := rfl
def h24_7 : HC := (.regq (some 3) (.chk none (.bin .add) (.cons (.inp 4) (.cons (.cst (.int .i64 1)) .nil)) (.chk none (.bin .rem) (.cons (.op (.bin .add) (.cons (.inp 4) (.cons (.cst (.int .i64 1)) .nil))) (.cons (.cst (.int .i64 3)) .nil)) (.chk none (.bin .add) (.cons (.inp 4) (.cons (.cst (.int .i64 1)) .nil)) (.chk none (.bin .rem) (.cons (.op (.bin .add) (.cons (.inp 4) (.cons (.cst (.int .i64 1)) .nil))) (.cons (.cst (.int .i64 3)) .nil)) (.eff (.call 44) (.cons (.inp 6) .nil) (.chk none .chkp (.cons (.inp 0) .nil) (.chk none (.fld 0) (.cons (.op .chkp (.cons (.inp 0) .nil)) .nil) (.chk none (.idxP 4 1) (.cons (.op (.fld 0) (.cons (.op .chkp (.cons (.inp 0) .nil)) .nil)) (.cons (.op (.bin .rem) (.cons (.op (.bin .add) (.cons (.inp 4) (.cons (.cst (.int .i64 1)) .nil))) (.cons (.cst (.int .i64 3)) .nil))) .nil)) (.eff (.st 1) (.cons (.op (.idxP 4 1) (.cons (.op (.fld 0) (.cons (.op .chkp (.cons (.inp 0) .nil)) .nil)) (.cons (.op (.bin .rem) (.cons (.op (.bin .add) (.cons (.inp 4) (.cons (.cst (.int .i64 1)) .nil))) (.cons (.cst (.int .i64 3)) .nil))) .nil))) (.cons (.inp 12) .nil)) (.chk none .chkp (.cons (.inp 0) .nil) (.chk none (.fld 4) (.cons (.op .chkp (.cons (.inp 0) .nil)) .nil) (.chk none (.idxP 4 1) (.cons (.op (.fld 4) (.cons (.op .chkp (.cons (.inp 0) .nil)) .nil)) (.cons (.op (.bin .rem) (.cons (.op (.bin .add) (.cons (.inp 4) (.cons (.cst (.int .i64 1)) .nil))) (.cons (.cst (.int .i64 3)) .nil))) .nil)) (.eff (.st 1) (.cons (.op (.idxP 4 1) (.cons (.op (.fld 4) (.cons (.op .chkp (.cons (.inp 0) .nil)) .nil)) (.cons (.op (.bin .rem) (.cons (.op (.bin .add) (.cons (.inp 4) (.cons (.cst (.int .i64 1)) .nil))) (.cons (.cst (.int .i64 3)) .nil))) .nil))) (.cons (.bv 0) .nil)) (.done [] none)))))))))))))))
@[simp] theorem h24_7_wp {P : Program} {F : PF P} {Q : EX → List Value → World → Prop} {env : List Value} {w : World} : h24_7.wp F Q env w = HC.wp F (.regq (some 3) (.chk none (.bin .add) (.cons (.inp 4) (.cons (.cst (.int .i64 1)) .nil)) (.chk none (.bin .rem) (.cons (.op (.bin .add) (.cons (.inp 4) (.cons (.cst (.int .i64 1)) .nil))) (.cons (.cst (.int .i64 3)) .nil)) (.chk none (.bin .add) (.cons (.inp 4) (.cons (.cst (.int .i64 1)) .nil)) (.chk none (.bin .rem) (.cons (.op (.bin .add) (.cons (.inp 4) (.cons (.cst (.int .i64 1)) .nil))) (.cons (.cst (.int .i64 3)) .nil)) (.eff (.call 44) (.cons (.inp 6) .nil) (.chk none .chkp (.cons (.inp 0) .nil) (.chk none (.fld 0) (.cons (.op .chkp (.cons (.inp 0) .nil)) .nil) (.chk none (.idxP 4 1) (.cons (.op (.fld 0) (.cons (.op .chkp (.cons (.inp 0) .nil)) .nil)) (.cons (.op (.bin .rem) (.cons (.op (.bin .add) (.cons (.inp 4) (.cons (.cst (.int .i64 1)) .nil))) (.cons (.cst (.int .i64 3)) .nil))) .nil)) (.eff (.st 1) (.cons (.op (.idxP 4 1) (.cons (.op (.fld 0) (.cons (.op .chkp (.cons (.inp 0) .nil)) .nil)) (.cons (.op (.bin .rem) (.cons (.op (.bin .add) (.cons (.inp 4) (.cons (.cst (.int .i64 1)) .nil))) (.cons (.cst (.int .i64 3)) .nil))) .nil))) (.cons (.inp 12) .nil)) (.chk none .chkp (.cons (.inp 0) .nil) (.chk none (.fld 4) (.cons (.op .chkp (.cons (.inp 0) .nil)) .nil) (.chk none (.idxP 4 1) (.cons (.op (.fld 4) (.cons (.op .chkp (.cons (.inp 0) .nil)) .nil)) (.cons (.op (.bin .rem) (.cons (.op (.bin .add) (.cons (.inp 4) (.cons (.cst (.int .i64 1)) .nil))) (.cons (.cst (.int .i64 3)) .nil))) .nil)) (.eff (.st 1) (.cons (.op (.idxP 4 1) (.cons (.op (.fld 4) (.cons (.op .chkp (.cons (.inp 0) .nil)) .nil)) (.cons (.op (.bin .rem) (.cons (.op (.bin .add) (.cons (.inp 4) (.cons (.cst (.int .i64 1)) .nil))) (.cons (.cst (.int .i64 3)) .nil))) .nil))) (.cons (.bv 0) .nil)) (.done [] none))))))))))))))) Q env w := rfl
def h24_8 : HC := (.br (.chk none (.bin .lss) (.cons (.inp 4) (.cons (.cst (.int .i64 3)) .nil)) (.done [] (some (.op (.bin .lss) (.cons (.inp 4) (.cons (.cst (.int .i64 3)) .nil)))))) h24_7 .skip)
@[simp] theorem h24_8_wp {P : Program} {F : PF P} {Q : EX → List Value → World → Prop} {env : List Value} {w : World} : h24_8.wp F Q env w = HC.wp F (.br (.chk none (.bin .lss) (.cons (.inp 4) (.cons (.cst (.int .i64 3)) .nil)) (.done [] (some (.op (.bin .lss) (.cons (.inp 4) (.cons (.cst (.int .i64 3)) .nil)))))) h24_7 .skip) Q env w := rfl
def h24_9 : HC := (.seq (.reg (.done [(3, (.cst (.bool false)))] none)) .ret)
@[simp] theorem h24_9_wp {P : Program} {F : PF P} {Q : EX → List Value → World → Prop} {env : List Value} {w : World} : h24_9.wp F Q env w = HC.wp F (.seq (.reg (.done [(3, (.cst (.bool false)))] none)) .ret) Q env w := rfl
def h24_10 : HC := (.seq (.br (.chk none (.eqNil false (.pointer 71) (.pointer none)) (.cons (.inp 12) .nil) (.chk none (.eqNil false (.pointer 84) (.pointer none)) (.cons (.inp 6) .nil) (.chk none (.eqB true) (.cons (.op (.eqNil false (.pointer 71) (.pointer none)) (.cons (.inp 12) .nil)) (.cons (.op (.eqNil false (.pointer 84) (.pointer none)) (.cons (.inp 6) .nil)) .nil)) (.done [] (some (.op (.eqB true) (.cons (.op (.eqNil false (.pointer 71) (.pointer none)) (.cons (.inp 12) .nil)) (.cons (.op (.eqNil false (.pointer 84) (.pointer none)) (.cons (.inp 6) .nil)) .nil)))))))) h24_9 .skip) h24_8)
@[simp] theorem h24_10_wp {P : Program} {F : PF P} {Q : EX → List Value → World → Prop} {env : List Value} {w : World} : h24_10.wp F Q env w = HC.wp F (.seq (.br (.chk none (.eqNil false (.pointer 71) (.pointer none)) (.cons (.inp 12) .nil) (.chk none (.eqNil false (.pointer 84) (.pointer none)) (.cons (.inp 6) .nil) (.chk none (.eqB true) (.cons (.op (.eqNil false (.pointer 71) (.pointer none)) (.cons (.inp 12) .nil)) (.cons (.op (.eqNil false (.pointer 84) (.pointer none)) (.cons (.inp 6) .nil)) .nil)) (.done [] (some (.op (.eqB true) (.cons (.op (.eqNil false (.pointer 71) (.pointer none)) (.cons (.inp 12) .nil)) (.cons (.op (.eqNil false (.pointer 84) (.pointer none)) (.cons (.inp 6) .nil)) .nil)))))))) h24_9 .skip) h24_8) Q env w := rfl
def h24_11 : HC := (.seq (.reg (.eff (.call 16) (.cons (.inp 5) .nil) (.done [(12, (.bv 0))] none))) h24_10)
@[simp] theorem h24_11_wp {P : Program} {F : PF P} {Q : EX → List Value → World → Prop} {env : List Value} {w : World} : h24_11.wp F Q env w = HC.wp F (.seq (.reg (.eff (.call 16) (.cons (.inp 5) .nil) (.done [(12, (.bv 0))] none))) h24_10) Q env w := rfl
def h24_12 : HC := (.reg (.eff (.call 46) (.cons (.inp 6) .nil) (.eff (.call 11) (.cons (.inp 5) .nil) (.eff (.call 45) (.cons (.inp 0) (.cons (.inp 4) (.cons (.bv 0) (.cons (.bv 1) .nil)))) (.done [(7, (.bv 2))] none)))))
@[simp] theorem h24_12_wp {P : Program} {F : PF P} {Q : EX → List Value → World → Prop} {env : List Value} {w : World} : h24_12.wp F Q env w = HC.wp F (.reg (.eff (.call 46) (.cons (.inp 6) .nil) (.eff (.call 11) (.cons (.inp 5) .nil) (.eff (.call 45) (.cons (.inp 0) (.cons (.inp 4) (.cons (.bv 0) (.cons (.bv 1) .nil)))) (.done [(7, (.bv 2))] none))))) Q env w := rfl
def h24_13 : HC := (.reg (.chk none (.fld 2) (.cons (.inp 2) .nil) (.eff (.ld false 1) (.cons (.op (.fld 2) (.cons (.inp 2) .nil)) .nil) (.chk none (.fld 4) (.cons (.inp 2) .nil) (.eff (.ld false 1) (.cons (.op (.fld 4) (.cons (.inp 2) .nil)) .nil) (.eff (.call 45) (.cons (.inp 0) (.cons (.inp 4) (.cons (.bv 0) (.cons (.bv 1) .nil)))) (.done [(7, (.bv 2))] none)))))))
@[simp] theorem h24_13_wp {P : Program} {F : PF P} {Q : EX → List Value → World → Prop} {env : List Value} {w : World} : h24_13.wp F Q env w = HC.wp F (.reg (.chk none (.fld 2) (.cons (.inp 2) .nil) (.eff (.ld false 1) (.cons (.op (.fld 2) (.cons (.inp 2) .nil)) .nil) (.chk none (.fld 4) (.cons (.inp 2) .nil) (.eff (.ld false 1) (.cons (.op (.fld 4) (.cons (.inp 2) .nil)) .nil) (.eff (.call 45) (.cons (.inp 0) (.cons (.inp 4) (.cons (.bv 0) (.cons (.bv 1) .nil)))) (.done [(7, (.bv 2))] none))))))) Q env w := rfl
def h24_14 : HC := (.regq (some 2) (.chk none .chkp (.cons (.inp 0) .nil) (.chk none (.fld 0) (.cons (.op .chkp (.cons (.inp 0) .nil)) .nil) (.chk none (.idxP 4 1) (.cons (.op (.fld 0) (.cons (.op .chkp (.cons (.inp 0) .nil)) .nil)) (.cons (.inp 4) .nil)) (.eff (.st 1) (.cons (.op (.idxP 4 1) (.cons (.op (.fld 0) (.cons (.op .chkp (.cons (.inp 0) .nil)) .nil)) (.cons (.inp 4) .nil))) (.cons (.inp 13) .nil)) (.chk none .chkp (.cons (.inp 0) .nil) (.chk none (.fld 4) (.cons (.op .chkp (.cons (.inp 0) .nil)) .nil) (.chk none (.idxP 4 1) (.cons (.op (.fld 4) (.cons (.op .chkp (.cons (.inp 0) .nil)) .nil)) (.cons (.inp 4) .nil)) (.eff (.st 1) (.cons (.op (.idxP 4 1) (.cons (.op (.fld 4) (.cons (.op .chkp (.cons (.inp 0) .nil)) .nil)) (.cons (.inp 4) .nil))) (.cons (.inp 15) .nil)) (.done [] none))))))))))
@[simp] theorem h24_14_wp {P : Program} {F : PF P} {Q : EX → List Value → World → Prop} {env : List Value} {w : World} : h24_14.wp F Q env w = HC.wp F (.regq (some 2) (.chk none .chkp (.cons (.inp 0) .nil) (.chk none (.fld 0) (.cons (.op .chkp (.cons (.inp 0) .nil)) .nil) (.chk none (.idxP 4 1) (.cons (.op (.fld 0) (.cons (.op .chkp (.cons (.inp 0) .nil)) .nil)) (.cons (.inp 4) .nil)) (.eff (.st 1) (.cons (.op (.idxP 4 1) (.cons (.op (.fld 0) (.cons (.op .chkp (.cons (.inp 0) .nil)) .nil)) (.cons (.inp 4) .nil))) (.cons (.inp 13) .nil)) (.chk none .chkp (.cons (.inp 0) .nil) (.chk none (.fld 4) (.cons (.op .chkp (.cons (.inp 0) .nil)) .nil) (.chk none (.idxP 4 1) (.cons (.op (.fld 4) (.cons (.op .chkp (.cons (.inp 0) .nil)) .nil)) (.cons (.inp 4) .nil)) (.eff (.st 1) (.cons (.op (.idxP 4 1) (.cons (.op (.fld 4) (.cons (.op .chkp (.cons (.inp 0) .nil)) .nil)) (.cons (.inp 4) .nil))) (.cons (.inp 15) .nil)) (.done [] none)))))))))) Q env w := rfl
def h24_15 : HC := (.br (.chk none (.eqNil true (.pointer 71) (.pointer none)) (.cons (.inp 13) .nil) (.bnd (.op (.eqNil true (.pointer 71) (.pointer none)) (.cons (.inp 13) .nil)) (.chk (some ((.bv 0), true)) (.bin .lss) (.cons (.inp 4) (.cons (.cst (.int .i64 3)) .nil)) (.isb none (.bv 0) (.done [] (some (.ite (.bv 0) true (.op (.bin .lss) (.cons (.inp 4) (.cons (.cst (.int .i64 3)) .nil))) (.cst (.bool false))))))))) h24_14 .skip)
@[simp] theorem h24_15_wp {P : Program} {F : PF P} {Q : EX → List Value → World → Prop} {env : List Value} {w : World} : h24_15.wp F Q env w = HC.wp F (.br (.chk none (.eqNil true (.pointer 71) (.pointer none)) (.cons (.inp 13) .nil) (.bnd (.op (.eqNil true (.pointer 71) (.pointer none)) (.cons (.inp 13) .nil)) (.chk (some ((.bv 0), true)) (.bin .lss) (.cons (.inp 4) (.cons (.cst (.int .i64 3)) .nil)) (.isb none (.bv 0) (.done [] (some (.ite (.bv 0) true (.op (.bin .lss) (.cons (.inp 4) (.cons (.cst (.int .i64 3)) .nil))) (.cst (.bool false))))))))) h24_14 .skip) Q env w := rfl
def h24_16 : HC := (.seq (.reg (.done [(3, (.cst (.bool false)))] none)) .ret)
@[simp] theorem h24_16_wp {P : Program} {F : PF P} {Q : EX → List Value → World → Prop} {env : List Value} {w : World} : h24_16.wp F Q env w = HC.wp F (.seq (.reg (.done [(3, (.cst (.bool false)))] none)) .ret) Q env w := rfl
def h24_17 : HC := (.seq (.br (.chk none (.cal 10) (.cons (.inp 14) .nil) (.chk none (.bin .neq) (.cons (.op (.cal 10) (.cons (.inp 14) .nil)) (.cons (.inp 16) .nil)) (.bnd (.op (.bin .neq) (.cons (.op (.cal 10) (.cons (.inp 14) .nil)) (.cons (.inp 16) .nil))) (.chk (some ((.bv 0), false)) (.eqNil false (.pointer 71) (.pointer none)) (.cons (.inp 13) .nil) (.chk (some ((.bv 0), false)) (.eqNil false (.pointer 84) (.pointer none)) (.cons (.inp 15) .nil) (.chk (some ((.bv 0), false)) (.eqB true) (.cons (.op (.eqNil false (.pointer 71) (.pointer none)) (.cons (.inp 13) .nil)) (.cons (.op (.eqNil false (.pointer 84) (.pointer none)) (.cons (.inp 15) .nil)) .nil)) (.isb none (.bv 0) (.done [] (some (.ite (.bv 0) true (.cst (.bool true)) (.op (.eqB true) (.cons (.op (.eqNil false (.pointer 71) (.pointer none)) (.cons (.inp 13) .nil)) (.cons (.op (.eqNil false (.pointer 84) (.pointer none)) (.cons (.inp 15) .nil)) .nil))))))))))))) h24_16 .skip) h24_15)
@[simp] theorem h24_17_wp {P : Program} {F : PF P} {Q : EX → List Value → World → Prop} {env : List Value} {w : World} : h24_17.wp F Q env w = HC.wp F (.seq (.br (.chk none (.cal 10) (.cons (.inp 14) .nil) (.chk none (.bin .neq) (.cons (.op (.cal 10) (.cons (.inp 14) .nil)) (.cons (.inp 16) .nil)) (.bnd (.op (.bin .neq) (.cons (.op (.cal 10) (.cons (.inp 14) .nil)) (.cons (.inp 16) .nil))) (.chk (some ((.bv 0), false)) (.eqNil false (.pointer 71) (.pointer none)) (.cons (.inp 13) .nil) (.chk (some ((.bv 0), false)) (.eqNil false (.pointer 84) (.pointer none)) (.cons (.inp 15) .nil) (.chk (some ((.bv 0), false)) (.eqB true) (.cons (.op (.eqNil false (.pointer 71) (.pointer none)) (.cons (.inp 13) .nil)) (.cons (.op (.eqNil false (.pointer 84) (.pointer none)) (.cons (.inp 15) .nil)) .nil)) (.isb none (.bv 0) (.done [] (some (.ite (.bv 0) true (.cst (.bool true)) (.op (.eqB true) (.cons (.op (.eqNil false (.pointer 71) (.pointer none)) (.cons (.inp 13) .nil)) (.cons (.op (.eqNil false (.pointer 84) (.pointer none)) (.cons (.inp 15) .nil)) .nil))))))))))))) h24_16 .skip) h24_15) Q env w := rfl
def h24_18 : HC := (.seq (.reg (.chk none (.fld 2) (.cons (.inp 2) .nil) (.eff (.ld false 1) (.cons (.op (.fld 2) (.cons (.inp 2) .nil)) .nil) (.eff (.call 23) (.cons (.bv 0) .nil) (.chk none (.ext 0) (.cons (.bv 1) .nil) (.chk none (.ext 1) (.cons (.bv 1) .nil) (.done [(15, (.op (.ext 0) (.cons (.bv 1) .nil))), (16, (.op (.ext 1) (.cons (.bv 1) .nil)))] none))))))) h24_17)
@[simp] theorem h24_18_wp {P : Program} {F : PF P} {Q : EX → List Value → World → Prop} {env : List Value} {w : World} : h24_18.wp F Q env w = HC.wp F (.seq (.reg (.chk none (.fld 2) (.cons (.inp 2) .nil) (.eff (.ld false 1) (.cons (.op (.fld 2) (.cons (.inp 2) .nil)) .nil) (.eff (.call 23) (.cons (.bv 0) .nil) (.chk none (.ext 0) (.cons (.bv 1) .nil) (.chk none (.ext 1) (.cons (.bv 1) .nil) (.done [(15, (.op (.ext 0) (.cons (.bv 1) .nil))), (16, (.op (.ext 1) (.cons (.bv 1) .nil)))] none))))))) h24_17) Q env w := rfl
def h24_19 : HC := (.seq (.reg (.chk none (.fld 2) (.cons (.inp 2) .nil) (.eff (.ld false 1) (.cons (.op (.fld 2) (.cons (.inp 2) .nil)) .nil) (.eff (.call 8) (.cons (.bv 0) .nil) (.chk none (.ext 0) (.cons (.bv 1) .nil) (.chk none (.ext 1) (.cons (.bv 1) .nil) (.done [(13, (.op (.ext 0) (.cons (.bv 1) .nil))), (14, (.op (.ext 1) (.cons (.bv 1) .nil)))] none))))))) h24_18)
@[simp] theorem h24_19_wp {P : Program} {F : PF P} {Q : EX → List Value → World → Prop} {env : List Value} {w : World} : h24_19.wp F Q env w = HC.wp F (.seq (.reg (.chk none (.fld 2) (.cons (.inp 2) .nil) (.eff (.ld false 1) (.cons (.op (.fld 2) (.cons (.inp 2) .nil)) .nil) (.eff (.call 8) (.cons (.bv 0) .nil) (.chk none (.ext 0) (.cons (.bv 1) .nil) (.chk none (.ext 1) (.cons (.bv 1) .nil) (.done [(13, (.op (.ext 0) (.cons (.bv 1) .nil))), (14, (.op (.ext 1) (.cons (.bv 1) .nil)))] none))))))) h24_18) Q env w := rfl
def h24_20 : HC := (.br (.chk none (.bin .eql) (.cons (.inp 17) (.cons (.cst (.int .i64 8)) .nil)) (.done [] (some (.op (.bin .eql) (.cons (.inp 17) (.cons (.cst (.int .i64 8)) .nil)))))) h24_19 .skip)
@[simp] theorem h24_20_wp {P : Program} {F : PF P} {Q : EX → List Value → World → Prop} {env : List Value} {w : World} : h24_20.wp F Q env w = HC.wp F (.br (.chk none (.bin .eql) (.cons (.inp 17) (.cons (.cst (.int .i64 8)) .nil)) (.done [] (some (.op (.bin .eql) (.cons (.inp 17) (.cons (.cst (.int .i64 8)) .nil)))))) h24_19 .skip) Q env w := rfl
def h24_21 : HC := (.br (.chk none (.bin .eql) (.cons (.inp 17) (.cons (.cst (.int .i64 7)) .nil)) (.done [] (some (.op (.bin .eql) (.cons (.inp 17) (.cons (.cst (.int .i64 7)) .nil)))))) h24_13 h24_20)
@[simp] theorem h24_21_wp {P : Program} {F : PF P} {Q : EX → List Value → World → Prop} {env : List Value} {w : World} : h24_21.wp F Q env w = HC.wp F (.br (.chk none (.bin .eql) (.cons (.inp 17) (.cons (.cst (.int .i64 7)) .nil)) (.done [] (some (.op (.bin .eql) (.cons (.inp 17) (.cons (.cst (.int .i64 7)) .nil)))))) h24_13 h24_20) Q env w := rfl
def h24_22 : HC := (.br (.chk none (.bin .eql) (.cons (.inp 17) (.cons (.cst (.int .i64 6)) .nil)) (.done [] (some (.op (.bin .eql) (.cons (.inp 17) (.cons (.cst (.int .i64 6)) .nil)))))) h24_12 h24_21)
@[simp] theorem h24_22_wp {P : Program} {F : PF P} {Q : EX → List Value → World → Prop} {env : List Value} {w : World} : h24_22.wp F Q env w = HC.wp F (.br (.chk none (.bin .eql) (.cons (.inp 17) (.cons (.cst (.int .i64 6)) .nil)) (.done [] (some (.op (.bin .eql) (.cons (.inp 17) (.cons (.cst (.int .i64 6)) .nil)))))) h24_12 h24_21) Q env w := rfl
def h24_23 : HC := (.br (.chk none (.bin .eql) (.cons (.inp 17) (.cons (.cst (.int .i64 5)) .nil)) (.done [] (some (.op (.bin .eql) (.cons (.inp 17) (.cons (.cst (.int .i64 5)) .nil)))))) h24_11 h24_22)
@[simp] theorem h24_23_wp {P : Program} {F : PF P} {Q : EX → List Value → World → Prop} {env : List Value} {w : World} : h24_23.wp F Q env w = HC.wp F (.br (.chk none (.bin .eql) (.cons (.inp 17) (.cons (.cst (.int .i64 5)) .nil)) (.done [] (some (.op (.bin .eql) (.cons (.inp 17) (.cons (.cst (.int .i64 5)) .nil)))))) h24_11 h24_22) Q env w := rfl
def h24_24 : HC := (.br (.chk none (.bin .eql) (.cons (.inp 17) (.cons (.cst (.int .i64 4)) .nil)) (.done [] (some (.op (.bin .eql) (.cons (.inp 17) (.cons (.cst (.int .i64 4)) .nil)))))) h24_6 h24_23)
@[simp] theorem h24_24_wp {P : Program} {F : PF P} {Q : EX → List Value → World → Prop} {env : List Value} {w : World} : h24_24.wp F Q env w = HC.wp F (.br (.chk none (.bin .eql) (.cons (.inp 17) (.cons (.cst (.int .i64 4)) .nil)) (.done [] (some (.op (.bin .eql) (.cons (.inp 17) (.cons (.cst (.int .i64 4)) .nil)))))) h24_6 h24_23) Q env w := rfl
def h24_25 : HC := (.br (.chk none (.bin .eql) (.cons (.inp 17) (.cons (.cst (.int .i64 3)) .nil)) (.done [] (some (.op (.bin .eql) (.cons (.inp 17) (.cons (.cst (.int .i64 3)) .nil)))))) h24_5 h24_24)
@[simp] theorem h24_25_wp {P : Program} {F : PF P} {Q : EX → List Value → World → Prop} {env : List Value} {w : World} : h24_25.wp F Q env w = HC.wp F (.br (.chk none (.bin .eql) (.cons (.inp 17) (.cons (.cst (.int .i64 3)) .nil)) (.done [] (some (.op (.bin .eql) (.cons (.inp 17) (.cons (.cst (.int .i64 3)) .nil)))))) h24_5 h24_24) Q env w := rfl
def h24_26 : HC := (.br (.chk none (.bin .eql) (.cons (.inp 17) (.cons (.cst (.int .i64 2)) .nil)) (.done [] (some (.op (.bin .eql) (.cons (.inp 17) (.cons (.cst (.int .i64 2)) .nil)))))) h24_4 h24_25)
@[simp] theorem h24_26_wp {P : Program} {F : PF P} {Q : EX → List Value → World → Prop} {env : List Value} {w : World} : h24_26.wp F Q env w = HC.wp F (.br (.chk none (.bin .eql) (.cons (.inp 17) (.cons (.cst (.int .i64 2)) .nil)) (.done [] (some (.op (.bin .eql) (.cons (.inp 17) (.cons (.cst (.int .i64 2)) .nil)))))) h24_4 h24_25) Q env w := rfl
def h24_27 : HC := (.br (.chk none (.bin .eql) (.cons (.inp 17) (.cons (.cst (.int .i64 1)) .nil)) (.done [] (some (.op (.bin .eql) (.cons (.inp 17) (.cons (.cst (.int .i64 1)) .nil)))))) h24_3 h24_26)
@[simp] theorem h24_27_wp {P : Program} {F : PF P} {Q : EX → List Value → World → Prop} {env : List Value} {w : World} : h24_27.wp F Q env w = HC.wp F (.br (.chk none (.bin .eql) (.cons (.inp 17) (.cons (.cst (.int .i64 1)) .nil)) (.done [] (some (.op (.bin .eql) (.cons (.inp 17) (.cons (.cst (.int .i64 1)) .nil)))))) h24_3 h24_26) Q env w := rfl
def h24_28 : HC := (.seq (.block 0 h24_27) h24_0)
@[simp] theorem h24_28_wp {P : Program} {F : PF P} {Q : EX → List Value → World → Prop} {env : List Value} {w : World} : h24_28.wp F Q env w = HC.wp F (.seq (.block 0 h24_27) h24_0) Q env w := rfl
def h24_29 : HC := (.seq (.reg (.chk none (.fld 0) (.cons (.inp 2) .nil) (.eff (.ld false 1) (.cons (.op (.fld 0) (.cons (.inp 2) .nil)) .nil) (.done [(17, (.bv 0))] none)))) h24_28)
@[simp] theorem h24_29_wp {P : Program} {F : PF P} {Q : EX → List Value → World → Prop} {env : List Value} {w : World} : h24_29.wp F Q env w = HC.wp F (.seq (.reg (.chk none (.fld 0) (.cons (.inp 2) .nil) (.eff (.ld false 1) (.cons (.op (.fld 0) (.cons (.inp 2) .nil)) .nil) (.done [(17, (.bv 0))] none)))) h24_28) Q env w := rfl
def h24_30 : HC := (.seq (.reg (.done [(7, (.cst (.bool true)))] none)) h24_29)
@[simp] theorem h24_30_wp {P : Program} {F : PF P} {Q : EX → List Value → World → Prop} {env : List Value} {w : World} : h24_30.wp F Q env w = HC.wp F (.seq (.reg (.done [(7, (.cst (.bool true)))] none)) h24_29) Q env w := rfl
def h24_31 : HC := (.seq (.regq (some 0) (.chk none .chkp (.cons (.inp 0) .nil) (.chk none (.fld 0) (.cons (.op .chkp (.cons (.inp 0) .nil)) .nil) (.chk none (.idxP 4 1) (.cons (.op (.fld 0) (.cons (.op .chkp (.cons (.inp 0) .nil)) .nil)) (.cons (.inp 4) .nil)) (.eff (.ld false 1) (.cons (.op (.idxP 4 1) (.cons (.op (.fld 0) (.cons (.op .chkp (.cons (.inp 0) .nil)) .nil)) (.cons (.inp 4) .nil))) .nil) (.chk none .chkp (.cons (.inp 0) .nil) (.chk none (.fld 4) (.cons (.op .chkp (.cons (.inp 0) .nil)) .nil) (.chk none (.idxP 4 1) (.cons (.op (.fld 4) (.cons (.op .chkp (.cons (.inp 0) .nil)) .nil)) (.cons (.inp 4) .nil)) (.eff (.ld false 1) (.cons (.op (.idxP 4 1) (.cons (.op (.fld 4) (.cons (.op .chkp (.cons (.inp 0) .nil)) .nil)) (.cons (.inp 4) .nil))) .nil) (.done [(5, (.bv 0)), (6, (.bv 1))] none)))))))))) h24_30)
@[simp] theorem h24_31_wp {P : Program} {F : PF P} {Q : EX → List Value → World → Prop} {env : List Value} {w : World} : h24_31.wp F Q env w = HC.wp F (.seq (.regq (some 0) (.chk none .chkp (.cons (.inp 0) .nil) (.chk none (.fld 0) (.cons (.op .chkp (.cons (.inp 0) .nil)) .nil) (.chk none (.idxP 4 1) (.cons (.op (.fld 0) (.cons (.op .chkp (.cons (.inp 0) .nil)) .nil)) (.cons (.inp 4) .nil)) (.eff (.ld false 1) (.cons (.op (.idxP 4 1) (.cons (.op (.fld 0) (.cons (.op .chkp (.cons (.inp 0) .nil)) .nil)) (.cons (.inp 4) .nil))) .nil) (.chk none .chkp (.cons (.inp 0) .nil) (.chk none (.fld 4) (.cons (.op .chkp (.cons (.inp 0) .nil)) .nil) (.chk none (.idxP 4 1) (.cons (.op (.fld 4) (.cons (.op .chkp (.cons (.inp 0) .nil)) .nil)) (.cons (.inp 4) .nil)) (.eff (.ld false 1) (.cons (.op (.idxP 4 1) (.cons (.op (.fld 4) (.cons (.op .chkp (.cons (.inp 0) .nil)) .nil)) (.cons (.inp 4) .nil))) .nil) (.done [(5, (.bv 0)), (6, (.bv 1))] none)))))))))) h24_30) Q env w := rfl
def h24_32 : HC := (.seq (.reg (.chk none (.fld 1) (.cons (.inp 2) .nil) (.eff (.ld false 1) (.cons (.op (.fld 1) (.cons (.inp 2) .nil)) .nil) (.eff (.call 9) (.cons (.bv 0) (.cons (.cst (.int .i64 4)) .nil)) (.done [(4, (.bv 1))] none))))) h24_31)
@[simp] theorem h24_32_wp {P : Program} {F : PF P} {Q : EX → List Value → World → Prop} {env : List Value} {w : World} : h24_32.wp F Q env w = HC.wp F (.seq (.reg (.chk none (.fld 1) (.cons (.inp 2) .nil) (.eff (.ld false 1) (.cons (.op (.fld 1) (.cons (.inp 2) .nil)) .nil) (.eff (.call 9) (.cons (.bv 0) (.cons (.cst (.int .i64 4)) .nil)) (.done [(4, (.bv 1))] none))))) h24_31) Q env w := rfl
def l24 : Lifted := ⟨[0, 1, 3, 4, 5, 6, 7, 8, 9, 10, 11, 12, 13, 14, 15, 16, 17, 34], 211, [.slot 3], (.seq (.reg (.eff (.box 63) (.cons (.inp 1) .nil) (.done [(2, (.bv 0)), (3, (.cst (.bool false)))] none))) h24_32)⟩
theorem l24_ok : liftFn G2 24 400 = some l24 := by kernel_rfl


set_option maxHeartbeats 2000000 in
theorem step_spec (dd : Nat) (T : Desk) (kd who a b : Int) (rv : Value) (rows : List It) (w0 w : World) (A : Asn) (hT : deskOK T) (hl : rows.length ≤ 1048575) (h1 : rv.oneCell' = true) (hrow : Row w0 A rv rows.length 4 (flat rows)) (s : St w0 (A * deskA dd T) w) :
    CallW Try.prog 24 [.pointer (some ⟨dd, 0, none⟩), .agg #[.int .i64 kd, .int .i64 who, .int .i64 a, .int .i64 b, rv]] (fun r w' => r = .bool true ∧ ∃ T', deskOK T' ∧ St w0 (A * deskA dd T') w') w := by
  refine callW_of_lift l24_ok (by simp [l24]) ?_
  simp [l24]
  refine eff_box s ?_
  intro ob w1 s1
  simp
  have o0 : ∀ {B : Asn} {w : World}, St w0 (B * pt ob (.cells #[.int .i64 kd, .int .i64 who, .int .i64 a, .int .i64 b, rv] 63 (0, 0))) w → w.cell? ⟨ob, 0, none⟩ = some (.int .i64 kd) ∧ w.cell? ⟨ob, 1, none⟩ = some (.int .i64 who) ∧ w.cell? ⟨ob, 2, none⟩ = some (.int .i64 a) ∧ w.cell? ⟨ob, 3, none⟩ = some (.int .i64 b) ∧ w.cell? ⟨ob, 4, none⟩ = some rv :=
    fun s => ⟨by rw [cell_of s.look]; rfl, by rw [cell_of s.look]; rfl, by rw [cell_of s.look]; rfl, by rw [cell_of s.look]; rfl, by rw [cell_of s.look]; rfl⟩
  refine eff_ldc (o0 s1).2.1 ?_
  simp
  refine eff_call ((place_spec who 4 w1 (by omega) (by omega)).mono ?_)
  rintro r w2 ⟨rfl, rfl⟩
  have hpl := place_bd who 4 (by omega)
  generalize placeF who 4 = kk at hpl ⊢
  obtain ⟨k, rfl⟩ : ∃ k : Nat, kk = k := ⟨kk.toNat, by omega⟩
  have hk : k < 4 := by omega
  have hki : (k : Int) < 4 := by omega
  simp
  have s2 := s1.to (B := A * pt ob (.cells #[.int .i64 kd, .int .i64 who, .int .i64 a, .int .i64 b, rv] 63 (0, 0)) * deskA dd T) (by ac_rfl)
  have dg : ∀ {B : Asn} {U : Desk} {w : World}, U 3 = none → St w0 (B * deskA dd U) w → w.cell? ⟨dd, k, none⟩ = some (gp (U k)) ∧ w.cell? ⟨dd, 4 + k, none⟩ = some (mp (U k)) := fun {B U w} hU s => by
    have s' := s.to (B := B * (slotA (U 0) * slotA (U 1) * slotA (U 2)) * pt dd (.cells (deskC U) 58 (0, 0))) (by unfold deskA; ac_rfl)
    exact ⟨by rw [cell_of s'.look]; exact (desk_g hk).1, by rw [cell_of s'.look]; exact (desk_g hk).2⟩
  refine regqI s2 ?_
  simp [hki]
  refine effq_ldc (fun w s => (dg hT.1 s).1) ?_
  simp [hki]
  refine effq_ldc (fun w s => (dg hT.1 s).2) ?_
  simp
  intro w3 s3
  refine eff_ldc (o0 s3.swap).1 ?_
  simp
  have fin : ∀ (U : Desk) (o8 o9 o10 o11 o12 o13 o14 o15 o16 : Value) (w : World), deskOK U → St w0 (A * pt ob (.cells #[.int .i64 kd, .int .i64 who, .int .i64 a, .int .i64 b, rv] 63 (0, 0)) * deskA dd U) w →
      HC.wp G2 h24_0 (endQ Try.prog [RV.slot 3] fun r w' => r = Value.bool true ∧ ∃ T', deskOK T' ∧ St w0 (A * deskA dd T') w')
        [.pointer (some ⟨dd, 0, none⟩), .agg #[.int .i64 kd, .int .i64 who, .int .i64 a, .int .i64 b, rv], .pointer (some ⟨ob, 0, none⟩), .bool false, .int .i64 k, gp (T k), mp (T k), .bool true, o8, o9, o10, o11, o12, o13, o14, o15, o16, .int .i64 kd] w := by
    intro U o8 o9 o10 o11 o12 o13 o14 o15 o16 w hU t
    simp
    refine eff_ldc (o0 t.swap).2.2.1 ?_
    simp
    refine eff_ldc (o0 t.swap).2.2.2.1 ?_
    simp
    rw [desk_at dd U hU.1 hk] at t
    refine eff_call ((looks_spec dd k (U k) a b w0 w (A * pt ob (.cells #[.int .i64 kd, .int .i64 who, .int .i64 a, .int .i64 b, rv] 63 (0, 0)) * pt dd (.cells (deskC U) 58 (0, 0)) * restA U k) hk (hU.2 k) (fun w s => dg (B := A * pt ob (.cells #[.int .i64 kd, .int .i64 who, .int .i64 a, .int .i64 b, rv] 63 (0, 0))) (U := U) hU.1 (s.to (by rw [desk_at dd U hU.1 hk]; ac_rfl))) (t.to (by ac_rfl))).mono ?_)
    rintro r w4 ⟨rfl, t2⟩
    simp
    exact ⟨U, hU, by rw [desk_at dd U hU.1 hk]; exact St.cut (pt ob (.cells #[.int .i64 kd, .int .i64 who, .int .i64 a, .int .i64 b, rv] 63 (0, 0))) t2 (by ac_rfl)⟩
  have op := hT.2 k
  have s4 := s3.to (B := A * pt ob (.cells #[.int .i64 kd, .int .i64 who, .int .i64 a, .int .i64 b, rv] 63 (0, 0)) * (pt dd (.cells (deskC T) 58 (0, 0)) * restA T k) * rO (T k) (itsS (T k)) * gO (T k) (itsS (T k))) (by rw [desk_at dd T hT.1 hk, slot_two]; ac_rfl)
  refine cndI (fun e1 => ?_) (fun e1 => ?_)
  · simp
    refine eff_ldc (o0 s3.swap).2.2.1 ?_
    simp
    refine eff_ldc (o0 s3.swap).2.2.2.1 ?_
    simp
    refine eff_call ((hMake (T k) a b w0 w3 _ op s4).mono ?_)
    rintro r w4 ⟨rfl, t1⟩
    have t1o := t1.to (B := A * (pt dd (.cells (deskC T) 58 (0, 0)) * restA T k) * rO (T k) (itsS (T k)) * gO (T k) (makeS (T k) a b).2.2 * pt ob (.cells #[.int .i64 kd, .int .i64 who, .int .i64 a, .int .i64 b, rv] 63 (0, 0))) (by ac_rfl)
    simp
    refine eff_ldc (o0 t1o).2.2.1 ?_
    simp
    refine eff_ldc (o0 t1o).2.2.2.1 ?_
    simp
    refine eff_call ((hrMake (T k) a b w0 w4 _ op t1.swap).mono ?_)
    rintro r w5 ⟨rfl, t2⟩
    simp
    obtain ⟨d1, d2⟩ := desk_put dd hT hk (make_ok op a b)
    have := fin _ (.int .i64 (makeS (T k) a b).1) (.int .i64 (makeS (T k) a b).2.1) (.int .i64 (makeS (T k) a b).1) (.int .i64 (makeS (T k) a b).2.1) undef undef undef undef undef w5 d1 (t2.to (by rw [d2]; ac_rfl))
    simp at this
    simpa using this
  simp
  refine cndI (fun e2 => ?_) (fun e2 => ?_)
  · simp
    refine regmI (cls (.int .i64 (moveS (T k) a b).1) (.int .i64 (moveS (T k) a b).1)
      (St w0 (A * pt ob (.cells #[.int .i64 kd, .int .i64 who, .int .i64 a, .int .i64 b, rv] 63 (0, 0)) * (pt dd (.cells (deskC T) 58 (0, 0)) * restA T k) * rO (T k) (itsS (T k)) * gO (T k) (itsS (T k))))
      (St w0 (A * pt ob (.cells #[.int .i64 kd, .int .i64 who, .int .i64 a, .int .i64 b, rv] 63 (0, 0)) * (pt dd (.cells (deskC T) 58 (0, 0)) * restA T k) * rO (T k) (itsS (T k)) * gO (T k) (moveS (T k) a b).2))
      (St w0 (A * pt ob (.cells #[.int .i64 kd, .int .i64 who, .int .i64 a, .int .i64 b, rv] 63 (0, 0)) * (pt dd (.cells (deskC T) 58 (0, 0)) * restA T k) * gO (T k) (moveS (T k) a b).2 * rO (T k) (moveS (T k) a b).2))) s4.drew ?_
    simp
    refine effm_ldc (v := .int .i64 a) (cls_ld (vs := []) (by simp) (fun w s => (o0 (s.to (B := A * (pt dd (.cells (deskC T) 58 (0, 0)) * restA T k) * rO (T k) (itsS (T k)) * gO (T k) (itsS (T k)) * pt ob (.cells #[.int .i64 kd, .int .i64 who, .int .i64 a, .int .i64 b, rv] 63 (0, 0))) (by ac_rfl))).2.2.1) (fun w s => (o0 (s.to (B := A * (pt dd (.cells (deskC T) 58 (0, 0)) * restA T k) * rO (T k) (itsS (T k)) * gO (T k) (moveS (T k) a b).2 * pt ob (.cells #[.int .i64 kd, .int .i64 who, .int .i64 a, .int .i64 b, rv] 63 (0, 0))) (by ac_rfl))).2.2.1)) ?_
    simp
    refine effm_ldc (v := .int .i64 b) (cls_ld (vs := []) (by simp) (fun w s => (o0 (s.to (B := A * (pt dd (.cells (deskC T) 58 (0, 0)) * restA T k) * rO (T k) (itsS (T k)) * gO (T k) (itsS (T k)) * pt ob (.cells #[.int .i64 kd, .int .i64 who, .int .i64 a, .int .i64 b, rv] 63 (0, 0))) (by ac_rfl))).2.2.2.1) (fun w s => (o0 (s.to (B := A * (pt dd (.cells (deskC T) 58 (0, 0)) * restA T k) * rO (T k) (itsS (T k)) * gO (T k) (moveS (T k) a b).2 * pt ob (.cells #[.int .i64 kd, .int .i64 who, .int .i64 a, .int .i64 b, rv] 63 (0, 0))) (by ac_rfl))).2.2.2.1)) ?_
    simp
    refine effm_mv rfl (fun w hw => eff_call (hMove (T k) a b w0 w _ op hw)) (fun r hr => ?_)
    obtain ⟨_, rfl, _⟩ := hr
    simp
    refine effm_ldc (v := .int .i64 a) (cls_ld (vs := [.int .i64 (moveS (T k) a b).1]) (by simp) (fun w s => (o0 (s.to (B := A * (pt dd (.cells (deskC T) 58 (0, 0)) * restA T k) * rO (T k) (itsS (T k)) * gO (T k) (itsS (T k)) * pt ob (.cells #[.int .i64 kd, .int .i64 who, .int .i64 a, .int .i64 b, rv] 63 (0, 0))) (by ac_rfl))).2.2.1) (fun w s => (o0 (s.to (B := A * (pt dd (.cells (deskC T) 58 (0, 0)) * restA T k) * rO (T k) (itsS (T k)) * gO (T k) (moveS (T k) a b).2 * pt ob (.cells #[.int .i64 kd, .int .i64 who, .int .i64 a, .int .i64 b, rv] 63 (0, 0))) (by ac_rfl))).2.2.1)) ?_
    simp
    refine effm_ldc (v := .int .i64 b) (cls_ld (vs := [.int .i64 (moveS (T k) a b).1]) (by simp) (fun w s => (o0 (s.to (B := A * (pt dd (.cells (deskC T) 58 (0, 0)) * restA T k) * rO (T k) (itsS (T k)) * gO (T k) (itsS (T k)) * pt ob (.cells #[.int .i64 kd, .int .i64 who, .int .i64 a, .int .i64 b, rv] 63 (0, 0))) (by ac_rfl))).2.2.2.1) (fun w s => (o0 (s.to (B := A * (pt dd (.cells (deskC T) 58 (0, 0)) * restA T k) * rO (T k) (itsS (T k)) * gO (T k) (moveS (T k) a b).2 * pt ob (.cells #[.int .i64 kd, .int .i64 who, .int .i64 a, .int .i64 b, rv] 63 (0, 0))) (by ac_rfl))).2.2.2.1)) ?_
    simp
    refine effm_mv rfl (fun w hw => eff_call ((hrMove (T k) a b w0 w _ op hw.2.swap).mono fun r w' h => ⟨rfl, h⟩)) (fun r hr => ?_)
    obtain ⟨_, _, rfl, _⟩ := hr
    simp
    rintro w5 ⟨_, _, t2⟩
    obtain ⟨d1, d2⟩ := desk_put dd hT hk (move_ok op a b)
    have := fin _ undef undef undef undef undef undef undef undef undef w5 d1 (t2.to (by rw [d2]; ac_rfl))
    simp at this
    simpa using this
  simp
  refine cndI (fun e3 => ?_) (fun e3 => ?_)
  · simp
    refine regmI (cls (.int .i64 (holdS (T k) a b).1) (.int .i64 (holdS (T k) a b).1)
      (St w0 (A * pt ob (.cells #[.int .i64 kd, .int .i64 who, .int .i64 a, .int .i64 b, rv] 63 (0, 0)) * (pt dd (.cells (deskC T) 58 (0, 0)) * restA T k) * rO (T k) (itsS (T k)) * gO (T k) (itsS (T k))))
      (St w0 (A * pt ob (.cells #[.int .i64 kd, .int .i64 who, .int .i64 a, .int .i64 b, rv] 63 (0, 0)) * (pt dd (.cells (deskC T) 58 (0, 0)) * restA T k) * rO (T k) (itsS (T k)) * gO (T k) (holdS (T k) a b).2))
      (St w0 (A * pt ob (.cells #[.int .i64 kd, .int .i64 who, .int .i64 a, .int .i64 b, rv] 63 (0, 0)) * (pt dd (.cells (deskC T) 58 (0, 0)) * restA T k) * gO (T k) (holdS (T k) a b).2 * rO (T k) (holdS (T k) a b).2))) s4.drew ?_
    simp
    refine effm_ldc (v := .int .i64 a) (cls_ld (vs := []) (by simp) (fun w s => (o0 (s.to (B := A * (pt dd (.cells (deskC T) 58 (0, 0)) * restA T k) * rO (T k) (itsS (T k)) * gO (T k) (itsS (T k)) * pt ob (.cells #[.int .i64 kd, .int .i64 who, .int .i64 a, .int .i64 b, rv] 63 (0, 0))) (by ac_rfl))).2.2.1) (fun w s => (o0 (s.to (B := A * (pt dd (.cells (deskC T) 58 (0, 0)) * restA T k) * rO (T k) (itsS (T k)) * gO (T k) (holdS (T k) a b).2 * pt ob (.cells #[.int .i64 kd, .int .i64 who, .int .i64 a, .int .i64 b, rv] 63 (0, 0))) (by ac_rfl))).2.2.1)) ?_
    simp
    refine effm_ldc (v := .int .i64 b) (cls_ld (vs := []) (by simp) (fun w s => (o0 (s.to (B := A * (pt dd (.cells (deskC T) 58 (0, 0)) * restA T k) * rO (T k) (itsS (T k)) * gO (T k) (itsS (T k)) * pt ob (.cells #[.int .i64 kd, .int .i64 who, .int .i64 a, .int .i64 b, rv] 63 (0, 0))) (by ac_rfl))).2.2.2.1) (fun w s => (o0 (s.to (B := A * (pt dd (.cells (deskC T) 58 (0, 0)) * restA T k) * rO (T k) (itsS (T k)) * gO (T k) (holdS (T k) a b).2 * pt ob (.cells #[.int .i64 kd, .int .i64 who, .int .i64 a, .int .i64 b, rv] 63 (0, 0))) (by ac_rfl))).2.2.2.1)) ?_
    simp
    refine effm_mv rfl (fun w hw => eff_call (hHold (T k) a b w0 w _ op hw)) (fun r hr => ?_)
    obtain ⟨_, rfl, _⟩ := hr
    simp
    refine effm_ldc (v := .int .i64 a) (cls_ld (vs := [.int .i64 (holdS (T k) a b).1]) (by simp) (fun w s => (o0 (s.to (B := A * (pt dd (.cells (deskC T) 58 (0, 0)) * restA T k) * rO (T k) (itsS (T k)) * gO (T k) (itsS (T k)) * pt ob (.cells #[.int .i64 kd, .int .i64 who, .int .i64 a, .int .i64 b, rv] 63 (0, 0))) (by ac_rfl))).2.2.1) (fun w s => (o0 (s.to (B := A * (pt dd (.cells (deskC T) 58 (0, 0)) * restA T k) * rO (T k) (itsS (T k)) * gO (T k) (holdS (T k) a b).2 * pt ob (.cells #[.int .i64 kd, .int .i64 who, .int .i64 a, .int .i64 b, rv] 63 (0, 0))) (by ac_rfl))).2.2.1)) ?_
    simp
    refine effm_ldc (v := .int .i64 b) (cls_ld (vs := [.int .i64 (holdS (T k) a b).1]) (by simp) (fun w s => (o0 (s.to (B := A * (pt dd (.cells (deskC T) 58 (0, 0)) * restA T k) * rO (T k) (itsS (T k)) * gO (T k) (itsS (T k)) * pt ob (.cells #[.int .i64 kd, .int .i64 who, .int .i64 a, .int .i64 b, rv] 63 (0, 0))) (by ac_rfl))).2.2.2.1) (fun w s => (o0 (s.to (B := A * (pt dd (.cells (deskC T) 58 (0, 0)) * restA T k) * rO (T k) (itsS (T k)) * gO (T k) (holdS (T k) a b).2 * pt ob (.cells #[.int .i64 kd, .int .i64 who, .int .i64 a, .int .i64 b, rv] 63 (0, 0))) (by ac_rfl))).2.2.2.1)) ?_
    simp
    refine effm_mv rfl (fun w hw => eff_call ((hrHold (T k) a b w0 w _ op hw.2.swap).mono fun r w' h => ⟨rfl, h⟩)) (fun r hr => ?_)
    obtain ⟨_, _, rfl, _⟩ := hr
    simp
    rintro w5 ⟨_, _, t2⟩
    obtain ⟨d1, d2⟩ := desk_put dd hT hk (hold_ok op a b)
    have := fin _ undef undef undef undef undef undef undef undef undef w5 d1 (t2.to (by rw [d2]; ac_rfl))
    simp at this
    simpa using this
  simp
  refine cndI (fun e4 => ?_) (fun e4 => ?_)
  · simp
    refine regmI (cls (.int .i64 (freeS (T k) a b).1) (.int .i64 (freeS (T k) a b).1)
      (St w0 (A * pt ob (.cells #[.int .i64 kd, .int .i64 who, .int .i64 a, .int .i64 b, rv] 63 (0, 0)) * (pt dd (.cells (deskC T) 58 (0, 0)) * restA T k) * rO (T k) (itsS (T k)) * gO (T k) (itsS (T k))))
      (St w0 (A * pt ob (.cells #[.int .i64 kd, .int .i64 who, .int .i64 a, .int .i64 b, rv] 63 (0, 0)) * (pt dd (.cells (deskC T) 58 (0, 0)) * restA T k) * rO (T k) (itsS (T k)) * gO (T k) (freeS (T k) a b).2))
      (St w0 (A * pt ob (.cells #[.int .i64 kd, .int .i64 who, .int .i64 a, .int .i64 b, rv] 63 (0, 0)) * (pt dd (.cells (deskC T) 58 (0, 0)) * restA T k) * gO (T k) (freeS (T k) a b).2 * rO (T k) (freeS (T k) a b).2))) s4.drew ?_
    simp
    refine effm_ldc (v := .int .i64 a) (cls_ld (vs := []) (by simp) (fun w s => (o0 (s.to (B := A * (pt dd (.cells (deskC T) 58 (0, 0)) * restA T k) * rO (T k) (itsS (T k)) * gO (T k) (itsS (T k)) * pt ob (.cells #[.int .i64 kd, .int .i64 who, .int .i64 a, .int .i64 b, rv] 63 (0, 0))) (by ac_rfl))).2.2.1) (fun w s => (o0 (s.to (B := A * (pt dd (.cells (deskC T) 58 (0, 0)) * restA T k) * rO (T k) (itsS (T k)) * gO (T k) (freeS (T k) a b).2 * pt ob (.cells #[.int .i64 kd, .int .i64 who, .int .i64 a, .int .i64 b, rv] 63 (0, 0))) (by ac_rfl))).2.2.1)) ?_
    simp
    refine effm_ldc (v := .int .i64 b) (cls_ld (vs := []) (by simp) (fun w s => (o0 (s.to (B := A * (pt dd (.cells (deskC T) 58 (0, 0)) * restA T k) * rO (T k) (itsS (T k)) * gO (T k) (itsS (T k)) * pt ob (.cells #[.int .i64 kd, .int .i64 who, .int .i64 a, .int .i64 b, rv] 63 (0, 0))) (by ac_rfl))).2.2.2.1) (fun w s => (o0 (s.to (B := A * (pt dd (.cells (deskC T) 58 (0, 0)) * restA T k) * rO (T k) (itsS (T k)) * gO (T k) (freeS (T k) a b).2 * pt ob (.cells #[.int .i64 kd, .int .i64 who, .int .i64 a, .int .i64 b, rv] 63 (0, 0))) (by ac_rfl))).2.2.2.1)) ?_
    simp
    refine effm_mv rfl (fun w hw => eff_call (hFree (T k) a b w0 w _ op hw)) (fun r hr => ?_)
    obtain ⟨_, rfl, _⟩ := hr
    simp
    refine effm_ldc (v := .int .i64 a) (cls_ld (vs := [.int .i64 (freeS (T k) a b).1]) (by simp) (fun w s => (o0 (s.to (B := A * (pt dd (.cells (deskC T) 58 (0, 0)) * restA T k) * rO (T k) (itsS (T k)) * gO (T k) (itsS (T k)) * pt ob (.cells #[.int .i64 kd, .int .i64 who, .int .i64 a, .int .i64 b, rv] 63 (0, 0))) (by ac_rfl))).2.2.1) (fun w s => (o0 (s.to (B := A * (pt dd (.cells (deskC T) 58 (0, 0)) * restA T k) * rO (T k) (itsS (T k)) * gO (T k) (freeS (T k) a b).2 * pt ob (.cells #[.int .i64 kd, .int .i64 who, .int .i64 a, .int .i64 b, rv] 63 (0, 0))) (by ac_rfl))).2.2.1)) ?_
    simp
    refine effm_ldc (v := .int .i64 b) (cls_ld (vs := [.int .i64 (freeS (T k) a b).1]) (by simp) (fun w s => (o0 (s.to (B := A * (pt dd (.cells (deskC T) 58 (0, 0)) * restA T k) * rO (T k) (itsS (T k)) * gO (T k) (itsS (T k)) * pt ob (.cells #[.int .i64 kd, .int .i64 who, .int .i64 a, .int .i64 b, rv] 63 (0, 0))) (by ac_rfl))).2.2.2.1) (fun w s => (o0 (s.to (B := A * (pt dd (.cells (deskC T) 58 (0, 0)) * restA T k) * rO (T k) (itsS (T k)) * gO (T k) (freeS (T k) a b).2 * pt ob (.cells #[.int .i64 kd, .int .i64 who, .int .i64 a, .int .i64 b, rv] 63 (0, 0))) (by ac_rfl))).2.2.2.1)) ?_
    simp
    refine effm_mv rfl (fun w hw => eff_call ((hrFree (T k) a b w0 w _ op hw.2.swap).mono fun r w' h => ⟨rfl, h⟩)) (fun r hr => ?_)
    obtain ⟨_, _, rfl, _⟩ := hr
    simp
    rintro w5 ⟨_, _, t2⟩
    obtain ⟨d1, d2⟩ := desk_put dd hT hk (free_ok op a b)
    have := fin _ undef undef undef undef undef undef undef undef undef w5 d1 (t2.to (by rw [d2]; ac_rfl))
    simp at this
    simpa using this
  simp
  refine cndI (fun e5 => ?_) (fun e5 => ?_)
  · simp
    refine eff_call ((hCopy (T k) w0 w3 _ op s4).mono ?_)
    rintro r w4 ⟨p, rfl, t1⟩
    have t2 := t1.to (B := A * pt ob (.cells #[.int .i64 kd, .int .i64 who, .int .i64 a, .int .i64 b, rv] 63 (0, 0)) * gO (copyS (T k) p 0) (itsS (T k)) * deskA dd T) (by rw [desk_at dd T hT.1 hk, slot_two]; ac_rfl)
    have rest : CondC G2 (Value.bool (decide ((k : Int) < 3))) h24_7 HC.skip
        (blockQ 0 (seqQ G2 h24_0 (endQ Try.prog [RV.slot 3] fun r w' => r = Value.bool true ∧ ∃ T', deskOK T' ∧ St w0 (A * deskA dd T') w')))
        [.pointer (some ⟨dd, 0, none⟩), .agg #[.int .i64 kd, .int .i64 who, .int .i64 a, .int .i64 b, rv], .pointer (some ⟨ob, 0, none⟩), .bool false, .int .i64 k, gp (T k), mp (T k), .bool true, undef, undef, undef, undef, gp (copyS (T k) p 0), undef, undef, undef, undef, .int .i64 kd] w4 := by
      refine cndI (fun hk3 => ?_) (fun hk3 => ?_)
      · simp at hk3
        have hk3n : k < 3 := by omega
        have hj : Int.tmod ((k : Int) + 1) 3 = (((k + 1) % 3 : Nat) : Int) := by
          have : k = 0 ∨ k = 1 ∨ k = 2 := by omega
          rcases this with rfl | rfl | rfl <;> rfl
        have hj3 : (k + 1) % 3 < 3 := Nat.mod_lt _ (by omega)
        generalize (k + 1) % 3 = j at hj hj3
        have hj4 : (j : Int) < 4 := by omega
        refine regmI (fun vs w => match vs with
          | [] => St w0 (A * pt ob (.cells #[.int .i64 kd, .int .i64 who, .int .i64 a, .int .i64 b, rv] 63 (0, 0)) * gO (copyS (T k) p 0) (itsS (T k)) * deskA dd T) w
          | [r] => ∃ q, r = mp (copyS (T k) 0 q) ∧ St w0 (A * pt ob (.cells #[.int .i64 kd, .int .i64 who, .int .i64 a, .int .i64 b, rv] 63 (0, 0)) * gO (copyS (T k) p 0) (itsS (T k)) * rO (copyS (T k) 0 q) (itsS (T k)) * deskA dd T) w
          | [r, _] => ∃ q, r = mp (copyS (T k) 0 q) ∧ St w0 (A * pt ob (.cells #[.int .i64 kd, .int .i64 who, .int .i64 a, .int .i64 b, rv] 63 (0, 0)) * gO (copyS (T k) p 0) (itsS (T k)) * rO (copyS (T k) 0 q) (itsS (T k)) * (restA T j * slotA (T j)) * pt dd (.cells ((deskC T).setIfInBounds j (gp (copyS (T k) p 0))) 58 (0, 0))) w
          | _ => ∃ q, St w0 (A * pt ob (.cells #[.int .i64 kd, .int .i64 who, .int .i64 a, .int .i64 b, rv] 63 (0, 0)) * gO (copyS (T k) p 0) (itsS (T k)) * rO (copyS (T k) 0 q) (itsS (T k)) * (restA T j * slotA (T j)) * pt dd (.cells (((deskC T).setIfInBounds j (gp (copyS (T k) p 0))).setIfInBounds (4 + j) (mp (copyS (T k) 0 q))) 58 (0, 0))) w) t2.drew ?_
        simp
        try simp (disch := omega) only [wrap64]
        try simp [hj, hj4]
        refine effm_mv rfl (fun w hw => eff_call ((hrCopy (T k) w0 w (A * pt ob (.cells #[.int .i64 kd, .int .i64 who, .int .i64 a, .int .i64 b, rv] 63 (0, 0)) * gO (copyS (T k) p 0) (itsS (T k)) * pt dd (.cells (deskC T) 58 (0, 0)) * restA T k * gO (T k) (itsS (T k))) op ((St.to hw (by rw [desk_at dd T hT.1 hk, slot_two]; ac_rfl) : St w0 (A * pt ob (.cells #[.int .i64 kd, .int .i64 who, .int .i64 a, .int .i64 b, rv] 63 (0, 0)) * gO (copyS (T k) p 0) (itsS (T k)) * pt dd (.cells (deskC T) 58 (0, 0)) * restA T k * gO (T k) (itsS (T k)) * rO (T k) (itsS (T k))) w))).mono ?_)) (fun r hr => ?_)
        · rintro r w' ⟨q, rfl, t3⟩
          exact ⟨q, rfl, t3.to (by rw [desk_at dd T hT.1 hk, slot_two]; ac_rfl)⟩
        obtain ⟨_, q, rfl, _⟩ := hr
        simp
        try simp (disch := omega) only [wrap64]
        simp [hj, hj4]
        refine effm_mv rfl (fun w hw => ?_) (fun v _ => ?_)
        · obtain ⟨q', e, t4⟩ := hw
          exact eff_st1 (F := A * pt ob (.cells #[.int .i64 kd, .int .i64 who, .int .i64 a, .int .i64 b, rv] 63 (0, 0)) * gO (copyS (T k) p 0) (itsS (T k)) * rO (copyS (T k) 0 q') (itsS (T k)) * (restA T j * slotA (T j))) (t4.to (by rw [desk_at dd T hT.1 (show j < 4 by omega)]; ac_rfl)) (gp_one _) (by simp [deskC]; omega) fun w' h => ⟨q', e, h⟩
        simp
        try simp (disch := omega) only [wrap64]
        simp [hj, hj4]
        refine effm_mv rfl (fun w hw => ?_) (fun v _ => ?_)
        · obtain ⟨q', e, t4⟩ := hw
          rw [e]
          exact eff_st1 (F := A * pt ob (.cells #[.int .i64 kd, .int .i64 who, .int .i64 a, .int .i64 b, rv] 63 (0, 0)) * gO (copyS (T k) p 0) (itsS (T k)) * rO (copyS (T k) 0 q') (itsS (T k)) * (restA T j * slotA (T j))) t4 (mp_one _) (by simp [deskC]; omega) fun w' h => ⟨q', h⟩
        simp
        intro w9 q9 f9
        rw [copy_gp (T k) p 0 q9, copy_mp (T k) 0 p q9, desk_set (by omega)] at f9
        have ht : slotOK (copyS (T k) p q9) := copy_ok p q9 op
        have hU := upd_ok hT hj3 ht
        have hu : (upd T j (copyS (T k) p q9)) j = copyS (T k) p q9 := by simp [upd]
        have hr : restA (upd T j (copyS (T k) p q9)) j = restA T j := by rw [rest_upd T j _ (by omega), if_neg (by omega)]
        have := fin _ undef undef undef undef (gp (copyS (T k) p 0)) undef undef undef undef w9 hU (St.cut (slotA (T j)) f9 (by rw [desk_at dd _ hU.1 (show j < 4 by omega), hu, hr, slot_copy, copy_gO (T k) p q9 0, copy_rO (T k) p 0 q9]; ac_rfl))
        simp at this
        simpa using this
      · simp
        have := fin T undef undef undef undef (gp (copyS (T k) p 0)) undef undef undef undef w4 hT (St.cut (gO (copyS (T k) p 0) (itsS (T k))) t2 (by ac_rfl))
        simp at this
        simpa using this
    simp
    cases hTk : T k with
    | none =>
      simp [gp, mp, copyS]
      simpa [hTk, gp, mp, copyS] using rest
    | some x =>
      simp [gp, mp, copyS]
      simpa [hTk, gp, mp, copyS] using rest
  simp
  refine cndI (fun e6 => ?_) (fun e6 => ?_)
  · simp
    have t0 := s3
    rw [desk_at dd T hT.1 hk] at t0
    refine eff_call ((orLimit (T k) w0 w3 (A * pt ob (.cells #[.int .i64 kd, .int .i64 who, .int .i64 a, .int .i64 b, rv] 63 (0, 0)) * pt dd (.cells (deskC T) 58 (0, 0)) * restA T k) op (t0.to (by ac_rfl))).mono ?_)
    rintro r w4 ⟨rfl, t1⟩
    simp
    refine eff_call ((oRows (T k) w0 w4 (A * pt ob (.cells #[.int .i64 kd, .int .i64 who, .int .i64 a, .int .i64 b, rv] 63 (0, 0)) * pt dd (.cells (deskC T) 58 (0, 0)) * restA T k) op t1).mono ?_)
    intro r w5 t2
    simp
    have t3 := t2.to (B := A * pt ob (.cells #[.int .i64 kd, .int .i64 who, .int .i64 a, .int .i64 b, rv] 63 (0, 0)) * own 44 4 r (itsS (T k)).length (flat (itsS (T k))) * deskA dd T) (by rw [desk_at dd T hT.1 hk]; ac_rfl)
    have hlen : (itsS (T k)).length ≤ 1048575 := by
      cases h : T k with
      | none => simp [itsS]
      | some x =>
        rw [h] at op
        have hg : GI x.lim x.its := op
        have h1 := hg.len
        have h2 := hg.lim
        simp only [itsS]; omega
    have hrow : Row w0 (A * pt ob (.cells #[.int .i64 kd, .int .i64 who, .int .i64 a, .int .i64 b, rv] 63 (0, 0)) * own 44 4 r (itsS (T k)).length (flat (itsS (T k)))) r (itsS (T k)).length 4 (flat (itsS (T k))) := row_in (e := 44) (B := A * pt ob (.cells #[.int .i64 kd, .int .i64 who, .int .i64 a, .int .i64 b, rv] 63 (0, 0))) t3.drop rfl
    refine eff_call ((dload_spec dd k T (limS (T k)) (itsS (T k)) r w0 w5 _ hk hT hlen hrow t3).mono ?_)
    rintro r' w6 ⟨rfl, U, hU, t4⟩
    have := fin U undef undef undef undef undef undef undef undef undef w6 hU (St.cut (own 44 4 r (itsS (T k)).length (flat (itsS (T k)))) t4 (by ac_rfl))
    simp at this
    simpa using this
  simp
  refine cndI (fun e7 => ?_) (fun e7 => ?_)
  · simp
    refine eff_ldc (o0 s3.swap).2.2.1 ?_
    simp
    refine eff_ldc (o0 s3.swap).2.2.2.2 ?_
    simp
    refine eff_call ((dload_spec dd k T a rows rv w0 w3 _ hk hT hl (hrow.mono fun w s => s.drop) s3).mono ?_)
    rintro r' w6 ⟨rfl, U, hU, t4⟩
    have := fin U undef undef undef undef undef undef undef undef undef w6 hU t4
    simp at this
    simpa using this
  simp
  refine cndI (fun e8 => ?_) (fun e8 => ?_)
  · simp
    refine eff_ldc (o0 s3.swap).2.2.1 ?_
    simp
    refine eff_call ((New_spec a w0 w3 _ s3).mono ?_)
    intro r w4 h4
    by_cases hE : 0 ≤ a ∧ a ≤ 512
    · rw [if_pos hE] at h4
      obtain ⟨p, rfl, t1⟩ := h4
      have t1o := t1.to (B := A * deskA dd T * gds p a [] * pt ob (.cells #[.int .i64 kd, .int .i64 who, .int .i64 a, .int .i64 b, rv] 63 (0, 0))) (by ac_rfl)
      simp
      refine eff_ldc (o0 t1o).2.2.1 ?_
      simp
      refine eff_call ((rNew_spec a w0 w4 _ t1).mono ?_)
      intro r w5 h5
      rw [if_pos hE] at h5
      obtain ⟨q, rfl, t2⟩ := h5
      simp
      refine cndI (fun hk3 => ?_) (fun hk3 => ?_)
      · simp at hk3
        have hk4i : (k : Int) < 4 := by omega
        simp [hk4i]
        have f := (t2.to (by rw [desk_at dd T hT.1 hk]) : St w0 (A * pt ob (.cells #[.int .i64 kd, .int .i64 who, .int .i64 a, .int .i64 b, rv] 63 (0, 0)) * (pt dd (.cells (deskC T) 58 (0, 0)) * restA T k * slotA (T k)) * gds p a [] * rgs q a []) w5)
        have f2 := St.cut (slotA (T k)) f (B := A * pt ob (.cells #[.int .i64 kd, .int .i64 who, .int .i64 a, .int .i64 b, rv] 63 (0, 0)) * restA T k * (gds p a [] * rgs q a []) * pt dd (.cells (deskC T) 58 (0, 0))) (by ac_rfl)
        refine regmI (fun vs w => match vs with
          | [] => St w0 (A * pt ob (.cells #[.int .i64 kd, .int .i64 who, .int .i64 a, .int .i64 b, rv] 63 (0, 0)) * restA T k * (gds p a [] * rgs q a []) * pt dd (.cells (deskC T) 58 (0, 0))) w
          | [_] => St w0 (A * pt ob (.cells #[.int .i64 kd, .int .i64 who, .int .i64 a, .int .i64 b, rv] 63 (0, 0)) * restA T k * (gds p a [] * rgs q a []) * pt dd (.cells ((deskC T).setIfInBounds k (gp (some ⟨p, q, a, []⟩))) 58 (0, 0))) w
          | _ => St w0 (A * pt ob (.cells #[.int .i64 kd, .int .i64 who, .int .i64 a, .int .i64 b, rv] 63 (0, 0)) * restA T k * (gds p a [] * rgs q a []) * pt dd (.cells (((deskC T).setIfInBounds k (gp (some ⟨p, q, a, []⟩))).setIfInBounds (4 + k) (mp (some ⟨p, q, a, []⟩))) 58 (0, 0))) w) f2.drew ?_
        simp [hk4i]
        refine effm_mv rfl (fun w hw => eff_st1 hw rfl (by simp [deskC]; omega) fun w' h => h) (fun v _ => ?_)
        simp [hk4i]
        refine effm_mv rfl (fun w hw => eff_st1 hw rfl (by simp [deskC]; omega) fun w' h => h) (fun v _ => ?_)
        simp
        intro w9 f9
        rw [desk_set hk] at f9
        have ht : slotOK (some ⟨p, q, a, []⟩) := gi_nil hE.1 hE.2
        have hU := upd_ok hT (by omega : k < 3) ht
        have hu : (upd T k (some ⟨p, q, a, []⟩)) k = some ⟨p, q, a, []⟩ := by simp [upd]
        have hr : restA (upd T k (some ⟨p, q, a, []⟩)) k = restA T k := by rw [rest_upd T k _ hk, if_neg (by omega)]
        have := fin _ undef undef undef undef undef (.pointer (some ⟨p, 0, none⟩)) (.int .i64 0) (.pointer (some ⟨q, 0, none⟩)) (.int .i64 0) w9 hU (f9.to (by rw [desk_at dd _ hU.1 hk, hu, hr]; simp only [slotA]; ac_rfl))
        simp at this
        simpa using this
      · simp
        have := fin T undef undef undef undef undef (.pointer (some ⟨p, 0, none⟩)) (.int .i64 0) (.pointer (some ⟨q, 0, none⟩)) (.int .i64 0) w5 hT (St.cut (gds p a [] * rgs q a []) t2 (by ac_rfl))
        simp at this
        simpa using this
    · rw [if_neg hE] at h4
      obtain ⟨rfl, t1⟩ := h4
      simp
      refine eff_ldc (o0 t1.swap).2.2.1 ?_
      simp
      refine eff_call ((rNew_spec a w0 w4 _ t1).mono ?_)
      intro r w5 h5
      rw [if_neg hE] at h5
      obtain ⟨rfl, t2⟩ := h5
      simp
      have := fin T undef undef undef undef undef (.pointer none) (.int .i64 2) (.pointer none) (.int .i64 2) w5 hT t2
      simp at this
      simpa using this
  · simp
    have := fin T undef undef undef undef undef undef undef undef undef w3 hT s3
    simp at this
    simpa using this
end Go.HL.Gd
