/-
  What the claim leans on, part 12 of 12. Conditions: as each theorem says.
-/
import Derived.Test.YtngjaibngkhidaaWPMk
namespace Go.HL.Wh
open Go.HL Go.Proofs
set_option maxRecDepth 4000
set_option linter.unusedSimpArgs false
set_option linter.unusedVariables false
-- (*bazaar/bazaarlaw09.desk).looks
def h28_0 : HC := (.seq (.reg (.chk none (.cal 10) (.cons (.inp 15) .nil) (.chk none (.bin .eql) (.cons (.op (.cal 10) (.cons (.inp 15) .nil)) (.cons (.cst (.int .i64 93)) .nil)) (.bnd (.op (.bin .eql) (.cons (.op (.cal 10) (.cons (.inp 15) .nil)) (.cons (.cst (.int .i64 93)) .nil))) (.chk (some ((.bv 0), true)) (.cal 10) (.cons (.inp 18) .nil) (.chk (some ((.bv 0), true)) (.bin .eql) (.cons (.op (.cal 10) (.cons (.inp 18) .nil)) (.cons (.cst (.int .i64 93)) .nil)) (.isb none (.bv 0) (.bnd (.ite (.bv 0) true (.op (.bin .eql) (.cons (.op (.cal 10) (.cons (.inp 18) .nil)) (.cons (.cst (.int .i64 93)) .nil))) (.cst (.bool false))) (.chk (some ((.bv 1), true)) (.bin .eql) (.cons (.inp 14) (.cons (.cst (.int .i64 0)) .nil)) (.isb none (.bv 1) (.bnd (.ite (.bv 1) true (.op (.bin .eql) (.cons (.inp 14) (.cons (.cst (.int .i64 0)) .nil))) (.cst (.bool false))) (.chk (some ((.bv 2), true)) (.bin .eql) (.cons (.inp 16) (.cons (.cst (.int .i64 0)) .nil)) (.isb none (.bv 2) (.bnd (.ite (.bv 2) true (.op (.bin .eql) (.cons (.inp 16) (.cons (.cst (.int .i64 0)) .nil))) (.cst (.bool false))) (.chk (some ((.bv 3), true)) (.bin .eql) (.cons (.inp 17) (.cons (.cst (.int .i64 0)) .nil)) (.isb none (.bv 3) (.done [(3, (.ite (.bv 3) true (.op (.bin .eql) (.cons (.inp 17) (.cons (.cst (.int .i64 0)) .nil))) (.cst (.bool false))))] none))))))))))))))))) .ret)
@[simp] theorem h28_0_wp {P : Program} {F : PF P} {Q : EX → List Value → World → Prop} {env : List Value} {w : World} : h28_0.wp F Q env w = HC.wp F (.seq (.reg (.chk none (.cal 10) (.cons (.inp 15) .nil) (.chk none (.bin .eql) (.cons (.op (.cal 10) (.cons (.inp 15) .nil)) (.cons (.cst (.int .i64 93)) .nil)) (.bnd (.op (.bin .eql) (.cons (.op (.cal 10) (.cons (.inp 15) .nil)) (.cons (.cst (.int .i64 93)) .nil))) (.chk (some ((.bv 0), true)) (.cal 10) (.cons (.inp 18) .nil) (.chk (some ((.bv 0), true)) (.bin .eql) (.cons (.op (.cal 10) (.cons (.inp 18) .nil)) (.cons (.cst (.int .i64 93)) .nil)) (.isb none (.bv 0) (.bnd (.ite (.bv 0) true (.op (.bin .eql) (.cons (.op (.cal 10) (.cons (.inp 18) .nil)) (.cons (.cst (.int .i64 93)) .nil))) (.cst (.bool false))) (.chk (some ((.bv 1), true)) (.bin .eql) (.cons (.inp 14) (.cons (.cst (.int .i64 0)) .nil)) (.isb none (.bv 1) (.bnd (.ite (.bv 1) true (.op (.bin .eql) (.cons (.inp 14) (.cons (.cst (.int .i64 0)) .nil))) (.cst (.bool false))) (.chk (some ((.bv 2), true)) (.bin .eql) (.cons (.inp 16) (.cons (.cst (.int .i64 0)) .nil)) (.isb none (.bv 2) (.bnd (.ite (.bv 2) true (.op (.bin .eql) (.cons (.inp 16) (.cons (.cst (.int .i64 0)) .nil))) (.cst (.bool false))) (.chk (some ((.bv 3), true)) (.bin .eql) (.cons (.inp 17) (.cons (.cst (.int .i64 0)) .nil)) (.isb none (.bv 3) (.done [(3, (.ite (.bv 3) true (.op (.bin .eql) (.cons (.inp 17) (.cons (.cst (.int .i64 0)) .nil))) (.cst (.bool false))))] none))))))))))))))))) .ret) Q env w := rfl
def h28_1 : HC := (.reg (.chk none (.bin .add) (.cons (.inp 19) (.cons (.cst (.int .i64 1)) .nil)) (.done [(19, (.op (.bin .add) (.cons (.inp 19) (.cons (.cst (.int .i64 1)) .nil))))] none)))
@[simp] theorem h28_1_wp {P : Program} {F : PF P} {Q : EX → List Value → World → Prop} {env : List Value} {w : World} : h28_1.wp F Q env w = HC.wp F (.reg (.chk none (.bin .add) (.cons (.inp 19) (.cons (.cst (.int .i64 1)) .nil)) (.done [(19, (.op (.bin .add) (.cons (.inp 19) (.cons (.cst (.int .i64 1)) .nil))))] none))) Q env w := rfl
def h28_2 : HC := (.seq (.reg (.chk none (.cal 10) (.cons (.inp 15) .nil) (.chk none (.bin .eql) (.cons (.op (.cal 10) (.cons (.inp 15) .nil)) (.cons (.cst (.int .i64 0)) .nil)) (.bnd (.op (.bin .eql) (.cons (.op (.cal 10) (.cons (.inp 15) .nil)) (.cons (.cst (.int .i64 0)) .nil))) (.chk (some ((.bv 0), true)) (.cal 10) (.cons (.inp 18) .nil) (.chk (some ((.bv 0), true)) (.bin .eql) (.cons (.op (.cal 10) (.cons (.inp 18) .nil)) (.cons (.cst (.int .i64 0)) .nil)) (.isb none (.bv 0) (.bnd (.ite (.bv 0) true (.op (.bin .eql) (.cons (.op (.cal 10) (.cons (.inp 18) .nil)) (.cons (.cst (.int .i64 0)) .nil))) (.cst (.bool false))) (.chk (some ((.bv 1), true)) .chkp (.cons (.inp 5) .nil) (.chk (some ((.bv 1), true)) (.fld 1) (.cons (.op .chkp (.cons (.inp 5) .nil)) .nil) (.ite (.bv 1) true (.eff (.ld false 1) (.cons (.ite (.bv 1) true (.op (.fld 1) (.cons (.op .chkp (.cons (.inp 5) .nil)) .nil)) (.cst (.tuple #[]))) .nil) (.chk none (.idxL 2) (.cons (.bv 2) (.cons (.inp 19) .nil)) (.chk none (.fld 1) (.cons (.op (.idxL 2) (.cons (.bv 2) (.cons (.inp 19) .nil))) .nil) (.eff (.ld false 1) (.cons (.op (.fld 1) (.cons (.op (.idxL 2) (.cons (.bv 2) (.cons (.inp 19) .nil))) .nil)) .nil) (.chk none (.bin .eql) (.cons (.ite (.bv 1) true (.inp 14) (.cst (.tuple #[]))) (.cons (.bv 3) .nil)) (.isb none (.bv 1) (.bnd (.op (.bin .eql) (.cons (.ite (.bv 1) true (.inp 14) (.cst (.tuple #[]))) (.cons (.bv 3) .nil))) (.chk (some ((.bv 4), true)) (.bin .eql) (.cons (.inp 16) (.cons (.inp 20) .nil)) (.isb none (.bv 4) (.bnd (.ite (.bv 4) true (.op (.bin .eql) (.cons (.inp 16) (.cons (.inp 20) .nil))) (.cst (.bool false))) (.chk (some ((.bv 5), true)) (.bin .eql) (.cons (.inp 17) (.cons (.inp 21) .nil)) (.isb none (.bv 5) (.done [(3, (.ite (.bv 5) true (.op (.bin .eql) (.cons (.inp 17) (.cons (.inp 21) .nil))) (.cst (.bool false))))] none))))))))))))) (.isb none (.bv 1) (.isb none (.cst (.bool false)) (.isb none (.cst (.bool false)) (.done [(3, (.cst (.bool false)))] none))))))))))))))) .ret)
@[simp] theorem h28_2_wp {P : Program} {F : PF P} {Q : EX → List Value → World → Prop} {env : List Value} {w : World} : h28_2.wp F Q env w = HC.wp F (.seq (.reg (.chk none (.cal 10) (.cons (.inp 15) .nil) (.chk none (.bin .eql) (.cons (.op (.cal 10) (.cons (.inp 15) .nil)) (.cons (.cst (.int .i64 0)) .nil)) (.bnd (.op (.bin .eql) (.cons (.op (.cal 10) (.cons (.inp 15) .nil)) (.cons (.cst (.int .i64 0)) .nil))) (.chk (some ((.bv 0), true)) (.cal 10) (.cons (.inp 18) .nil) (.chk (some ((.bv 0), true)) (.bin .eql) (.cons (.op (.cal 10) (.cons (.inp 18) .nil)) (.cons (.cst (.int .i64 0)) .nil)) (.isb none (.bv 0) (.bnd (.ite (.bv 0) true (.op (.bin .eql) (.cons (.op (.cal 10) (.cons (.inp 18) .nil)) (.cons (.cst (.int .i64 0)) .nil))) (.cst (.bool false))) (.chk (some ((.bv 1), true)) .chkp (.cons (.inp 5) .nil) (.chk (some ((.bv 1), true)) (.fld 1) (.cons (.op .chkp (.cons (.inp 5) .nil)) .nil) (.ite (.bv 1) true (.eff (.ld false 1) (.cons (.ite (.bv 1) true (.op (.fld 1) (.cons (.op .chkp (.cons (.inp 5) .nil)) .nil)) (.cst (.tuple #[]))) .nil) (.chk none (.idxL 2) (.cons (.bv 2) (.cons (.inp 19) .nil)) (.chk none (.fld 1) (.cons (.op (.idxL 2) (.cons (.bv 2) (.cons (.inp 19) .nil))) .nil) (.eff (.ld false 1) (.cons (.op (.fld 1) (.cons (.op (.idxL 2) (.cons (.bv 2) (.cons (.inp 19) .nil))) .nil)) .nil) (.chk none (.bin .eql) (.cons (.ite (.bv 1) true (.inp 14) (.cst (.tuple #[]))) (.cons (.bv 3) .nil)) (.isb none (.bv 1) (.bnd (.op (.bin .eql) (.cons (.ite (.bv 1) true (.inp 14) (.cst (.tuple #[]))) (.cons (.bv 3) .nil))) (.chk (some ((.bv 4), true)) (.bin .eql) (.cons (.inp 16) (.cons (.inp 20) .nil)) (.isb none (.bv 4) (.bnd (.ite (.bv 4) true (.op (.bin .eql) (.cons (.inp 16) (.cons (.inp 20) .nil))) (.cst (.bool false))) (.chk (some ((.bv 5), true)) (.bin .eql) (.cons (.inp 17) (.cons (.inp 21) .nil)) (.isb none (.bv 5) (.done [(3, (.ite (.bv 5) true (.op (.bin .eql) (.cons (.inp 17) (.cons (.inp 21) .nil))) (.cst (.bool false))))] none))))))))))))) (.isb none (.bv 1) (.isb none (.cst (.bool false)) (.isb none (.cst (.bool false)) (.done [(3, (.cst (.bool false)))] none))))))))))))))) .ret) Q env w := rfl
def h28_3 : HC := (.seq (.regq (some 1) (.chk none .chkp (.cons (.inp 5) .nil) (.chk none (.fld 1) (.cons (.op .chkp (.cons (.inp 5) .nil)) .nil) (.eff (.ld false 1) (.cons (.op (.fld 1) (.cons (.op .chkp (.cons (.inp 5) .nil)) .nil)) .nil) (.chk none (.idxL 2) (.cons (.bv 0) (.cons (.inp 19) .nil)) (.chk none (.fld 1) (.cons (.op (.idxL 2) (.cons (.bv 0) (.cons (.inp 19) .nil))) .nil) (.eff (.ld false 1) (.cons (.op (.fld 1) (.cons (.op (.idxL 2) (.cons (.bv 0) (.cons (.inp 19) .nil))) .nil)) .nil) (.chk none .chkp (.cons (.inp 5) .nil) (.chk none (.fld 0) (.cons (.op .chkp (.cons (.inp 5) .nil)) .nil) (.eff (.ld false 1) (.cons (.op (.fld 0) (.cons (.op .chkp (.cons (.inp 5) .nil)) .nil)) .nil) (.eff (.call 44) (.cons (.bv 1) (.cons (.bv 2) .nil)) (.chk none (.ext 0) (.cons (.bv 3) .nil) (.chk none (.ext 1) (.cons (.bv 3) .nil) (.done [(20, (.op (.ext 0) (.cons (.bv 3) .nil))), (21, (.op (.ext 1) (.cons (.bv 3) .nil)))] none)))))))))))))) h28_2)
@[simp] theorem h28_3_wp {P : Program} {F : PF P} {Q : EX → List Value → World → Prop} {env : List Value} {w : World} : h28_3.wp F Q env w = HC.wp F (.seq (.regq (some 1) (.chk none .chkp (.cons (.inp 5) .nil) (.chk none (.fld 1) (.cons (.op .chkp (.cons (.inp 5) .nil)) .nil) (.eff (.ld false 1) (.cons (.op (.fld 1) (.cons (.op .chkp (.cons (.inp 5) .nil)) .nil)) .nil) (.chk none (.idxL 2) (.cons (.bv 0) (.cons (.inp 19) .nil)) (.chk none (.fld 1) (.cons (.op (.idxL 2) (.cons (.bv 0) (.cons (.inp 19) .nil))) .nil) (.eff (.ld false 1) (.cons (.op (.fld 1) (.cons (.op (.idxL 2) (.cons (.bv 0) (.cons (.inp 19) .nil))) .nil)) .nil) (.chk none .chkp (.cons (.inp 5) .nil) (.chk none (.fld 0) (.cons (.op .chkp (.cons (.inp 5) .nil)) .nil) (.eff (.ld false 1) (.cons (.op (.fld 0) (.cons (.op .chkp (.cons (.inp 5) .nil)) .nil)) .nil) (.eff (.call 44) (.cons (.bv 1) (.cons (.bv 2) .nil)) (.chk none (.ext 0) (.cons (.bv 3) .nil) (.chk none (.ext 1) (.cons (.bv 3) .nil) (.done [(20, (.op (.ext 0) (.cons (.bv 3) .nil))), (21, (.op (.ext 1) (.cons (.bv 3) .nil)))] none)))))))))))))) h28_2) Q env w := rfl
def h28_4 : HC := (.br (.chk none .chkp (.cons (.inp 5) .nil) (.chk none (.fld 1) (.cons (.op .chkp (.cons (.inp 5) .nil)) .nil) (.eff (.ld false 1) (.cons (.op (.fld 1) (.cons (.op .chkp (.cons (.inp 5) .nil)) .nil)) .nil) (.chk none (.idxL 2) (.cons (.bv 0) (.cons (.inp 19) .nil)) (.chk none (.fld 0) (.cons (.op (.idxL 2) (.cons (.bv 0) (.cons (.inp 19) .nil))) .nil) (.eff (.ld false 1) (.cons (.op (.fld 0) (.cons (.op (.idxL 2) (.cons (.bv 0) (.cons (.inp 19) .nil))) .nil)) .nil) (.chk none (.bin .eql) (.cons (.bv 1) (.cons (.inp 2) .nil)) (.done [] (some (.op (.bin .eql) (.cons (.bv 1) (.cons (.inp 2) .nil)))))))))))) h28_3 .skip)
@[simp] theorem h28_4_wp {P : Program} {F : PF P} {Q : EX → List Value → World → Prop} {env : List Value} {w : World} : h28_4.wp F Q env w = HC.wp F (.br (.chk none .chkp (.cons (.inp 5) .nil) (.chk none (.fld 1) (.cons (.op .chkp (.cons (.inp 5) .nil)) .nil) (.eff (.ld false 1) (.cons (.op (.fld 1) (.cons (.op .chkp (.cons (.inp 5) .nil)) .nil)) .nil) (.chk none (.idxL 2) (.cons (.bv 0) (.cons (.inp 19) .nil)) (.chk none (.fld 0) (.cons (.op (.idxL 2) (.cons (.bv 0) (.cons (.inp 19) .nil))) .nil) (.eff (.ld false 1) (.cons (.op (.fld 0) (.cons (.op (.idxL 2) (.cons (.bv 0) (.cons (.inp 19) .nil))) .nil)) .nil) (.chk none (.bin .eql) (.cons (.bv 1) (.cons (.inp 2) .nil)) (.done [] (some (.op (.bin .eql) (.cons (.bv 1) (.cons (.inp 2) .nil)))))))))))) h28_3 .skip) Q env w := rfl
def h28_5 : HC := (.seq (.block 3 h28_4) h28_1)
@[simp] theorem h28_5_wp {P : Program} {F : PF P} {Q : EX → List Value → World → Prop} {env : List Value} {w : World} : h28_5.wp F Q env w = HC.wp F (.seq (.block 3 h28_4) h28_1) Q env w := rfl
def h28_6 : HC := (.seq (.br (.chk none .chkp (.cons (.inp 5) .nil) (.chk none (.fld 1) (.cons (.op .chkp (.cons (.inp 5) .nil)) .nil) (.eff (.ld false 1) (.cons (.op (.fld 1) (.cons (.op .chkp (.cons (.inp 5) .nil)) .nil)) .nil) (.chk none .lenL (.cons (.bv 0) .nil) (.chk none (.bin .lss) (.cons (.inp 19) (.cons (.op .lenL (.cons (.bv 0) .nil)) .nil)) (.done [] (some (.op (.bin .lss) (.cons (.inp 19) (.cons (.op .lenL (.cons (.bv 0) .nil)) .nil)))))))))) .skip (.exit 2)) h28_5)
@[simp] theorem h28_6_wp {P : Program} {F : PF P} {Q : EX → List Value → World → Prop} {env : List Value} {w : World} : h28_6.wp F Q env w = HC.wp F (.seq (.br (.chk none .chkp (.cons (.inp 5) .nil) (.chk none (.fld 1) (.cons (.op .chkp (.cons (.inp 5) .nil)) .nil) (.eff (.ld false 1) (.cons (.op (.fld 1) (.cons (.op .chkp (.cons (.inp 5) .nil)) .nil)) .nil) (.chk none .lenL (.cons (.bv 0) .nil) (.chk none (.bin .lss) (.cons (.inp 19) (.cons (.op .lenL (.cons (.bv 0) .nil)) .nil)) (.done [] (some (.op (.bin .lss) (.cons (.inp 19) (.cons (.op .lenL (.cons (.bv 0) .nil)) .nil)))))))))) .skip (.exit 2)) h28_5) Q env w := rfl
def h28_7 : HC := (.loop h28_6)
@[simp] theorem h28_7_wp {P : Program} {F : PF P} {Q : EX → List Value → World → Prop} {env : List Value} {w : World} : h28_7.wp F Q env w = HC.wp F (.loop h28_6) Q env w := rfl
def h28_8 : HC := (.seq (.block 2 h28_7) h28_0)
@[simp] theorem h28_8_wp {P : Program} {F : PF P} {Q : EX → List Value → World → Prop} {env : List Value} {w : World} : h28_8.wp F Q env w = HC.wp F (.seq (.block 2 h28_7) h28_0) Q env w := rfl
def h28_9 : HC := (.seq (.reg (.done [(19, (.cst (.int .i64 0)))] none)) h28_8)
@[simp] theorem h28_9_wp {P : Program} {F : PF P} {Q : EX → List Value → World → Prop} {env : List Value} {w : World} : h28_9.wp F Q env w = HC.wp F (.seq (.reg (.done [(19, (.cst (.int .i64 0)))] none)) h28_8) Q env w := rfl
def h28_10 : HC := (.seq (.reg (.eff (.call 25) (.cons (.inp 4) (.cons (.inp 2) .nil)) (.chk none (.ext 0) (.cons (.bv 0) .nil) (.chk none (.ext 1) (.cons (.bv 0) .nil) (.chk none (.ext 2) (.cons (.bv 0) .nil) (.done [(16, (.op (.ext 0) (.cons (.bv 0) .nil))), (17, (.op (.ext 1) (.cons (.bv 0) .nil))), (18, (.op (.ext 2) (.cons (.bv 0) .nil)))] none)))))) h28_9)
@[simp] theorem h28_10_wp {P : Program} {F : PF P} {Q : EX → List Value → World → Prop} {env : List Value} {w : World} : h28_10.wp F Q env w = HC.wp F (.seq (.reg (.eff (.call 25) (.cons (.inp 4) (.cons (.inp 2) .nil)) (.chk none (.ext 0) (.cons (.bv 0) .nil) (.chk none (.ext 1) (.cons (.bv 0) .nil) (.chk none (.ext 2) (.cons (.bv 0) .nil) (.done [(16, (.op (.ext 0) (.cons (.bv 0) .nil))), (17, (.op (.ext 1) (.cons (.bv 0) .nil))), (18, (.op (.ext 2) (.cons (.bv 0) .nil)))] none)))))) h28_9) Q env w := rfl
def h28_11 : HC := (.seq (.reg (.eff (.call 42) (.cons (.inp 4) (.cons (.inp 2) .nil)) (.chk none (.ext 0) (.cons (.bv 0) .nil) (.chk none (.ext 1) (.cons (.bv 0) .nil) (.done [(14, (.op (.ext 0) (.cons (.bv 0) .nil))), (15, (.op (.ext 1) (.cons (.bv 0) .nil)))] none))))) h28_10)
@[simp] theorem h28_11_wp {P : Program} {F : PF P} {Q : EX → List Value → World → Prop} {env : List Value} {w : World} : h28_11.wp F Q env w = HC.wp F (.seq (.reg (.eff (.call 42) (.cons (.inp 4) (.cons (.inp 2) .nil)) (.chk none (.ext 0) (.cons (.bv 0) .nil) (.chk none (.ext 1) (.cons (.bv 0) .nil) (.done [(14, (.op (.ext 0) (.cons (.bv 0) .nil))), (15, (.op (.ext 1) (.cons (.bv 0) .nil)))] none))))) h28_10) Q env w := rfl
def h28_12 : HC := (.seq (.reg (.done [(3, (.cst (.bool false)))] none)) .ret)
@[simp] theorem h28_12_wp {P : Program} {F : PF P} {Q : EX → List Value → World → Prop} {env : List Value} {w : World} : h28_12.wp F Q env w = HC.wp F (.seq (.reg (.done [(3, (.cst (.bool false)))] none)) .ret) Q env w := rfl
def h28_13 : HC := (.seq (.brq (some 0) (.chk none .chkp (.cons (.inp 5) .nil) (.chk none (.fld 1) (.cons (.op .chkp (.cons (.inp 5) .nil)) .nil) (.eff (.ld false 1) (.cons (.op (.fld 1) (.cons (.op .chkp (.cons (.inp 5) .nil)) .nil)) .nil) (.chk none .lenL (.cons (.bv 0) .nil) (.chk none (.bin .gtr) (.cons (.op .lenL (.cons (.bv 0) .nil)) (.cons (.cst (.int .i64 0)) .nil)) (.chk none (.eqB true) (.cons (.inp 13) (.cons (.op (.bin .gtr) (.cons (.op .lenL (.cons (.bv 0) .nil)) (.cons (.cst (.int .i64 0)) .nil))) .nil)) (.bnd (.op (.eqB true) (.cons (.inp 13) (.cons (.op (.bin .gtr) (.cons (.op .lenL (.cons (.bv 0) .nil)) (.cons (.cst (.int .i64 0)) .nil))) .nil))) (.bnd (.ite (.bv 1) false (.inp 13) (.cst (.tuple #[]))) (.chk (some ((.bv 2), true)) (.fld 0) (.cons (.inp 12) .nil) (.ite (.bv 2) true (.eff (.ld false 1) (.cons (.ite (.bv 2) true (.op (.fld 0) (.cons (.inp 12) .nil)) (.cst (.tuple #[]))) .nil) (.chk none .chkp (.cons (.inp 5) .nil) (.chk none (.fld 1) (.cons (.op .chkp (.cons (.inp 5) .nil)) .nil) (.eff (.ld false 1) (.cons (.op (.fld 1) (.cons (.op .chkp (.cons (.inp 5) .nil)) .nil)) .nil) (.chk none (.idxL 2) (.cons (.bv 4) (.cons (.cst (.int .i64 0)) .nil)) (.chk none (.fld 0) (.cons (.op (.idxL 2) (.cons (.bv 4) (.cons (.cst (.int .i64 0)) .nil))) .nil) (.eff (.ld false 1) (.cons (.op (.fld 0) (.cons (.op (.idxL 2) (.cons (.bv 4) (.cons (.cst (.int .i64 0)) .nil))) .nil)) .nil) (.chk none (.bin .neq) (.cons (.bv 3) (.cons (.bv 5) .nil)) (.bnd (.op (.bin .neq) (.cons (.bv 3) (.cons (.bv 5) .nil))) (.chk (some ((.bv 6), false)) (.fld 1) (.cons (.inp 12) .nil) (.ite (.bv 6) false (.eff (.ld false 1) (.cons (.ite (.bv 6) false (.op (.fld 1) (.cons (.inp 12) .nil)) (.cst (.tuple #[]))) .nil) (.chk none .chkp (.cons (.inp 5) .nil) (.chk none (.fld 1) (.cons (.op .chkp (.cons (.inp 5) .nil)) .nil) (.eff (.ld false 1) (.cons (.op (.fld 1) (.cons (.op .chkp (.cons (.inp 5) .nil)) .nil)) .nil) (.chk none (.idxL 2) (.cons (.bv 8) (.cons (.cst (.int .i64 0)) .nil)) (.chk none (.fld 1) (.cons (.op (.idxL 2) (.cons (.bv 8) (.cons (.cst (.int .i64 0)) .nil))) .nil) (.eff (.ld false 1) (.cons (.op (.fld 1) (.cons (.op (.idxL 2) (.cons (.bv 8) (.cons (.cst (.int .i64 0)) .nil))) .nil)) .nil) (.chk none (.bin .neq) (.cons (.bv 7) (.cons (.bv 9) .nil)) (.isb none (.bv 6) (.isb (some ((.bv 1), false)) (.bv 2) (.isb none (.bv 1) (.bnd (.ite (.bv 1) true (.cst (.bool true)) (.op (.bin .neq) (.cons (.bv 7) (.cons (.bv 9) .nil)))) (.chk (some ((.bv 10), false)) (.un .not) (.cons (.inp 13) .nil) (.ite (.bv 10) false (.bnd (.op (.un .not) (.cons (.inp 13) .nil)) (.ite (.bv 11) true (.eff (.ld true 2) (.cons (.inp 12) .nil) (.chk none (.build #[(.int .i64 0), (.int .i64 0)] [(0, 1), (1, 1)] []) .nil (.eff (.bin .neq 32 (.tmp 193) (.tmp 194)) (.cons (.bv 12) (.cons (.op (.build #[(.int .i64 0), (.int .i64 0)] [(0, 1), (1, 1)] []) .nil) .nil)) (.isb none (.bv 11) (.isb none (.bv 10) (.done [] (some (.bv 13)))))))) (.isb none (.bv 11) (.isb none (.bv 10) (.done [] (some (.cst (.bool false)))))))) (.isb none (.bv 10) (.done [] (some (.cst (.bool true))))))))))))))))))) (.isb none (.bv 6) (.isb (some ((.bv 1), false)) (.bv 2) (.isb none (.bv 1) (.bnd (.ite (.bv 1) true (.cst (.bool true)) (.cst (.bool true))) (.chk (some ((.bv 7), false)) (.un .not) (.cons (.inp 13) .nil) (.ite (.bv 7) false (.bnd (.op (.un .not) (.cons (.inp 13) .nil)) (.ite (.bv 8) true (.eff (.ld true 2) (.cons (.inp 12) .nil) (.chk none (.build #[(.int .i64 0), (.int .i64 0)] [(0, 1), (1, 1)] []) .nil (.eff (.bin .neq 32 (.tmp 193) (.tmp 194)) (.cons (.bv 9) (.cons (.op (.build #[(.int .i64 0), (.int .i64 0)] [(0, 1), (1, 1)] []) .nil) .nil)) (.isb none (.bv 8) (.isb none (.bv 7) (.done [] (some (.bv 10)))))))) (.isb none (.bv 8) (.isb none (.bv 7) (.done [] (some (.cst (.bool false)))))))) (.isb none (.bv 7) (.done [] (some (.cst (.bool true)))))))))))))))))))))) (.isb (some ((.bv 1), false)) (.bv 2) (.isb none (.bv 1) (.bnd (.ite (.bv 1) true (.cst (.bool true)) (.cst (.bool false))) (.chk (some ((.bv 3), false)) (.un .not) (.cons (.inp 13) .nil) (.ite (.bv 3) false (.bnd (.op (.un .not) (.cons (.inp 13) .nil)) (.ite (.bv 4) true (.eff (.ld true 2) (.cons (.inp 12) .nil) (.chk none (.build #[(.int .i64 0), (.int .i64 0)] [(0, 1), (1, 1)] []) .nil (.eff (.bin .neq 32 (.tmp 193) (.tmp 194)) (.cons (.bv 5) (.cons (.op (.build #[(.int .i64 0), (.int .i64 0)] [(0, 1), (1, 1)] []) .nil) .nil)) (.isb none (.bv 4) (.isb none (.bv 3) (.done [] (some (.bv 6)))))))) (.isb none (.bv 4) (.isb none (.bv 3) (.done [] (some (.cst (.bool false)))))))) (.isb none (.bv 3) (.done [] (some (.cst (.bool true)))))))))))))))))))) h28_12 .skip) h28_11)
@[simp] theorem h28_13_wp {P : Program} {F : PF P} {Q : EX → List Value → World → Prop} {env : List Value} {w : World} : h28_13.wp F Q env w = HC.wp F (.seq (.brq (some 0) (.chk none .chkp (.cons (.inp 5) .nil) (.chk none (.fld 1) (.cons (.op .chkp (.cons (.inp 5) .nil)) .nil) (.eff (.ld false 1) (.cons (.op (.fld 1) (.cons (.op .chkp (.cons (.inp 5) .nil)) .nil)) .nil) (.chk none .lenL (.cons (.bv 0) .nil) (.chk none (.bin .gtr) (.cons (.op .lenL (.cons (.bv 0) .nil)) (.cons (.cst (.int .i64 0)) .nil)) (.chk none (.eqB true) (.cons (.inp 13) (.cons (.op (.bin .gtr) (.cons (.op .lenL (.cons (.bv 0) .nil)) (.cons (.cst (.int .i64 0)) .nil))) .nil)) (.bnd (.op (.eqB true) (.cons (.inp 13) (.cons (.op (.bin .gtr) (.cons (.op .lenL (.cons (.bv 0) .nil)) (.cons (.cst (.int .i64 0)) .nil))) .nil))) (.bnd (.ite (.bv 1) false (.inp 13) (.cst (.tuple #[]))) (.chk (some ((.bv 2), true)) (.fld 0) (.cons (.inp 12) .nil) (.ite (.bv 2) true (.eff (.ld false 1) (.cons (.ite (.bv 2) true (.op (.fld 0) (.cons (.inp 12) .nil)) (.cst (.tuple #[]))) .nil) (.chk none .chkp (.cons (.inp 5) .nil) (.chk none (.fld 1) (.cons (.op .chkp (.cons (.inp 5) .nil)) .nil) (.eff (.ld false 1) (.cons (.op (.fld 1) (.cons (.op .chkp (.cons (.inp 5) .nil)) .nil)) .nil) (.chk none (.idxL 2) (.cons (.bv 4) (.cons (.cst (.int .i64 0)) .nil)) (.chk none (.fld 0) (.cons (.op (.idxL 2) (.cons (.bv 4) (.cons (.cst (.int .i64 0)) .nil))) .nil) (.eff (.ld false 1) (.cons (.op (.fld 0) (.cons (.op (.idxL 2) (.cons (.bv 4) (.cons (.cst (.int .i64 0)) .nil))) .nil)) .nil) (.chk none (.bin .neq) (.cons (.bv 3) (.cons (.bv 5) .nil)) (.bnd (.op (.bin .neq) (.cons (.bv 3) (.cons (.bv 5) .nil))) (.chk (some ((.bv 6), false)) (.fld 1) (.cons (.inp 12) .nil) (.ite (.bv 6) false (.eff (.ld false 1) (.cons (.ite (.bv 6) false (.op (.fld 1) (.cons (.inp 12) .nil)) (.cst (.tuple #[]))) .nil) (.chk none .chkp (.cons (.inp 5) .nil) (.chk none (.fld 1) (.cons (.op .chkp (.cons (.inp 5) .nil)) .nil) (.eff (.ld false 1) (.cons (.op (.fld 1) (.cons (.op .chkp (.cons (.inp 5) .nil)) .nil)) .nil) (.chk none (.idxL 2) (.cons (.bv 8) (.cons (.cst (.int .i64 0)) .nil)) (.chk none (.fld 1) (.cons (.op (.idxL 2) (.cons (.bv 8) (.cons (.cst (.int .i64 0)) .nil))) .nil) (.eff (.ld false 1) (.cons (.op (.fld 1) (.cons (.op (.idxL 2) (.cons (.bv 8) (.cons (.cst (.int .i64 0)) .nil))) .nil)) .nil) (.chk none (.bin .neq) (.cons (.bv 7) (.cons (.bv 9) .nil)) (.isb none (.bv 6) (.isb (some ((.bv 1), false)) (.bv 2) (.isb none (.bv 1) (.bnd (.ite (.bv 1) true (.cst (.bool true)) (.op (.bin .neq) (.cons (.bv 7) (.cons (.bv 9) .nil)))) (.chk (some ((.bv 10), false)) (.un .not) (.cons (.inp 13) .nil) (.ite (.bv 10) false (.bnd (.op (.un .not) (.cons (.inp 13) .nil)) (.ite (.bv 11) true (.eff (.ld true 2) (.cons (.inp 12) .nil) (.chk none (.build #[(.int .i64 0), (.int .i64 0)] [(0, 1), (1, 1)] []) .nil (.eff (.bin .neq 32 (.tmp 193) (.tmp 194)) (.cons (.bv 12) (.cons (.op (.build #[(.int .i64 0), (.int .i64 0)] [(0, 1), (1, 1)] []) .nil) .nil)) (.isb none (.bv 11) (.isb none (.bv 10) (.done [] (some (.bv 13)))))))) (.isb none (.bv 11) (.isb none (.bv 10) (.done [] (some (.cst (.bool false)))))))) (.isb none (.bv 10) (.done [] (some (.cst (.bool true))))))))))))))))))) (.isb none (.bv 6) (.isb (some ((.bv 1), false)) (.bv 2) (.isb none (.bv 1) (.bnd (.ite (.bv 1) true (.cst (.bool true)) (.cst (.bool true))) (.chk (some ((.bv 7), false)) (.un .not) (.cons (.inp 13) .nil) (.ite (.bv 7) false (.bnd (.op (.un .not) (.cons (.inp 13) .nil)) (.ite (.bv 8) true (.eff (.ld true 2) (.cons (.inp 12) .nil) (.chk none (.build #[(.int .i64 0), (.int .i64 0)] [(0, 1), (1, 1)] []) .nil (.eff (.bin .neq 32 (.tmp 193) (.tmp 194)) (.cons (.bv 9) (.cons (.op (.build #[(.int .i64 0), (.int .i64 0)] [(0, 1), (1, 1)] []) .nil) .nil)) (.isb none (.bv 8) (.isb none (.bv 7) (.done [] (some (.bv 10)))))))) (.isb none (.bv 8) (.isb none (.bv 7) (.done [] (some (.cst (.bool false)))))))) (.isb none (.bv 7) (.done [] (some (.cst (.bool true)))))))))))))))))))))) (.isb (some ((.bv 1), false)) (.bv 2) (.isb none (.bv 1) (.bnd (.ite (.bv 1) true (.cst (.bool true)) (.cst (.bool false))) (.chk (some ((.bv 3), false)) (.un .not) (.cons (.inp 13) .nil) (.ite (.bv 3) false (.bnd (.op (.un .not) (.cons (.inp 13) .nil)) (.ite (.bv 4) true (.eff (.ld true 2) (.cons (.inp 12) .nil) (.chk none (.build #[(.int .i64 0), (.int .i64 0)] [(0, 1), (1, 1)] []) .nil (.eff (.bin .neq 32 (.tmp 193) (.tmp 194)) (.cons (.bv 5) (.cons (.op (.build #[(.int .i64 0), (.int .i64 0)] [(0, 1), (1, 1)] []) .nil) .nil)) (.isb none (.bv 4) (.isb none (.bv 3) (.done [] (some (.bv 6)))))))) (.isb none (.bv 4) (.isb none (.bv 3) (.done [] (some (.cst (.bool false)))))))) (.isb none (.bv 3) (.done [] (some (.cst (.bool true)))))))))))))))))))) h28_12 .skip) h28_11) Q env w := rfl
def h28_14 : HC := (.seq (.reg (.eff (.call 43) (.cons (.inp 4) .nil) (.chk none (.ext 0) (.cons (.bv 0) .nil) (.chk none (.ext 1) (.cons (.bv 0) .nil) (.eff (.new 32 (.agg #[(.int .i64 0), (.int .i64 0)])) .nil (.eff (.st 2) (.cons (.bv 1) (.cons (.op (.ext 0) (.cons (.bv 0) .nil)) .nil)) (.done [(12, (.bv 1)), (13, (.op (.ext 1) (.cons (.bv 0) .nil)))] none))))))) h28_13)
@[simp] theorem h28_14_wp {P : Program} {F : PF P} {Q : EX → List Value → World → Prop} {env : List Value} {w : World} : h28_14.wp F Q env w = HC.wp F (.seq (.reg (.eff (.call 43) (.cons (.inp 4) .nil) (.chk none (.ext 0) (.cons (.bv 0) .nil) (.chk none (.ext 1) (.cons (.bv 0) .nil) (.eff (.new 32 (.agg #[(.int .i64 0), (.int .i64 0)])) .nil (.eff (.st 2) (.cons (.bv 1) (.cons (.op (.ext 0) (.cons (.bv 0) .nil)) .nil)) (.done [(12, (.bv 1)), (13, (.op (.ext 1) (.cons (.bv 0) .nil)))] none))))))) h28_13) Q env w := rfl
def h28_15 : HC := (.seq (.reg (.eff (.call 19) (.cons (.inp 11) .nil) (.done [] none))) h28_14)
@[simp] theorem h28_15_wp {P : Program} {F : PF P} {Q : EX → List Value → World → Prop} {env : List Value} {w : World} : h28_15.wp F Q env w = HC.wp F (.seq (.reg (.eff (.call 19) (.cons (.inp 11) .nil) (.done [] none))) h28_14) Q env w := rfl
def h28_16 : HC := (.seq (.reg (.done [(3, (.cst (.bool false)))] none)) .ret)
@[simp] theorem h28_16_wp {P : Program} {F : PF P} {Q : EX → List Value → World → Prop} {env : List Value} {w : World} : h28_16.wp F Q env w = HC.wp F (.seq (.reg (.done [(3, (.cst (.bool false)))] none)) .ret) Q env w := rfl
def h28_17 : HC := (.seq (.brq (some 5) (.chk none .chkp (.cons (.inp 5) .nil) (.chk none (.fld 1) (.cons (.op .chkp (.cons (.inp 5) .nil)) .nil) (.eff (.ld false 1) (.cons (.op (.fld 1) (.cons (.op .chkp (.cons (.inp 5) .nil)) .nil)) .nil) (.eff (.call 39) (.cons (.inp 11) (.cons (.bv 0) .nil)) (.chk none (.un .not) (.cons (.bv 1) .nil) (.bnd (.op (.un .not) (.cons (.bv 1) .nil)) (.ite (.bv 2) false (.eff (.call 16) (.cons (.ite (.bv 2) false (.inp 4) (.cst (.tuple #[]))) .nil) (.chk none .chkp (.cons (.inp 5) .nil) (.chk none (.fld 0) (.cons (.op .chkp (.cons (.inp 5) .nil)) .nil) (.eff (.ld false 1) (.cons (.op (.fld 0) (.cons (.op .chkp (.cons (.inp 5) .nil)) .nil)) .nil) (.chk none (.bin .neq) (.cons (.bv 3) (.cons (.bv 4) .nil)) (.isb none (.bv 2) (.bnd (.op (.bin .neq) (.cons (.bv 3) (.cons (.bv 4) .nil))) (.ite (.bv 5) false (.eff (.call 15) (.cons (.ite (.bv 5) false (.inp 4) (.cst (.tuple #[]))) .nil) (.chk none .chkp (.cons (.inp 5) .nil) (.chk none (.fld 1) (.cons (.op .chkp (.cons (.inp 5) .nil)) .nil) (.eff (.ld false 1) (.cons (.op (.fld 1) (.cons (.op .chkp (.cons (.inp 5) .nil)) .nil)) .nil) (.chk none .lenL (.cons (.bv 7) .nil) (.chk none (.bin .neq) (.cons (.bv 6) (.cons (.op .lenL (.cons (.bv 7) .nil)) .nil)) (.isb none (.bv 5) (.bnd (.op (.bin .neq) (.cons (.bv 6) (.cons (.op .lenL (.cons (.bv 7) .nil)) .nil))) (.ite (.bv 8) false (.eff (.call 17) (.cons (.ite (.bv 8) false (.inp 4) (.cst (.tuple #[]))) .nil) (.chk none .chkp (.cons (.inp 5) .nil) (.chk none (.fld 2) (.cons (.op .chkp (.cons (.inp 5) .nil)) .nil) (.eff (.ld false 1) (.cons (.op (.fld 2) (.cons (.op .chkp (.cons (.inp 5) .nil)) .nil)) .nil) (.chk none (.bin .neq) (.cons (.bv 9) (.cons (.bv 10) .nil)) (.isb none (.bv 8) (.done [] (some (.op (.bin .neq) (.cons (.bv 9) (.cons (.bv 10) .nil))))))))))) (.isb none (.bv 8) (.done [] (some (.cst (.bool true)))))))))))))) (.isb none (.bv 5) (.isb none (.cst (.bool true)) (.done [] (some (.cst (.bool true)))))))))))))) (.isb none (.bv 2) (.isb none (.cst (.bool true)) (.isb none (.cst (.bool true)) (.done [] (some (.cst (.bool true)))))))))))))) h28_16 .skip) h28_15)
@[simp] theorem h28_17_wp {P : Program} {F : PF P} {Q : EX → List Value → World → Prop} {env : List Value} {w : World} : h28_17.wp F Q env w = HC.wp F (.seq (.brq (some 5) (.chk none .chkp (.cons (.inp 5) .nil) (.chk none (.fld 1) (.cons (.op .chkp (.cons (.inp 5) .nil)) .nil) (.eff (.ld false 1) (.cons (.op (.fld 1) (.cons (.op .chkp (.cons (.inp 5) .nil)) .nil)) .nil) (.eff (.call 39) (.cons (.inp 11) (.cons (.bv 0) .nil)) (.chk none (.un .not) (.cons (.bv 1) .nil) (.bnd (.op (.un .not) (.cons (.bv 1) .nil)) (.ite (.bv 2) false (.eff (.call 16) (.cons (.ite (.bv 2) false (.inp 4) (.cst (.tuple #[]))) .nil) (.chk none .chkp (.cons (.inp 5) .nil) (.chk none (.fld 0) (.cons (.op .chkp (.cons (.inp 5) .nil)) .nil) (.eff (.ld false 1) (.cons (.op (.fld 0) (.cons (.op .chkp (.cons (.inp 5) .nil)) .nil)) .nil) (.chk none (.bin .neq) (.cons (.bv 3) (.cons (.bv 4) .nil)) (.isb none (.bv 2) (.bnd (.op (.bin .neq) (.cons (.bv 3) (.cons (.bv 4) .nil))) (.ite (.bv 5) false (.eff (.call 15) (.cons (.ite (.bv 5) false (.inp 4) (.cst (.tuple #[]))) .nil) (.chk none .chkp (.cons (.inp 5) .nil) (.chk none (.fld 1) (.cons (.op .chkp (.cons (.inp 5) .nil)) .nil) (.eff (.ld false 1) (.cons (.op (.fld 1) (.cons (.op .chkp (.cons (.inp 5) .nil)) .nil)) .nil) (.chk none .lenL (.cons (.bv 7) .nil) (.chk none (.bin .neq) (.cons (.bv 6) (.cons (.op .lenL (.cons (.bv 7) .nil)) .nil)) (.isb none (.bv 5) (.bnd (.op (.bin .neq) (.cons (.bv 6) (.cons (.op .lenL (.cons (.bv 7) .nil)) .nil))) (.ite (.bv 8) false (.eff (.call 17) (.cons (.ite (.bv 8) false (.inp 4) (.cst (.tuple #[]))) .nil) (.chk none .chkp (.cons (.inp 5) .nil) (.chk none (.fld 2) (.cons (.op .chkp (.cons (.inp 5) .nil)) .nil) (.eff (.ld false 1) (.cons (.op (.fld 2) (.cons (.op .chkp (.cons (.inp 5) .nil)) .nil)) .nil) (.chk none (.bin .neq) (.cons (.bv 9) (.cons (.bv 10) .nil)) (.isb none (.bv 8) (.done [] (some (.op (.bin .neq) (.cons (.bv 9) (.cons (.bv 10) .nil))))))))))) (.isb none (.bv 8) (.done [] (some (.cst (.bool true)))))))))))))) (.isb none (.bv 5) (.isb none (.cst (.bool true)) (.done [] (some (.cst (.bool true)))))))))))))) (.isb none (.bv 2) (.isb none (.cst (.bool true)) (.isb none (.cst (.bool true)) (.done [] (some (.cst (.bool true)))))))))))))) h28_16 .skip) h28_15) Q env w := rfl
def h28_18 : HC := (.seq (.reg (.eff (.call 20) (.cons (.inp 4) .nil) (.done [(11, (.bv 0))] none))) h28_17)
@[simp] theorem h28_18_wp {P : Program} {F : PF P} {Q : EX → List Value → World → Prop} {env : List Value} {w : World} : h28_18.wp F Q env w = HC.wp F (.seq (.reg (.eff (.call 20) (.cons (.inp 4) .nil) (.done [(11, (.bv 0))] none))) h28_17) Q env w := rfl
def h28_19 : HC := (.seq (.reg (.chk none (.cal 10) (.cons (.inp 7) .nil) (.chk none (.bin .eql) (.cons (.op (.cal 10) (.cons (.inp 7) .nil)) (.cons (.cst (.int .i64 1)) .nil)) (.bnd (.op (.bin .eql) (.cons (.op (.cal 10) (.cons (.inp 7) .nil)) (.cons (.cst (.int .i64 1)) .nil))) (.chk (some ((.bv 0), true)) (.cal 10) (.cons (.inp 8) .nil) (.chk (some ((.bv 0), true)) (.bin .eql) (.cons (.op (.cal 10) (.cons (.inp 8) .nil)) (.cons (.cst (.int .i64 1)) .nil)) (.isb none (.bv 0) (.bnd (.ite (.bv 0) true (.op (.bin .eql) (.cons (.op (.cal 10) (.cons (.inp 8) .nil)) (.cons (.cst (.int .i64 1)) .nil))) (.cst (.bool false))) (.chk (some ((.bv 1), true)) (.un .not) (.cons (.inp 10) .nil) (.isb none (.bv 1) (.ite (.bv 1) true (.bnd (.op (.un .not) (.cons (.inp 10) .nil)) (.ite (.bv 2) true (.eff (.ld true 2) (.cons (.inp 9) .nil) (.chk none (.build #[(.int .i64 0), (.int .i64 0)] [(0, 1), (1, 1)] []) .nil (.eff (.bin .eql 32 (.tmp 85) (.tmp 86)) (.cons (.bv 3) (.cons (.op (.build #[(.int .i64 0), (.int .i64 0)] [(0, 1), (1, 1)] []) .nil) .nil)) (.isb none (.bv 2) (.ite (.bv 4) true (.eff (.call 20) (.cons (.ite (.bv 4) true (.inp 4) (.cst (.tuple #[]))) .nil) (.chk none .lenL (.cons (.bv 5) .nil) (.chk none (.bin .eql) (.cons (.op .lenL (.cons (.bv 5) .nil)) (.cons (.cst (.int .i64 0)) .nil)) (.isb none (.bv 4) (.bnd (.op (.bin .eql) (.cons (.op .lenL (.cons (.bv 5) .nil)) (.cons (.cst (.int .i64 0)) .nil))) (.ite (.bv 6) true (.eff (.call 16) (.cons (.ite (.bv 6) true (.inp 4) (.cst (.tuple #[]))) .nil) (.chk none (.bin .eql) (.cons (.bv 7) (.cons (.cst (.int .i64 0)) .nil)) (.isb none (.bv 6) (.bnd (.op (.bin .eql) (.cons (.bv 7) (.cons (.cst (.int .i64 0)) .nil))) (.ite (.bv 8) true (.eff (.call 15) (.cons (.ite (.bv 8) true (.inp 4) (.cst (.tuple #[]))) .nil) (.chk none (.bin .eql) (.cons (.bv 9) (.cons (.cst (.int .i64 0)) .nil)) (.isb none (.bv 8) (.bnd (.op (.bin .eql) (.cons (.bv 9) (.cons (.cst (.int .i64 0)) .nil))) (.ite (.bv 10) true (.eff (.call 17) (.cons (.ite (.bv 10) true (.inp 4) (.cst (.tuple #[]))) .nil) (.chk none (.bin .eql) (.cons (.bv 11) (.cons (.cst (.int .i64 0)) .nil)) (.isb none (.bv 10) (.done [(3, (.op (.bin .eql) (.cons (.bv 11) (.cons (.cst (.int .i64 0)) .nil))))] none)))) (.isb none (.bv 10) (.done [(3, (.cst (.bool false)))] none))))))) (.isb none (.bv 8) (.isb none (.cst (.bool false)) (.done [(3, (.cst (.bool false)))] none)))))))) (.isb none (.bv 6) (.isb none (.cst (.bool false)) (.isb none (.cst (.bool false)) (.done [(3, (.cst (.bool false)))] none)))))))))) (.isb none (.bv 4) (.isb none (.cst (.bool false)) (.isb none (.cst (.bool false)) (.isb none (.cst (.bool false)) (.done [(3, (.cst (.bool false)))] none)))))))))) (.isb none (.bv 2) (.isb none (.cst (.bool false)) (.isb none (.cst (.bool false)) (.isb none (.cst (.bool false)) (.isb none (.cst (.bool false)) (.done [(3, (.cst (.bool false)))] none)))))))) (.isb none (.ite (.bv 1) true (.op (.un .not) (.cons (.inp 10) .nil)) (.cst (.bool false))) (.bnd (.ite (.ite (.bv 1) true (.op (.un .not) (.cons (.inp 10) .nil)) (.cst (.bool false))) true (.cst (.tuple #[])) (.cst (.bool false))) (.ite (.bv 2) true (.eff (.call 20) (.cons (.ite (.bv 2) true (.inp 4) (.cst (.tuple #[]))) .nil) (.chk none .lenL (.cons (.bv 3) .nil) (.chk none (.bin .eql) (.cons (.op .lenL (.cons (.bv 3) .nil)) (.cons (.cst (.int .i64 0)) .nil)) (.isb none (.bv 2) (.bnd (.op (.bin .eql) (.cons (.op .lenL (.cons (.bv 3) .nil)) (.cons (.cst (.int .i64 0)) .nil))) (.ite (.bv 4) true (.eff (.call 16) (.cons (.ite (.bv 4) true (.inp 4) (.cst (.tuple #[]))) .nil) (.chk none (.bin .eql) (.cons (.bv 5) (.cons (.cst (.int .i64 0)) .nil)) (.isb none (.bv 4) (.bnd (.op (.bin .eql) (.cons (.bv 5) (.cons (.cst (.int .i64 0)) .nil))) (.ite (.bv 6) true (.eff (.call 15) (.cons (.ite (.bv 6) true (.inp 4) (.cst (.tuple #[]))) .nil) (.chk none (.bin .eql) (.cons (.bv 7) (.cons (.cst (.int .i64 0)) .nil)) (.isb none (.bv 6) (.bnd (.op (.bin .eql) (.cons (.bv 7) (.cons (.cst (.int .i64 0)) .nil))) (.ite (.bv 8) true (.eff (.call 17) (.cons (.ite (.bv 8) true (.inp 4) (.cst (.tuple #[]))) .nil) (.chk none (.bin .eql) (.cons (.bv 9) (.cons (.cst (.int .i64 0)) .nil)) (.isb none (.bv 8) (.done [(3, (.op (.bin .eql) (.cons (.bv 9) (.cons (.cst (.int .i64 0)) .nil))))] none)))) (.isb none (.bv 8) (.done [(3, (.cst (.bool false)))] none))))))) (.isb none (.bv 6) (.isb none (.cst (.bool false)) (.done [(3, (.cst (.bool false)))] none)))))))) (.isb none (.bv 4) (.isb none (.cst (.bool false)) (.isb none (.cst (.bool false)) (.done [(3, (.cst (.bool false)))] none)))))))))) (.isb none (.bv 2) (.isb none (.cst (.bool false)) (.isb none (.cst (.bool false)) (.isb none (.cst (.bool false)) (.done [(3, (.cst (.bool false)))] none))))))))))))))))))) .ret)
@[simp] theorem h28_19_wp {P : Program} {F : PF P} {Q : EX → List Value → World → Prop} {env : List Value} {w : World} : h28_19.wp F Q env w = HC.wp F (.seq (.reg (.chk none (.cal 10) (.cons (.inp 7) .nil) (.chk none (.bin .eql) (.cons (.op (.cal 10) (.cons (.inp 7) .nil)) (.cons (.cst (.int .i64 1)) .nil)) (.bnd (.op (.bin .eql) (.cons (.op (.cal 10) (.cons (.inp 7) .nil)) (.cons (.cst (.int .i64 1)) .nil))) (.chk (some ((.bv 0), true)) (.cal 10) (.cons (.inp 8) .nil) (.chk (some ((.bv 0), true)) (.bin .eql) (.cons (.op (.cal 10) (.cons (.inp 8) .nil)) (.cons (.cst (.int .i64 1)) .nil)) (.isb none (.bv 0) (.bnd (.ite (.bv 0) true (.op (.bin .eql) (.cons (.op (.cal 10) (.cons (.inp 8) .nil)) (.cons (.cst (.int .i64 1)) .nil))) (.cst (.bool false))) (.chk (some ((.bv 1), true)) (.un .not) (.cons (.inp 10) .nil) (.isb none (.bv 1) (.ite (.bv 1) true (.bnd (.op (.un .not) (.cons (.inp 10) .nil)) (.ite (.bv 2) true (.eff (.ld true 2) (.cons (.inp 9) .nil) (.chk none (.build #[(.int .i64 0), (.int .i64 0)] [(0, 1), (1, 1)] []) .nil (.eff (.bin .eql 32 (.tmp 85) (.tmp 86)) (.cons (.bv 3) (.cons (.op (.build #[(.int .i64 0), (.int .i64 0)] [(0, 1), (1, 1)] []) .nil) .nil)) (.isb none (.bv 2) (.ite (.bv 4) true (.eff (.call 20) (.cons (.ite (.bv 4) true (.inp 4) (.cst (.tuple #[]))) .nil) (.chk none .lenL (.cons (.bv 5) .nil) (.chk none (.bin .eql) (.cons (.op .lenL (.cons (.bv 5) .nil)) (.cons (.cst (.int .i64 0)) .nil)) (.isb none (.bv 4) (.bnd (.op (.bin .eql) (.cons (.op .lenL (.cons (.bv 5) .nil)) (.cons (.cst (.int .i64 0)) .nil))) (.ite (.bv 6) true (.eff (.call 16) (.cons (.ite (.bv 6) true (.inp 4) (.cst (.tuple #[]))) .nil) (.chk none (.bin .eql) (.cons (.bv 7) (.cons (.cst (.int .i64 0)) .nil)) (.isb none (.bv 6) (.bnd (.op (.bin .eql) (.cons (.bv 7) (.cons (.cst (.int .i64 0)) .nil))) (.ite (.bv 8) true (.eff (.call 15) (.cons (.ite (.bv 8) true (.inp 4) (.cst (.tuple #[]))) .nil) (.chk none (.bin .eql) (.cons (.bv 9) (.cons (.cst (.int .i64 0)) .nil)) (.isb none (.bv 8) (.bnd (.op (.bin .eql) (.cons (.bv 9) (.cons (.cst (.int .i64 0)) .nil))) (.ite (.bv 10) true (.eff (.call 17) (.cons (.ite (.bv 10) true (.inp 4) (.cst (.tuple #[]))) .nil) (.chk none (.bin .eql) (.cons (.bv 11) (.cons (.cst (.int .i64 0)) .nil)) (.isb none (.bv 10) (.done [(3, (.op (.bin .eql) (.cons (.bv 11) (.cons (.cst (.int .i64 0)) .nil))))] none)))) (.isb none (.bv 10) (.done [(3, (.cst (.bool false)))] none))))))) (.isb none (.bv 8) (.isb none (.cst (.bool false)) (.done [(3, (.cst (.bool false)))] none)))))))) (.isb none (.bv 6) (.isb none (.cst (.bool false)) (.isb none (.cst (.bool false)) (.done [(3, (.cst (.bool false)))] none)))))))))) (.isb none (.bv 4) (.isb none (.cst (.bool false)) (.isb none (.cst (.bool false)) (.isb none (.cst (.bool false)) (.done [(3, (.cst (.bool false)))] none)))))))))) (.isb none (.bv 2) (.isb none (.cst (.bool false)) (.isb none (.cst (.bool false)) (.isb none (.cst (.bool false)) (.isb none (.cst (.bool false)) (.done [(3, (.cst (.bool false)))] none)))))))) (.isb none (.ite (.bv 1) true (.op (.un .not) (.cons (.inp 10) .nil)) (.cst (.bool false))) (.bnd (.ite (.ite (.bv 1) true (.op (.un .not) (.cons (.inp 10) .nil)) (.cst (.bool false))) true (.cst (.tuple #[])) (.cst (.bool false))) (.ite (.bv 2) true (.eff (.call 20) (.cons (.ite (.bv 2) true (.inp 4) (.cst (.tuple #[]))) .nil) (.chk none .lenL (.cons (.bv 3) .nil) (.chk none (.bin .eql) (.cons (.op .lenL (.cons (.bv 3) .nil)) (.cons (.cst (.int .i64 0)) .nil)) (.isb none (.bv 2) (.bnd (.op (.bin .eql) (.cons (.op .lenL (.cons (.bv 3) .nil)) (.cons (.cst (.int .i64 0)) .nil))) (.ite (.bv 4) true (.eff (.call 16) (.cons (.ite (.bv 4) true (.inp 4) (.cst (.tuple #[]))) .nil) (.chk none (.bin .eql) (.cons (.bv 5) (.cons (.cst (.int .i64 0)) .nil)) (.isb none (.bv 4) (.bnd (.op (.bin .eql) (.cons (.bv 5) (.cons (.cst (.int .i64 0)) .nil))) (.ite (.bv 6) true (.eff (.call 15) (.cons (.ite (.bv 6) true (.inp 4) (.cst (.tuple #[]))) .nil) (.chk none (.bin .eql) (.cons (.bv 7) (.cons (.cst (.int .i64 0)) .nil)) (.isb none (.bv 6) (.bnd (.op (.bin .eql) (.cons (.bv 7) (.cons (.cst (.int .i64 0)) .nil))) (.ite (.bv 8) true (.eff (.call 17) (.cons (.ite (.bv 8) true (.inp 4) (.cst (.tuple #[]))) .nil) (.chk none (.bin .eql) (.cons (.bv 9) (.cons (.cst (.int .i64 0)) .nil)) (.isb none (.bv 8) (.done [(3, (.op (.bin .eql) (.cons (.bv 9) (.cons (.cst (.int .i64 0)) .nil))))] none)))) (.isb none (.bv 8) (.done [(3, (.cst (.bool false)))] none))))))) (.isb none (.bv 6) (.isb none (.cst (.bool false)) (.done [(3, (.cst (.bool false)))] none)))))))) (.isb none (.bv 4) (.isb none (.cst (.bool false)) (.isb none (.cst (.bool false)) (.done [(3, (.cst (.bool false)))] none)))))))))) (.isb none (.bv 2) (.isb none (.cst (.bool false)) (.isb none (.cst (.bool false)) (.isb none (.cst (.bool false)) (.done [(3, (.cst (.bool false)))] none))))))))))))))))))) .ret) Q env w := rfl
def h28_20 : HC := (.seq (.reg (.eff (.call 43) (.cons (.inp 4) .nil) (.chk none (.ext 0) (.cons (.bv 0) .nil) (.chk none (.ext 1) (.cons (.bv 0) .nil) (.eff (.new 32 (.agg #[(.int .i64 0), (.int .i64 0)])) .nil (.eff (.st 2) (.cons (.bv 1) (.cons (.op (.ext 0) (.cons (.bv 0) .nil)) .nil)) (.done [(9, (.bv 1)), (10, (.op (.ext 1) (.cons (.bv 0) .nil)))] none))))))) h28_19)
@[simp] theorem h28_20_wp {P : Program} {F : PF P} {Q : EX → List Value → World → Prop} {env : List Value} {w : World} : h28_20.wp F Q env w = HC.wp F (.seq (.reg (.eff (.call 43) (.cons (.inp 4) .nil) (.chk none (.ext 0) (.cons (.bv 0) .nil) (.chk none (.ext 1) (.cons (.bv 0) .nil) (.eff (.new 32 (.agg #[(.int .i64 0), (.int .i64 0)])) .nil (.eff (.st 2) (.cons (.bv 1) (.cons (.op (.ext 0) (.cons (.bv 0) .nil)) .nil)) (.done [(9, (.bv 1)), (10, (.op (.ext 1) (.cons (.bv 0) .nil)))] none))))))) h28_19) Q env w := rfl
def h28_21 : HC := (.seq (.reg (.eff (.call 25) (.cons (.inp 4) (.cons (.inp 2) .nil)) (.chk none (.ext 0) (.cons (.bv 0) .nil) (.chk none (.ext 1) (.cons (.bv 0) .nil) (.chk none (.ext 2) (.cons (.bv 0) .nil) (.done [(8, (.op (.ext 2) (.cons (.bv 0) .nil)))] none)))))) h28_20)
@[simp] theorem h28_21_wp {P : Program} {F : PF P} {Q : EX → List Value → World → Prop} {env : List Value} {w : World} : h28_21.wp F Q env w = HC.wp F (.seq (.reg (.eff (.call 25) (.cons (.inp 4) (.cons (.inp 2) .nil)) (.chk none (.ext 0) (.cons (.bv 0) .nil) (.chk none (.ext 1) (.cons (.bv 0) .nil) (.chk none (.ext 2) (.cons (.bv 0) .nil) (.done [(8, (.op (.ext 2) (.cons (.bv 0) .nil)))] none)))))) h28_20) Q env w := rfl
def h28_22 : HC := (.seq (.reg (.eff (.call 42) (.cons (.inp 4) (.cons (.inp 2) .nil)) (.chk none (.ext 0) (.cons (.bv 0) .nil) (.chk none (.ext 1) (.cons (.bv 0) .nil) (.done [(7, (.op (.ext 1) (.cons (.bv 0) .nil)))] none))))) h28_21)
@[simp] theorem h28_22_wp {P : Program} {F : PF P} {Q : EX → List Value → World → Prop} {env : List Value} {w : World} : h28_22.wp F Q env w = HC.wp F (.seq (.reg (.eff (.call 42) (.cons (.inp 4) (.cons (.inp 2) .nil)) (.chk none (.ext 0) (.cons (.bv 0) .nil) (.chk none (.ext 1) (.cons (.bv 0) .nil) (.done [(7, (.op (.ext 1) (.cons (.bv 0) .nil)))] none))))) h28_21) Q env w := rfl
def h28_23 : HC := (.seq (.br (.chk none (.eqNil false (.pointer 91) (.pointer none)) (.cons (.inp 5) .nil) (.done [] (some (.op (.eqNil false (.pointer 91) (.pointer none)) (.cons (.inp 5) .nil))))) h28_22 .skip) h28_18)
@[simp] theorem h28_23_wp {P : Program} {F : PF P} {Q : EX → List Value → World → Prop} {env : List Value} {w : World} : h28_23.wp F Q env w = HC.wp F (.seq (.br (.chk none (.eqNil false (.pointer 91) (.pointer none)) (.cons (.inp 5) .nil) (.done [] (some (.op (.eqNil false (.pointer 91) (.pointer none)) (.cons (.inp 5) .nil))))) h28_22 .skip) h28_18) Q env w := rfl
def h28_24 : HC := (.reg (.chk none (.bin .add) (.cons (.inp 6) (.cons (.cst (.int .i64 1)) .nil)) (.done [(6, (.op (.bin .add) (.cons (.inp 6) (.cons (.cst (.int .i64 1)) .nil))))] none)))
@[simp] theorem h28_24_wp {P : Program} {F : PF P} {Q : EX → List Value → World → Prop} {env : List Value} {w : World} : h28_24.wp F Q env w = HC.wp F (.reg (.chk none (.bin .add) (.cons (.inp 6) (.cons (.cst (.int .i64 1)) .nil)) (.done [(6, (.op (.bin .add) (.cons (.inp 6) (.cons (.cst (.int .i64 1)) .nil))))] none))) Q env w := rfl
def h28_25 : HC := (.seq (.reg (.done [(3, (.cst (.bool false)))] none)) .ret)
@[simp] theorem h28_25_wp {P : Program} {F : PF P} {Q : EX → List Value → World → Prop} {env : List Value} {w : World} : h28_25.wp F Q env w = HC.wp F (.seq (.reg (.done [(3, (.cst (.bool false)))] none)) .ret) Q env w := rfl
def h28_26 : HC := (.br (.eff (.call 21) (.cons (.inp 4) (.cons (.inp 6) .nil)) (.eff (.call 41) (.cons (.inp 5) (.cons (.inp 6) .nil)) (.eff (.call 23) (.cons (.bv 0) (.cons (.bv 1) .nil)) (.chk none (.un .not) (.cons (.bv 2) .nil) (.done [] (some (.op (.un .not) (.cons (.bv 2) .nil)))))))) h28_25 .skip)
@[simp] theorem h28_26_wp {P : Program} {F : PF P} {Q : EX → List Value → World → Prop} {env : List Value} {w : World} : h28_26.wp F Q env w = HC.wp F (.br (.eff (.call 21) (.cons (.inp 4) (.cons (.inp 6) .nil)) (.eff (.call 41) (.cons (.inp 5) (.cons (.inp 6) .nil)) (.eff (.call 23) (.cons (.bv 0) (.cons (.bv 1) .nil)) (.chk none (.un .not) (.cons (.bv 2) .nil) (.done [] (some (.op (.un .not) (.cons (.bv 2) .nil)))))))) h28_25 .skip) Q env w := rfl
def h28_27 : HC := (.seq (.block 1 h28_26) h28_24)
@[simp] theorem h28_27_wp {P : Program} {F : PF P} {Q : EX → List Value → World → Prop} {env : List Value} {w : World} : h28_27.wp F Q env w = HC.wp F (.seq (.block 1 h28_26) h28_24) Q env w := rfl
def h28_28 : HC := (.seq (.br (.chk none (.bin .lss) (.cons (.inp 6) (.cons (.cst (.int .i64 6)) .nil)) (.done [] (some (.op (.bin .lss) (.cons (.inp 6) (.cons (.cst (.int .i64 6)) .nil)))))) .skip (.exit 0)) h28_27)
@[simp] theorem h28_28_wp {P : Program} {F : PF P} {Q : EX → List Value → World → Prop} {env : List Value} {w : World} : h28_28.wp F Q env w = HC.wp F (.seq (.br (.chk none (.bin .lss) (.cons (.inp 6) (.cons (.cst (.int .i64 6)) .nil)) (.done [] (some (.op (.bin .lss) (.cons (.inp 6) (.cons (.cst (.int .i64 6)) .nil)))))) .skip (.exit 0)) h28_27) Q env w := rfl
def h28_29 : HC := (.loop h28_28)
@[simp] theorem h28_29_wp {P : Program} {F : PF P} {Q : EX → List Value → World → Prop} {env : List Value} {w : World} : h28_29.wp F Q env w = HC.wp F (.loop h28_28) Q env w := rfl
def h28_30 : HC := (.seq (.block 0 h28_29) h28_23)
@[simp] theorem h28_30_wp {P : Program} {F : PF P} {Q : EX → List Value → World → Prop} {env : List Value} {w : World} : h28_30.wp F Q env w = HC.wp F (.seq (.block 0 h28_29) h28_23) Q env w := rfl
def h28_31 : HC := (.seq (.reg (.done [(6, (.cst (.int .i64 (-1))))] none)) h28_30)
@[simp] theorem h28_31_wp {P : Program} {F : PF P} {Q : EX → List Value → World → Prop} {env : List Value} {w : World} : h28_31.wp F Q env w = HC.wp F (.seq (.reg (.done [(6, (.cst (.int .i64 (-1))))] none)) h28_30) Q env w := rfl
def h28_32 : HC := (.seq (.regq (some 0) (.chk none .chkp (.cons (.inp 0) .nil) (.chk none (.fld 0) (.cons (.op .chkp (.cons (.inp 0) .nil)) .nil) (.chk none (.idxP 3 1) (.cons (.op (.fld 0) (.cons (.op .chkp (.cons (.inp 0) .nil)) .nil)) (.cons (.inp 1) .nil)) (.eff (.ld false 1) (.cons (.op (.idxP 3 1) (.cons (.op (.fld 0) (.cons (.op .chkp (.cons (.inp 0) .nil)) .nil)) (.cons (.inp 1) .nil))) .nil) (.chk none .chkp (.cons (.inp 0) .nil) (.chk none (.fld 3) (.cons (.op .chkp (.cons (.inp 0) .nil)) .nil) (.chk none (.idxP 3 1) (.cons (.op (.fld 3) (.cons (.op .chkp (.cons (.inp 0) .nil)) .nil)) (.cons (.inp 1) .nil)) (.eff (.ld false 1) (.cons (.op (.idxP 3 1) (.cons (.op (.fld 3) (.cons (.op .chkp (.cons (.inp 0) .nil)) .nil)) (.cons (.inp 1) .nil))) .nil) (.done [(4, (.bv 0)), (5, (.bv 1))] none)))))))))) h28_31)
@[simp] theorem h28_32_wp {P : Program} {F : PF P} {Q : EX → List Value → World → Prop} {env : List Value} {w : World} : h28_32.wp F Q env w = HC.wp F (.seq (.regq (some 0) (.chk none .chkp (.cons (.inp 0) .nil) (.chk none (.fld 0) (.cons (.op .chkp (.cons (.inp 0) .nil)) .nil) (.chk none (.idxP 3 1) (.cons (.op (.fld 0) (.cons (.op .chkp (.cons (.inp 0) .nil)) .nil)) (.cons (.inp 1) .nil)) (.eff (.ld false 1) (.cons (.op (.idxP 3 1) (.cons (.op (.fld 0) (.cons (.op .chkp (.cons (.inp 0) .nil)) .nil)) (.cons (.inp 1) .nil))) .nil) (.chk none .chkp (.cons (.inp 0) .nil) (.chk none (.fld 3) (.cons (.op .chkp (.cons (.inp 0) .nil)) .nil) (.chk none (.idxP 3 1) (.cons (.op (.fld 3) (.cons (.op .chkp (.cons (.inp 0) .nil)) .nil)) (.cons (.inp 1) .nil)) (.eff (.ld false 1) (.cons (.op (.idxP 3 1) (.cons (.op (.fld 3) (.cons (.op .chkp (.cons (.inp 0) .nil)) .nil)) (.cons (.inp 1) .nil))) .nil) (.done [(4, (.bv 0)), (5, (.bv 1))] none)))))))))) h28_31) Q env w := rfl
def l28 : Lifted := ⟨[0, 1, 2, 6, 7, 8, 9, 11, 14, 15, 16, 17, 18, 19, 20, 21, 22, 23, 24, 25, 26, 27], 296, [.slot 3], (.seq (.reg (.done [(3, (.cst (.bool false)))] none)) h28_32)⟩
theorem l28_ok : liftFn U2 28 400 = some l28 := by kernel_rfl


/-- movers that leave all as_ it was: each with what it yields -/
def allC (S : World → Prop) : List (Value → Prop) → List Value → World → Prop
  | _, [], w => S w
  | R :: Rs, v :: vs, w => R v ∧ allC S Rs vs w
  | [], _ :: _, _ => False
theorem allC_S {S : World → Prop} : ∀ {Rs : List (Value → Prop)} {vs : List Value} {w : World}, allC S Rs vs w → S w
  | [], [], _, h => h
  | _ :: _, [], _, h => h
  | _ :: _, _ :: _, _, h => allC_S h.2
  | [], _ :: _, _, h => h.elim
theorem row_nil {w0 : World} {A : Asn} {size : Nat} : Row w0 A (.slice none 0 0) 0 size [] := ⟨by simp, none, 0, rfl, Nat.le_refl _, .inl rfl⟩
def lvm (env : List Value) : Nat := match env.getD 6 undef with
  | .int _ k => (6 - k).toNat
  | _ => 0
set_option maxHeartbeats 1000000 in
theorem looks_nil (n : Int) (w0 w : World) (A : Asn) {K : Value → World → Prop} (x0 x1 x6 x7 x8 x9 x10 x11 x12 x13 x14 x15 x16 x17 x18 x19 x20 x21 : Value) (s : St w0 A w) (hk : ∀ w', St w0 A w' → K (.bool true) w') :
    h28_31.wp U2 (endQ Try.prog [.slot 3] K) [x0, x1, .int .i64 n, .bool false, .pointer none, .pointer none, x6, x7, x8, x9, x10, x11, x12, x13, x14, x15, x16, x17, x18, x19, x20, x21] w := by
  simp
  refine loopI (fun env w' => ∃ (l : Int), env = [x0, x1, .int .i64 n, .bool false, .pointer none, .pointer none, .int .i64 l, x7, x8, x9, x10, x11, x12, x13, x14, x15, x16, x17, x18, x19, x20, x21] ∧ -1 ≤ l ∧ l ≤ 6 ∧ St w0 A w')
    (fun env _ => lvm env) ⟨-1, rfl, by omega, by omega, s⟩ ?_
  clear s
  rintro LQ env w' ⟨l, rfl, hl1, hl2, s⟩ hN hE hR
  simp
  refine cndI (fun h => ?_) (fun h => ?_)
  · have hl : l < 6 := by
      simp at h
      exact h
    simp
    refine eff_call (nLoad l w' ?_)
    simp
    refine eff_call (nrLoad l w' ?_)
    simp
    refine eff_call ((ints_spec [] [] (.slice none 0 0) (.slice none 0 0) w0 w' A (by simp) row_nil row_nil s).mono ?_)
    rintro r w1 ⟨rfl, s1⟩
    simp
    try simp (disch := omega) only [wrap64]
    exact hN _ _ ⟨l + 1, by simp, by omega, by omega, s1⟩ (by simp [lvm]; omega)
  simp
  refine hE _ _ _ ?_
  simp
  refine eff_call ((nWhen n w0 w' A s).mono ?_)
  rintro r w1 ⟨rfl, s1⟩
  simp
  refine eff_call ((nPlace n w0 w1 A s1).mono ?_)
  rintro r w2 ⟨rfl, s2⟩
  simp
  refine eff_call ((nFirst w0 w2 A s2).mono ?_)
  rintro r w3 ⟨rfl, s3⟩
  simp
  refine eff_new s3 ?_
  intro b w4 s4
  simp
  refine eff_stA (vs := encT (0, 0)) s4 rfl rfl (encT_one _) (by simp) ?_
  intro w5 s5
  have s5 : St w0 (A * lastA b (0, 0)) w5 := by simpa using s5
  simp
  refine eff_ldcs (vs := encT (0, 0)) s5.row_cells rfl ?_
  simp [Instr.fill, Value.cells]
  refine eff_eqlP tmT [.int .i64 0, .int .i64 0] [.int .i64 0, .int .i64 0] rfl rfl ?_
  simp
  refine eff_call (nAll w5 ?_)
  simp
  refine eff_call (nNow w5 ?_)
  simp
  refine eff_call (nLen w5 ?_)
  simp
  refine eff_call (nMoves w5 ?_)
  simp
  exact hk _ s5.drop
structure SO (now mv : Nat) (ts : List Tm) (L : List (Int × Int)) : Prop where
  pl : plOK now ts
  len : ts.length ≤ 65536
  now : now ≤ 1099511627776
  mv : mv ≤ 1152921504606846976
  L : L = sortT (ts.map tmr)
theorem SO.ll {now mv : Nat} {ts : List Tm} {L : List (Int × Int)} (h : SO now mv ts L) : L.length = ts.length := by rw [h.L, sortT_len, List.length_map]
theorem SO.mem {now mv : Nat} {ts : List Tm} {L : List (Int × Int)} (h : SO now mv ts L) {x : Int × Int} : x ∈ L ↔ x ∈ ts.map tmr := by rw [h.L]; exact (sortT_perm _).mem_iff
theorem SO.bd {now mv : Nat} {ts : List Tm} {L : List (Int × Int)} (h : SO now mv ts L) : ∀ x ∈ L, 0 ≤ x.2 ∧ x.2 ≤ 1099511627776 := fun x hx => by
  have := h.pl.pairs.1 x (h.mem.1 hx)
  omega
theorem SO.perm {now mv : Nat} {ts : List Tm} {L : List (Int × Int)} (h : SO now mv ts L) : L.Perm (ts.map tmr) := by rw [h.L]; exact sortT_perm _
set_option maxHeartbeats 2000000 in
theorem looks_tail (p q now mv : Nat) (ts : List Tm) (L : List (Int × Int)) (n : Int) (w0 w : World) (A : Asn) {K : Value → World → Prop} (x0 x1 x6 x7 x8 x9 x10 x11 x12 x13 x19 x20 x21 : Value) (hI : SO now mv ts L)
    (s : St w0 (A * whl p now mv ts * rwh q now mv L) w) (hk : ∀ w', St w0 (A * whl p now mv ts * rwh q now mv L) w' → K (.bool true) w') :
    h28_9.wp U2 (endQ Try.prog [.slot 3] K) [x0, x1, .int .i64 n, .bool false, .pointer (some ⟨p, 0, none⟩), .pointer (some ⟨q, 0, none⟩), x6, x7, x8, x9, x10, x11, x12, x13, .int .i64 (fat (fnd ts n)), .int .i64 (fer (fnd ts n)), .int .i64 (fpl (fnd ts n)).1, .int .i64 (fpl (fnd ts n)).2, .int .i64 (fer (fnd ts n)), x19, x20, x21] w := by
  have hll := hI.ll
  have hlen := hI.len
  have hnow := hI.now
  obtain ⟨v, s1⟩ := ropen s
  have hrow := row_own s1
  obtain ⟨va, vc, rfl⟩ := hrow.val
  obtain ⟨B, hB⟩ : ∃ B, A * whl p now mv ts * rwc q now mv (.slice va L.length vc) * routs (.slice va L.length vc) L = B := ⟨_, rfl⟩
  rw [show A * whl p now mv ts * rwc q now mv (.slice va L.length vc) * own 100 2 (.slice va L.length vc) L.length (L.flatMap encT) = B from hB] at hrow s1
  have hdr : ∀ {w}, St w0 B w → w.cell? ⟨q, 1, none⟩ = some (.slice va L.length vc) ∧ w.cell? ⟨q, 0, none⟩ = some (.int .i64 now) := fun sw => by
    rw [← hB] at sw
    exact ⟨sw.drop.row_cells 1 _ rfl, sw.drop.row_cells 0 _ rfl⟩
  have done : ∀ w, St w0 B w → K (.bool true) w := fun w sw => by
    rw [← hB] at sw
    exact hk w (rclose sw)
  simp
  refine loopI (fun env w' => ∃ (i : Nat), env = [x0, x1, .int .i64 n, .bool false, .pointer (some ⟨p, 0, none⟩), .pointer (some ⟨q, 0, none⟩), x6, x7, x8, x9, x10, x11, x12, x13, .int .i64 (fat (fnd ts n)), .int .i64 (fer (fnd ts n)), .int .i64 (fpl (fnd ts n)).1, .int .i64 (fpl (fnd ts n)).2, .int .i64 (fer (fnd ts n)), .int .i64 i, x20, x21] ∧ i ≤ L.length ∧ (∀ x ∈ L.take i, x.1 ≠ n) ∧ St w0 B w')
    (fun env _ => L.length - slotN env 19) ⟨0, rfl, by omega, by simp, s1⟩ ?_
  clear s s1
  rintro LQ env w' ⟨i, rfl, hi, hno, s⟩ hN hE hR
  simp
  refine eff_ldc (hdr s).1 ?_
  simp
  refine cndI (fun h => ?_) (fun h => ?_)
  · have h0 := h
    simp at h0
    have hi' : i < L.length := by omega
    obtain ⟨g, o, cap, hv, hc⟩ := hrow.at (by omega)
    cases hv
    have hm : L[i] ∈ L := List.getElem_mem hi'
    obtain ⟨t, ht⟩ : ∃ t, L[i] = t := ⟨_, rfl⟩
    rw [ht] at hm
    obtain ⟨hx1, hx2⟩ := hI.bd t hm
    obtain ⟨a, hta⟩ := Int.eq_ofNat_of_zero_le hx1
    have c0 : ∀ w, St w0 B w → w.cell? ⟨g, o + i * 2, none⟩ = some (.int .i64 t.1) := fun w sw => by
      have := hc w sw _ _ (flatT_at hi' 0 _ (by rw [ht]; rfl))
      simpa using this
    have c1 : ∀ w, St w0 B w → w.cell? ⟨g, o + i * 2 + 1, none⟩ = some (.int .i64 a) := fun w sw => by
      rw [Nat.add_assoc, ← hta]
      exact hc w sw _ _ (flatT_at hi' 1 _ (by rw [ht]; rfl))
    simp
    refine eff_ldc (hdr s).1 ?_
    simp [h0]
    refine eff_ldc (c0 _ s) ?_
    simp
    refine cndI (fun h2 => ?_) (fun h2 => ?_)
    · have hn : t.1 = n := by
        simp at h2
        exact h2
      obtain ⟨f1, f2, f3⟩ := fnd_at hI.pl (hI.mem.1 hm)
      rw [hn] at f1 f2 f3
      rw [hta, Int.toNat_natCast] at f1 f3
      simp
      refine regmI (oneO2 (St w0 B) (fun r => r = .tuple #[.int .i64 (lvF a now).1, .int .i64 (lvF a now).2])) s.drew ?_
      simp
      refine effm_ldc (v := .slice (some ⟨g, o, none⟩) L.length vc) (fun vs' w he hw => ?_) ?_
      · match vs', hw with
        | [], hw => exact (hdr hw).1
        | [_], hw => simp [era] at he
      simp [h0]
      refine effm_ldc (v := .int .i64 a) (fun vs' w he hw => ?_) ?_
      · match vs', hw with
        | [], hw => exact c1 w hw
        | [_], hw => simp [era] at he
      simp
      refine effm_ldc (v := .int .i64 now) (fun vs' w he hw => ?_) ?_
      · match vs', hw with
        | [], hw => exact (hdr hw).2
        | [_], hw => simp [era] at he
      simp
      refine effm_mv rfl (fun w hw => eff_call ((Lies_spec a now w0 w _ (by omega) (by omega) hw).mono fun r w' h => h)) (fun r hr => ?_)
      obtain ⟨_, hr, _⟩ := hr
      have hr : r = .tuple #[.int .i64 (lvF a now).1, .int .i64 (lvF a now).2] := hr
      subst hr
      simp
      intro w6 s9
      have s9 : St w0 B w6 := s9.2
      simp only [f1, f2, f3]
      simp
      refine eff_ldc (hdr s9).1 ?_
      simp [h0]
      refine eff_ldc (c1 _ s9) ?_
      simp
      refine hR _ _ ?_
      simp
      exact done _ s9
    · have hn : t.1 ≠ n := by
        simp at h2
        exact h2
      simp
      try simp (disch := omega) only [wrap64]
      refine hN _ _ ⟨i + 1, by simp, by omega, fun x hx => ?_, s⟩ (by simp [slotN]; omega)
      rw [List.take_succ_eq_append_getElem hi', ht] at hx
      rcases List.mem_append.1 hx with hx | hx
      · exact hno x hx
      · rw [List.mem_singleton.1 hx]; exact hn
  · have hil : i = L.length := by
      simp at h
      omega
    rw [List.take_of_length_le (by omega)] at hno
    have hf : fnd ts n = none := fnd_none.2 fun t ht e => hno (tmr t) (hI.mem.2 (List.mem_map.2 ⟨t, ht, rfl⟩)) e
    simp
    refine hE _ _ _ ?_
    simp [hf, fer, fat, fpl]
    exact done _ s
set_option maxHeartbeats 2000000 in
theorem looks_mid (p q now mv : Nat) (ts : List Tm) (L : List (Int × Int)) (n : Int) (w0 w : World) (A : Asn) {K : Value → World → Prop} (x0 x1 x6 x7 x8 x9 x10 x11 x12 x13 x14 x15 x16 x17 x18 x19 x20 x21 : Value) (hI : SO now mv ts L)
    (s : St w0 (A * whl p now mv ts * rwh q now mv L) w) (hk : ∀ w', St w0 (A * whl p now mv ts * rwh q now mv L) w' → K (.bool true) w') :
    h28_14.wp U2 (endQ Try.prog [.slot 3] K) [x0, x1, .int .i64 n, .bool false, .pointer (some ⟨p, 0, none⟩), .pointer (some ⟨q, 0, none⟩), x6, x7, x8, x9, x10, x11, x12, x13, x14, x15, x16, x17, x18, x19, x20, x21] w := by
  have hll := hI.ll
  have hlen := hI.len
  have hnow := hI.now
  simp
  refine eff_call ((First_spec p now mv ts w0 w (A * rwh q now mv L) hI.pl hlen (s.to (by ac_rfl))).mono ?_)
  rintro r w1 ⟨rfl, s1⟩
  rw [← hI.L]
  obtain ⟨y, hy⟩ : ∃ y, hdF L = y := ⟨_, rfl⟩
  rw [hy]
  simp
  refine eff_new s1 ?_
  intro b w2 s2
  simp
  refine eff_stA (vs := encT y) s2 rfl rfl (encT_one _) (by simp) ?_
  intro w3 s3
  have s3 : St w0 (A * rwh q now mv L * whl p now mv ts * lastA b y) w3 := by simpa using s3
  obtain ⟨v, s4⟩ := ropen (s3.to (B := A * whl p now mv ts * lastA b y * rwh q now mv L) (by ac_rfl))
  have hrow := row_own s4
  obtain ⟨va, vc, rfl⟩ := hrow.val
  obtain ⟨B, hB⟩ : ∃ B, A * whl p now mv ts * lastA b y * rwc q now mv (.slice va L.length vc) * routs (.slice va L.length vc) L = B := ⟨_, rfl⟩
  rw [show A * whl p now mv ts * lastA b y * rwc q now mv (.slice va L.length vc) * own 100 2 (.slice va L.length vc) L.length (L.flatMap encT) = B from hB] at hrow s4
  have hdr : ∀ {w}, St w0 B w → w.cell? ⟨q, 1, none⟩ = some (.slice va L.length vc) := fun sw => by
    rw [← hB] at sw
    exact sw.drop.row_cells 1 _ rfl
  have bcell : ∀ {w}, St w0 B w → ∀ j u, (encT y)[j]? = some u → w.cell? ⟨b, 0 + j, none⟩ = some u := fun sw => by
    rw [← hB] at sw
    exact St.row_cells (vs := encT y) sw.drop.drop
  have go : ∀ w, St w0 B w → ∀ (x12 x13 : Value), HC.wp U2 h28_11 (endQ Try.prog [.slot 3] K) [x0, x1, .int .i64 n, .bool false, .pointer (some ⟨p, 0, none⟩), .pointer (some ⟨q, 0, none⟩), x6, x7, x8, x9, x10, x11, x12, x13, x14, x15, x16, x17, x18, x19, x20, x21] w := fun w sw x12 x13 => by
    rw [← hB] at sw
    have sw : St w0 (A * whl p now mv ts * rwh q now mv L) w := (rclose sw).swap.drop.to (by ac_rfl)
    simp
    refine eff_call ((When_spec p now mv ts n w0 w (A * rwh q now mv L) (sw.to (by ac_rfl))).mono ?_)
    rintro r w1 ⟨rfl, s1⟩
    simp
    refine eff_call ((Place_spec p now mv ts n w0 w1 (A * rwh q now mv L) s1).mono ?_)
    rintro r w2 ⟨rfl, s2⟩
    simp
    have key := looks_tail p q now mv ts L n w0 w2 A (K := K) x0 x1 x6 x7 x8 x9 x10 x11 x12 x13 x19 x20 x21 hI (s2.to (by ac_rfl)) hk
    simpa using key
  clear s s1 s2 s3
  simp
  refine brqI s4 ?_
  simp
  refine effq_ldc (v := .slice va L.length vc) (fun w s => hdr s) ?_
  by_cases hne : ts = []
  · have hL0 : L = [] := by
      rw [hI.L, hne]
      exact List.eq_nil_of_length_eq_zero (by rw [sortT_len]; rfl)
    have hy0 : y = (0, 0) := by rw [← hy, hL0]; rfl
    have hl0 : L.length = 0 := by rw [hL0]; rfl
    simp [hne, hl0]
    refine effq_ldcs (vs := encT y) (fun w s => bcell s) rfl ?_
    simp [Instr.fill, Value.cells]
    rw [hy0]
    refine effq_neqP tmT [.int .i64 0, .int .i64 0] [.int .i64 0, .int .i64 0] rfl rfl ?_
    simp
    intro w5 s5
    have key := go w5 s5 (.pointer (some ⟨b, 0, none⟩)) (.bool false)
    simpa using key
  · have hpos : 0 < L.length := by
      rw [hll]
      exact List.length_pos_iff.2 hne
    have hposi : (0 : Int) < L.length := by omega
    obtain ⟨g, o, cap, hv, hc⟩ := hrow.at (by omega)
    cases hv
    have hy1 : L[0] = y := by
      rw [← hy]
      cases L with
      | nil => simp at hpos
      | cons x r => rfl
    have cc : ∀ w, St w0 B w → ∀ j u, (encT y)[j]? = some u → w.cell? ⟨g, o + j, none⟩ = some u := fun w sw j u hu => by
      have := hc w sw _ _ (flatT_at hpos j u (by rw [hy1]; exact hu))
      simpa using this
    simp [hne, hpos, hposi]
    refine effq_ldc (fun w s => bcell s 0 _ rfl) ?_
    simp
    refine effq_ldc (fun w s => hdr s) ?_
    simp [hpos, hposi]
    refine effq_ldc (fun w s => cc w s 0 _ rfl) ?_
    simp
    refine effq_ldc (fun w s => bcell s 1 _ rfl) ?_
    simp
    refine effq_ldc (fun w s => hdr s) ?_
    simp [hpos, hposi]
    refine effq_ldc (fun w s => cc w s 1 _ rfl) ?_
    simp
    intro w5 s5
    have key := go w5 s5 (.pointer (some ⟨b, 0, none⟩)) (.bool true)
    simpa using key
set_option maxHeartbeats 2000000 in
theorem looks_some (p q now mv : Nat) (ts : List Tm) (L : List (Int × Int)) (n : Int) (w0 w : World) (A : Asn) {K : Value → World → Prop} (x0 x1 x6 x7 x8 x9 x10 x11 x12 x13 x14 x15 x16 x17 x18 x19 x20 x21 : Value) (hI : SO now mv ts L)
    (s : St w0 (A * whl p now mv ts * rwh q now mv L) w) (hk : ∀ w', St w0 (A * whl p now mv ts * rwh q now mv L) w' → K (.bool true) w') :
    h28_31.wp U2 (endQ Try.prog [.slot 3] K) [x0, x1, .int .i64 n, .bool false, .pointer (some ⟨p, 0, none⟩), .pointer (some ⟨q, 0, none⟩), x6, x7, x8, x9, x10, x11, x12, x13, x14, x15, x16, x17, x18, x19, x20, x21] w := by
  have hll := hI.ll
  have hlen := hI.len
  have hnow := hI.now
  have hmv := hI.mv
  simp
  refine loopI (fun env w' => ∃ (l : Int), env = [x0, x1, .int .i64 n, .bool false, .pointer (some ⟨p, 0, none⟩), .pointer (some ⟨q, 0, none⟩), .int .i64 l, x7, x8, x9, x10, x11, x12, x13, x14, x15, x16, x17, x18, x19, x20, x21] ∧ -1 ≤ l ∧ l ≤ 6 ∧ St w0 (A * whl p now mv ts * rwh q now mv L) w')
    (fun env _ => lvm env) ⟨-1, rfl, by omega, by omega, s⟩ ?_
  clear s
  rintro LQ env w' ⟨l, rfl, hl1, hl2, s⟩ hN hE hR
  simp
  refine cndI (fun h => ?_) (fun h => ?_)
  · have hl : l < 6 := by
      simp at h
      exact h
    have l64 := ldF_len now L l
    simp
    refine eff_call (Load_spec p now mv ts l w0 w' (A * rwh q now mv L) hI.pl hlen (s.to (by ac_rfl)) fun v1 w1 s1 => ?_)
    rw [← ldF_perm now hI.perm] at s1
    simp
    refine eff_call (rLoad_spec q now mv L l w0 w1 (A * whl p now mv ts * intsA v1 (ldF now L l)) (by omega) hI.bd hnow (s1.to (by ac_rfl)) fun v2 w2 s2 => ?_)
    simp
    refine eff_call ((ints_spec (ldF now L l) (ldF now L l) v1 v2 w0 w2 _ (by omega) (row_ints s2 (B := A * whl p now mv ts * rwh q now mv L * intsA v2 (ldF now L l)) (by ac_rfl)) (row_own s2) s2).mono ?_)
    rintro r w3 ⟨rfl, s3⟩
    simp
    try simp (disch := omega) only [wrap64]
    exact hN _ _ ⟨l + 1, by simp, by omega, by omega, St.cut (intsA v1 (ldF now L l) * intsA v2 (ldF now L l)) s3 (by ac_rfl)⟩ (by simp [lvm]; omega)
  simp
  refine hE _ _ _ ?_
  simp
  refine eff_call (All_spec p now mv ts w0 w' (A * rwh q now mv L) hlen (s.to (by ac_rfl)) fun va w1 s1 => ?_)
  rw [← hI.L] at s1
  clear s
  simp
  obtain ⟨v, s2⟩ := ropen (s1.to (B := A * whl p now mv ts * outs va L * rwh q now mv L) (by ac_rfl))
  have hrow := row_own s2
  obtain ⟨ra, rc', rfl⟩ := hrow.val
  obtain ⟨B, hB⟩ : ∃ B, A * whl p now mv ts * outs va L * rwc q now mv (.slice ra L.length rc') * routs (.slice ra L.length rc') L = B := ⟨_, rfl⟩
  rw [show A * whl p now mv ts * outs va L * rwc q now mv (.slice ra L.length rc') * own 100 2 (.slice ra L.length rc') L.length (L.flatMap encT) = B from hB] at hrow s2
  have hdr : ∀ {w}, St w0 B w → w.cell? ⟨q, 1, none⟩ = some (.slice ra L.length rc') ∧ w.cell? ⟨q, 0, none⟩ = some (.int .i64 now) ∧ w.cell? ⟨q, 2, none⟩ = some (.int .i64 mv) := fun sw => by
    rw [← hB] at sw
    exact ⟨sw.drop.row_cells 1 _ rfl, sw.drop.row_cells 0 _ rfl, sw.drop.row_cells 2 _ rfl⟩
  have hall : Row w0 B va L.length 2 (L.flatMap encT) := row_outs s2 (B := A * whl p now mv ts * rwc q now mv (.slice ra L.length rc') * routs (.slice ra L.length rc') L) (by rw [← hB]; ac_rfl)
  have toW : ∀ {w}, St w0 B w → St w0 (A * outs va L * rwc q now mv (.slice ra L.length rc') * routs (.slice ra L.length rc') L * whl p now mv ts) w := fun sw => by rw [← hB] at sw; exact sw.to (by ac_rfl)
  have ofW : ∀ {w}, St w0 (A * outs va L * rwc q now mv (.slice ra L.length rc') * routs (.slice ra L.length rc') L * whl p now mv ts) w → St w0 B w := fun sw => by rw [← hB]; exact sw.to (by ac_rfl)
  clear s1
  refine brmI (allC (St w0 B) [fun r => r = .bool true, fun r => r = .int .i64 now, fun r => r = .int .i64 ts.length, fun r => r = .int .i64 mv]) s2.drew ?_
  simp
  refine effm_ldc (v := .slice ra L.length rc') (fun vs' w he hw => (hdr (allC_S hw)).1) ?_
  simp
  refine effm_mv rfl (fun w hw => eff_call ((timers_spec L L va (.slice ra L.length rc') w0 w B (by omega) hall hrow (allC_S hw)).mono fun r w' h => ⟨by rw [h.1]; simp, h.2⟩)) (fun r1 h1 => ?_)
  obtain ⟨_, rfl, _⟩ := h1
  simp
  refine effm_mv rfl (fun w hw => eff_call ((Now_spec p now mv ts w0 w _ (toW (allC_S hw))).mono fun r w' h => ⟨rfl, h.1, ofW h.2⟩)) (fun r2 h2 => ?_)
  obtain ⟨_, _, rfl, _⟩ := h2
  simp
  refine effm_ldc (v := .int .i64 now) (fun vs' w he hw => (hdr (allC_S hw)).2.1) ?_
  simp
  refine effm_mv rfl (fun w hw => eff_call ((Len_spec p now mv ts w0 w _ (toW (allC_S hw))).mono fun r w' h => ⟨rfl, rfl, h.1, ofW h.2⟩)) (fun r3 h3 => ?_)
  obtain ⟨_, _, _, rfl, _⟩ := h3
  simp
  refine effm_ldc (v := .slice ra L.length rc') (fun vs' w he hw => (hdr (allC_S hw)).1) ?_
  simp [hll]
  refine effm_mv rfl (fun w hw => eff_call ((Moves_spec p now mv ts w0 w _ (toW (allC_S hw))).mono fun r w' h => ⟨rfl, rfl, rfl, h.1, ofW h.2⟩)) (fun r4 h4 => ?_)
  obtain ⟨_, _, _, _, rfl, _⟩ := h4
  simp
  refine effm_ldc (v := .int .i64 mv) (fun vs' w he hw => (hdr (allC_S hw)).2.2) ?_
  simp
  intro w6 s6
  have s6 : St w0 B w6 := allC_S s6
  try simp
  rw [← hB] at s6
  refine eff_call (spoilt_spec L va w0 w6 (A * whl p now mv ts * rwc q now mv (.slice ra L.length rc') * routs (.slice ra L.length rc') L) (by omega) (s6.to (by ac_rfl)) fun r w7 s7 => ?_)
  simp
  have s8 : St w0 (A * whl p now mv ts * rwh q now mv L) w7 := (rclose s7.drop).to (by ac_rfl)
  have key := looks_mid p q now mv ts L n w0 w7 A (K := K) x0 x1 (.int .i64 l) x7 x8 x9 x10 va x12 x13 x14 x15 x16 x17 x18 x19 x20 x21 hI s8 hk
  simpa using key
end Go.HL.Wh

namespace Go.HL.Wh
open Go.HL Go.Proofs
set_option maxRecDepth 4000
set_option linter.unusedSimpArgs false
set_option linter.unusedVariables false
-- (*bazaar/bazaarlaw09.desk).from
def h40_0 : HC := (.seq (.reg (.done [(4, (.cst (.bool true)))] none)) .ret)
@[simp] theorem h40_0_wp {P : Program} {F : PF P} {Q : EX → List Value → World → Prop} {env : List Value} {w : World} : h40_0.wp F Q env w = HC.wp F (.seq (.reg (.done [(4, (.cst (.bool true)))] none)) .ret) Q env w := rfl
def h40_1 : HC := (.regq (some 1) (.chk none .chkp (.cons (.inp 0) .nil) (.chk none (.fld 0) (.cons (.op .chkp (.cons (.inp 0) .nil)) .nil) (.chk none (.idxP 3 1) (.cons (.op (.fld 0) (.cons (.op .chkp (.cons (.inp 0) .nil)) .nil)) (.cons (.inp 1) .nil)) (.eff (.st 1) (.cons (.op (.idxP 3 1) (.cons (.op (.fld 0) (.cons (.op .chkp (.cons (.inp 0) .nil)) .nil)) (.cons (.inp 1) .nil))) (.cons (.inp 6) .nil)) (.chk none .chkp (.cons (.inp 0) .nil) (.chk none (.fld 3) (.cons (.op .chkp (.cons (.inp 0) .nil)) .nil) (.chk none (.idxP 3 1) (.cons (.op (.fld 3) (.cons (.op .chkp (.cons (.inp 0) .nil)) .nil)) (.cons (.inp 1) .nil)) (.eff (.st 1) (.cons (.op (.idxP 3 1) (.cons (.op (.fld 3) (.cons (.op .chkp (.cons (.inp 0) .nil)) .nil)) (.cons (.inp 1) .nil))) (.cons (.inp 8) .nil)) (.done [] none))))))))))
@[simp] theorem h40_1_wp {P : Program} {F : PF P} {Q : EX → List Value → World → Prop} {env : List Value} {w : World} : h40_1.wp F Q env w = HC.wp F (.regq (some 1) (.chk none .chkp (.cons (.inp 0) .nil) (.chk none (.fld 0) (.cons (.op .chkp (.cons (.inp 0) .nil)) .nil) (.chk none (.idxP 3 1) (.cons (.op (.fld 0) (.cons (.op .chkp (.cons (.inp 0) .nil)) .nil)) (.cons (.inp 1) .nil)) (.eff (.st 1) (.cons (.op (.idxP 3 1) (.cons (.op (.fld 0) (.cons (.op .chkp (.cons (.inp 0) .nil)) .nil)) (.cons (.inp 1) .nil))) (.cons (.inp 6) .nil)) (.chk none .chkp (.cons (.inp 0) .nil) (.chk none (.fld 3) (.cons (.op .chkp (.cons (.inp 0) .nil)) .nil) (.chk none (.idxP 3 1) (.cons (.op (.fld 3) (.cons (.op .chkp (.cons (.inp 0) .nil)) .nil)) (.cons (.inp 1) .nil)) (.eff (.st 1) (.cons (.op (.idxP 3 1) (.cons (.op (.fld 3) (.cons (.op .chkp (.cons (.inp 0) .nil)) .nil)) (.cons (.inp 1) .nil))) (.cons (.inp 8) .nil)) (.done [] none)))))))))) Q env w := rfl
def h40_2 : HC := (.seq (.br (.chk none (.eqNil true (.pointer 76) (.pointer none)) (.cons (.inp 6) .nil) (.done [] (some (.op (.eqNil true (.pointer 76) (.pointer none)) (.cons (.inp 6) .nil))))) h40_1 .skip) h40_0)
@[simp] theorem h40_2_wp {P : Program} {F : PF P} {Q : EX → List Value → World → Prop} {env : List Value} {w : World} : h40_2.wp F Q env w = HC.wp F (.seq (.br (.chk none (.eqNil true (.pointer 76) (.pointer none)) (.cons (.inp 6) .nil) (.done [] (some (.op (.eqNil true (.pointer 76) (.pointer none)) (.cons (.inp 6) .nil))))) h40_1 .skip) h40_0) Q env w := rfl
def h40_3 : HC := (.seq (.reg (.eff (.call 19) (.cons (.inp 5) .nil) (.done [] none))) h40_2)
@[simp] theorem h40_3_wp {P : Program} {F : PF P} {Q : EX → List Value → World → Prop} {env : List Value} {w : World} : h40_3.wp F Q env w = HC.wp F (.seq (.reg (.eff (.call 19) (.cons (.inp 5) .nil) (.done [] none))) h40_2) Q env w := rfl
def h40_4 : HC := (.seq (.reg (.done [(4, (.cst (.bool false)))] none)) .ret)
@[simp] theorem h40_4_wp {P : Program} {F : PF P} {Q : EX → List Value → World → Prop} {env : List Value} {w : World} : h40_4.wp F Q env w = HC.wp F (.seq (.reg (.done [(4, (.cst (.bool false)))] none)) .ret) Q env w := rfl
def h40_5 : HC := (.seq (.brq (some 2) (.chk none (.cal 10) (.cons (.inp 7) .nil) (.chk none (.bin .neq) (.cons (.op (.cal 10) (.cons (.inp 7) .nil)) (.cons (.inp 9) .nil)) (.bnd (.op (.bin .neq) (.cons (.op (.cal 10) (.cons (.inp 7) .nil)) (.cons (.inp 9) .nil))) (.chk (some ((.bv 0), false)) (.eqNil false (.pointer 76) (.pointer none)) (.cons (.inp 6) .nil) (.chk (some ((.bv 0), false)) (.eqNil false (.pointer 91) (.pointer none)) (.cons (.inp 8) .nil) (.chk (some ((.bv 0), false)) (.eqB true) (.cons (.op (.eqNil false (.pointer 76) (.pointer none)) (.cons (.inp 6) .nil)) (.cons (.op (.eqNil false (.pointer 91) (.pointer none)) (.cons (.inp 8) .nil)) .nil)) (.isb none (.bv 0) (.bnd (.ite (.bv 0) true (.cst (.bool true)) (.op (.eqB true) (.cons (.op (.eqNil false (.pointer 76) (.pointer none)) (.cons (.inp 6) .nil)) (.cons (.op (.eqNil false (.pointer 91) (.pointer none)) (.cons (.inp 8) .nil)) .nil)))) (.chk (some ((.bv 1), false)) .lenL (.cons (.inp 3) .nil) (.chk (some ((.bv 1), false)) (.idxL 2) (.cons (.inp 5) (.cons (.op .lenL (.cons (.inp 3) .nil)) .nil)) (.chk (some ((.bv 1), false)) (.fld 0) (.cons (.op (.idxL 2) (.cons (.inp 5) (.cons (.op .lenL (.cons (.inp 3) .nil)) .nil))) .nil) (.ite (.bv 1) false (.eff (.ld false 1) (.cons (.ite (.bv 1) false (.op (.fld 0) (.cons (.op (.idxL 2) (.cons (.inp 5) (.cons (.op .lenL (.cons (.inp 3) .nil)) .nil))) .nil)) (.cst (.tuple #[]))) .nil) (.chk none (.bin .neq) (.cons (.bv 2) (.cons (.cst (.int .i64 77)) .nil)) (.isb none (.bv 1) (.bnd (.op (.bin .neq) (.cons (.bv 2) (.cons (.cst (.int .i64 77)) .nil))) (.chk (some ((.bv 3), false)) .lenL (.cons (.inp 3) .nil) (.chk (some ((.bv 3), false)) (.slL 2 false true false) (.cons (.inp 5) (.cons (.op .lenL (.cons (.inp 3) .nil)) .nil)) (.ite (.bv 3) false (.eff (.call 53) (.cons (.ite (.bv 3) false (.inp 3) (.cst (.tuple #[]))) .nil) (.eff (.call 39) (.cons (.ite (.bv 3) false (.op (.slL 2 false true false) (.cons (.inp 5) (.cons (.op .lenL (.cons (.inp 3) .nil)) .nil))) (.cst (.tuple #[]))) (.cons (.bv 4) .nil)) (.chk none (.un .not) (.cons (.bv 5) .nil) (.isb none (.bv 3) (.done [] (some (.op (.un .not) (.cons (.bv 5) .nil)))))))) (.isb none (.bv 3) (.done [] (some (.cst (.bool true)))))))))))) (.isb none (.bv 1) (.isb none (.cst (.bool true)) (.done [] (some (.cst (.bool true)))))))))))))))))) h40_4 .skip) h40_3)
@[simp] theorem h40_5_wp {P : Program} {F : PF P} {Q : EX → List Value → World → Prop} {env : List Value} {w : World} : h40_5.wp F Q env w = HC.wp F (.seq (.brq (some 2) (.chk none (.cal 10) (.cons (.inp 7) .nil) (.chk none (.bin .neq) (.cons (.op (.cal 10) (.cons (.inp 7) .nil)) (.cons (.inp 9) .nil)) (.bnd (.op (.bin .neq) (.cons (.op (.cal 10) (.cons (.inp 7) .nil)) (.cons (.inp 9) .nil))) (.chk (some ((.bv 0), false)) (.eqNil false (.pointer 76) (.pointer none)) (.cons (.inp 6) .nil) (.chk (some ((.bv 0), false)) (.eqNil false (.pointer 91) (.pointer none)) (.cons (.inp 8) .nil) (.chk (some ((.bv 0), false)) (.eqB true) (.cons (.op (.eqNil false (.pointer 76) (.pointer none)) (.cons (.inp 6) .nil)) (.cons (.op (.eqNil false (.pointer 91) (.pointer none)) (.cons (.inp 8) .nil)) .nil)) (.isb none (.bv 0) (.bnd (.ite (.bv 0) true (.cst (.bool true)) (.op (.eqB true) (.cons (.op (.eqNil false (.pointer 76) (.pointer none)) (.cons (.inp 6) .nil)) (.cons (.op (.eqNil false (.pointer 91) (.pointer none)) (.cons (.inp 8) .nil)) .nil)))) (.chk (some ((.bv 1), false)) .lenL (.cons (.inp 3) .nil) (.chk (some ((.bv 1), false)) (.idxL 2) (.cons (.inp 5) (.cons (.op .lenL (.cons (.inp 3) .nil)) .nil)) (.chk (some ((.bv 1), false)) (.fld 0) (.cons (.op (.idxL 2) (.cons (.inp 5) (.cons (.op .lenL (.cons (.inp 3) .nil)) .nil))) .nil) (.ite (.bv 1) false (.eff (.ld false 1) (.cons (.ite (.bv 1) false (.op (.fld 0) (.cons (.op (.idxL 2) (.cons (.inp 5) (.cons (.op .lenL (.cons (.inp 3) .nil)) .nil))) .nil)) (.cst (.tuple #[]))) .nil) (.chk none (.bin .neq) (.cons (.bv 2) (.cons (.cst (.int .i64 77)) .nil)) (.isb none (.bv 1) (.bnd (.op (.bin .neq) (.cons (.bv 2) (.cons (.cst (.int .i64 77)) .nil))) (.chk (some ((.bv 3), false)) .lenL (.cons (.inp 3) .nil) (.chk (some ((.bv 3), false)) (.slL 2 false true false) (.cons (.inp 5) (.cons (.op .lenL (.cons (.inp 3) .nil)) .nil)) (.ite (.bv 3) false (.eff (.call 53) (.cons (.ite (.bv 3) false (.inp 3) (.cst (.tuple #[]))) .nil) (.eff (.call 39) (.cons (.ite (.bv 3) false (.op (.slL 2 false true false) (.cons (.inp 5) (.cons (.op .lenL (.cons (.inp 3) .nil)) .nil))) (.cst (.tuple #[]))) (.cons (.bv 4) .nil)) (.chk none (.un .not) (.cons (.bv 5) .nil) (.isb none (.bv 3) (.done [] (some (.op (.un .not) (.cons (.bv 5) .nil)))))))) (.isb none (.bv 3) (.done [] (some (.cst (.bool true)))))))))))) (.isb none (.bv 1) (.isb none (.cst (.bool true)) (.done [] (some (.cst (.bool true)))))))))))))))))) h40_4 .skip) h40_3) Q env w := rfl
def h40_6 : HC := (.seq (.reg (.eff (.call 53) (.cons (.inp 3) .nil) (.eff (.call 52) (.cons (.inp 2) (.cons (.bv 0) .nil)) (.chk none (.ext 0) (.cons (.bv 1) .nil) (.chk none (.ext 1) (.cons (.bv 1) .nil) (.done [(8, (.op (.ext 0) (.cons (.bv 1) .nil))), (9, (.op (.ext 1) (.cons (.bv 1) .nil)))] none)))))) h40_5)
@[simp] theorem h40_6_wp {P : Program} {F : PF P} {Q : EX → List Value → World → Prop} {env : List Value} {w : World} : h40_6.wp F Q env w = HC.wp F (.seq (.reg (.eff (.call 53) (.cons (.inp 3) .nil) (.eff (.call 52) (.cons (.inp 2) (.cons (.bv 0) .nil)) (.chk none (.ext 0) (.cons (.bv 1) .nil) (.chk none (.ext 1) (.cons (.bv 1) .nil) (.done [(8, (.op (.ext 0) (.cons (.bv 1) .nil))), (9, (.op (.ext 1) (.cons (.bv 1) .nil)))] none)))))) h40_5) Q env w := rfl
def h40_7 : HC := (.seq (.reg (.chk none .lenL (.cons (.inp 3) .nil) (.chk none (.slL 2 false true false) (.cons (.inp 5) (.cons (.op .lenL (.cons (.inp 3) .nil)) .nil)) (.eff (.call 18) (.cons (.inp 2) (.cons (.op (.slL 2 false true false) (.cons (.inp 5) (.cons (.op .lenL (.cons (.inp 3) .nil)) .nil))) .nil)) (.chk none (.ext 0) (.cons (.bv 0) .nil) (.chk none (.ext 1) (.cons (.bv 0) .nil) (.done [(6, (.op (.ext 0) (.cons (.bv 0) .nil))), (7, (.op (.ext 1) (.cons (.bv 0) .nil)))] none))))))) h40_6)
@[simp] theorem h40_7_wp {P : Program} {F : PF P} {Q : EX → List Value → World → Prop} {env : List Value} {w : World} : h40_7.wp F Q env w = HC.wp F (.seq (.reg (.chk none .lenL (.cons (.inp 3) .nil) (.chk none (.slL 2 false true false) (.cons (.inp 5) (.cons (.op .lenL (.cons (.inp 3) .nil)) .nil)) (.eff (.call 18) (.cons (.inp 2) (.cons (.op (.slL 2 false true false) (.cons (.inp 5) (.cons (.op .lenL (.cons (.inp 3) .nil)) .nil))) .nil)) (.chk none (.ext 0) (.cons (.bv 0) .nil) (.chk none (.ext 1) (.cons (.bv 0) .nil) (.done [(6, (.op (.ext 0) (.cons (.bv 0) .nil))), (7, (.op (.ext 1) (.cons (.bv 0) .nil)))] none))))))) h40_6) Q env w := rfl
def h40_8 : HC := (.seq (.reg (.eff (.bsl 32 0 2 #[] []) .nil (.eff (.app 38 38 32 2 16 (.agg #[(.int .i64 0), (.int .i64 0)])) (.cons (.bv 0) (.cons (.inp 3) .nil)) (.chk none (.build #[(.int .i64 0), (.int .i64 0)] [(0, 1), (1, 1)] [0]) (.cons (.cst (.int .i64 77)) .nil) (.eff (.bsl 32 1 2 #[(.int .i64 0), (.int .i64 0)] [0]) (.cons (.op (.build #[(.int .i64 0), (.int .i64 0)] [(0, 1), (1, 1)] [0]) (.cons (.cst (.int .i64 77)) .nil)) .nil) (.eff (.app 38 38 32 2 16 (.agg #[(.int .i64 0), (.int .i64 0)])) (.cons (.bv 1) (.cons (.bv 2) .nil)) (.done [(5, (.bv 3))] none))))))) h40_7)
@[simp] theorem h40_8_wp {P : Program} {F : PF P} {Q : EX → List Value → World → Prop} {env : List Value} {w : World} : h40_8.wp F Q env w = HC.wp F (.seq (.reg (.eff (.bsl 32 0 2 #[] []) .nil (.eff (.app 38 38 32 2 16 (.agg #[(.int .i64 0), (.int .i64 0)])) (.cons (.bv 0) (.cons (.inp 3) .nil)) (.chk none (.build #[(.int .i64 0), (.int .i64 0)] [(0, 1), (1, 1)] [0]) (.cons (.cst (.int .i64 77)) .nil) (.eff (.bsl 32 1 2 #[(.int .i64 0), (.int .i64 0)] [0]) (.cons (.op (.build #[(.int .i64 0), (.int .i64 0)] [(0, 1), (1, 1)] [0]) (.cons (.cst (.int .i64 77)) .nil)) .nil) (.eff (.app 38 38 32 2 16 (.agg #[(.int .i64 0), (.int .i64 0)])) (.cons (.bv 1) (.cons (.bv 2) .nil)) (.done [(5, (.bv 3))] none))))))) h40_7) Q env w := rfl
def h40_9 : HC := (.seq (.reg (.done [(4, (.cst (.bool true)))] none)) .ret)
@[simp] theorem h40_9_wp {P : Program} {F : PF P} {Q : EX → List Value → World → Prop} {env : List Value} {w : World} : h40_9.wp F Q env w = HC.wp F (.seq (.reg (.done [(4, (.cst (.bool true)))] none)) .ret) Q env w := rfl
def h40_10 : HC := (.seq (.br (.chk none (.bin .eql) (.cons (.inp 1) (.cons (.cst (.int .i64 2)) .nil)) (.done [] (some (.op (.bin .eql) (.cons (.inp 1) (.cons (.cst (.int .i64 2)) .nil)))))) h40_9 .skip) h40_8)
@[simp] theorem h40_10_wp {P : Program} {F : PF P} {Q : EX → List Value → World → Prop} {env : List Value} {w : World} : h40_10.wp F Q env w = HC.wp F (.seq (.br (.chk none (.bin .eql) (.cons (.inp 1) (.cons (.cst (.int .i64 2)) .nil)) (.done [] (some (.op (.bin .eql) (.cons (.inp 1) (.cons (.cst (.int .i64 2)) .nil)))))) h40_9 .skip) h40_8) Q env w := rfl
def l40 : Lifted := ⟨[0, 1, 2, 3, 8, 9, 10, 11, 12, 13], 84, [.slot 4], (.seq (.reg (.done [(4, (.cst (.bool false)))] none)) h40_10)⟩
theorem l40_ok : liftFn U2 40 400 = some l40 := by kernel_rfl


/-- a wheel and the document's -/
structure Sw where
  p : Nat
  q : Nat
  now : Nat
  mv : Nat
  ts : List Tm
def wvS : Option Sw → Value
  | none => .pointer none
  | some x => .pointer (some ⟨x.p, 0, none⟩)
def rvS : Option Sw → Value
  | none => .pointer none
  | some x => .pointer (some ⟨x.q, 0, none⟩)
def slS : Option Sw → Asn
  | none => emp
  | some x => whl x.p x.now x.mv x.ts * rwh x.q x.now x.mv (sortT (x.ts.map tmr))
def okS (M : Nat) : Option Sw → Prop
  | none => True
  | some x => plOK x.now x.ts ∧ x.ts.length ≤ 65536 ∧ x.now ≤ 1099511627776 ∧ x.mv ≤ M
theorem okS.mono {M M' : Nat} {x : Option Sw} (h : okS M x) (hm : M ≤ M') : okS M' x := by
  cases x with
  | none => trivial
  | some x => exact ⟨h.1, h.2.1, h.2.2.1, Nat.le_trans h.2.2.2 hm⟩
theorem okS.so {M : Nat} {x : Sw} (h : okS M (some x)) (hM : M ≤ 1152921504606846976) : SO x.now x.mv x.ts (sortT (x.ts.map tmr)) := ⟨h.1, h.2.1, h.2.2.1, Nat.le_trans h.2.2.2 hM, rfl⟩
def dcs (T : Nat → Option Sw) : List Value := [wvS (T 0), wvS (T 1), wvS (T 2), rvS (T 0), rvS (T 1), rvS (T 2)]
abbrev dkA (d : Nat) (T : Nat → Option Sw) : Asn := pt d (.cells (dcs T).toArray 63 (0, 0))
def DK (d : Nat) (T : Nat → Option Sw) (k : Nat) : Asn := bigH (fun _ x => slS x) T k 3 * dkA d T
def deskA (d : Nat) (T : Nat → Option Sw) : Asn := bigA (fun _ x => slS x) T 3 * dkA d T
theorem desk_at {d : Nat} {T : Nat → Option Sw} {k : Nat} (hk : k < 3) : deskA d T = DK d T k * slS (T k) := by
  unfold deskA DK
  rw [big_at hk]
  ac_rfl
structure nxt (M : Nat) (x x' : Option Sw) : Prop where
  ok : okS M x'
  w : wvS x' = wvS x
  r : rvS x' = rvS x
theorem dcs_at (T : Nat → Option Sw) {k : Nat} (hk : k < 3) : (dcs T)[k]? = some (wvS (T k)) ∧ (dcs T)[3 + k]? = some (rvS (T k)) := by
  match k, hk with
  | 0, _ => exact ⟨rfl, rfl⟩
  | 1, _ => exact ⟨rfl, rfl⟩
  | 2, _ => exact ⟨rfl, rfl⟩
theorem dcs_up (T : Nat → Option Sw) {k : Nat} (hk : k < 3) (x : Option Sw) : (((dcs T).set k (wvS x)).set (3 + k) (rvS x)) = dcs (upF T k x) := by
  match k, hk with
  | 0, _ => rfl
  | 1, _ => rfl
  | 2, _ => rfl
theorem dcs_same (T : Nat → Option Sw) {k : Nat} (hk : k < 3) {x : Option Sw} (h1 : wvS x = wvS (T k)) (h2 : rvS x = rvS (T k)) : dcs (upF T k x) = dcs T := by
  rw [← dcs_up T hk, h1, h2]
  have := dcs_at T hk
  rw [set_same _ _ _ this.1, set_same _ _ _ this.2]
theorem desk_up {d : Nat} {T : Nat → Option Sw} {k : Nat} (hk : k < 3) {x : Option Sw} (h1 : wvS x = wvS (T k)) (h2 : rvS x = rvS (T k)) : deskA d (upF T k x) = DK d T k * slS x := by
  unfold deskA DK
  rw [big_set hk]
  show _ * pt d (.cells (dcs (upF T k x)).toArray _ _) = _
  rw [dcs_same T hk h1 h2]
  ac_rfl
theorem looks_spec (d k : Nat) (T : Nat → Option Sw) (x : Option Sw) (M : Nat) (n : Int) (w0 w : World) (A : Asn) (hk : k < 3) (hx : nxt M (T k) x) (hM : M ≤ 1152921504606846976) (s : St w0 (A * DK d T k * slS x) w) :
    CallW Try.prog 28 [.pointer (some ⟨d, 0, none⟩), .int .i64 k, .int .i64 n] (fun r w' => r = .bool true ∧ St w0 (A * DK d T k * slS x) w') w := by
  obtain ⟨c1, c2⟩ := dcs_at T hk
  have hki : (k : Int) < 3 := by omega
  have cells : ∀ w, St w0 (A * DK d T k * slS x) w → w.cell? ⟨d, k, none⟩ = some (wvS x) ∧ w.cell? ⟨d, 3 + k, none⟩ = some (rvS x) := fun w sw => by
    have sw : St w0 (A * bigH (fun _ x => slS x) T k 3 * slS x * dkA d T) w := sw.to (by unfold DK; ac_rfl)
    have h1 := sw.row_cells k _ c1
    have h2 := sw.row_cells (3 + k) _ c2
    rw [Nat.zero_add] at h1 h2
    rw [hx.w, hx.r]
    exact ⟨h1, h2⟩
  refine callW_of_lift l28_ok (by simp [l28]) ?_
  simp [l28]
  refine regqI s ?_
  simp [hki]
  refine effq_ldc (v := wvS x) (fun w sw => (cells w sw).1) ?_
  simp [hki]
  refine effq_ldc (v := rvS x) (fun w sw => (cells w sw).2) ?_
  simp
  intro w1 s1
  cases x with
  | none =>
    have key := looks_nil n w0 w1 _ (K := fun r w' => r = .bool true ∧ St w0 (A * DK d T k * slS none) w') (.pointer (some ⟨d, 0, none⟩)) (.int .i64 k) undef undef undef undef undef undef undef undef undef undef undef undef undef undef undef undef s1 fun w' s' => ⟨rfl, s'⟩
    simpa [wvS, rvS] using key
  | some x =>
    have key := looks_some x.p x.q x.now x.mv x.ts (sortT (x.ts.map tmr)) n w0 w1 (A * DK d T k) (K := fun r w' => r = .bool true ∧ St w0 (A * DK d T k * slS (some x)) w') (.pointer (some ⟨d, 0, none⟩)) (.int .i64 k) undef undef undef undef undef undef undef undef undef undef undef undef undef undef undef undef (hx.ok.so hM) (s1.to (by show _ = A * DK d T k * whl x.p x.now x.mv x.ts * rwh x.q x.now x.mv (sortT (x.ts.map tmr)); rw [show slS (some x) = whl x.p x.now x.mv x.ts * rwh x.q x.now x.mv (sortT (x.ts.map tmr)) from rfl]; ac_rfl)) fun w' s' => ⟨rfl, s'.to (by rw [show slS (some x) = whl x.p x.now x.mv x.ts * rwh x.q x.now x.mv (sortT (x.ts.map tmr)) from rfl]; ac_rfl)⟩
    simpa [wvS, rvS] using key
theorem frE_len {now : Nat} : ∀ (r L : List (Int × Int)), L.length ≤ 65536 → frE now L r = 0 → (L ++ r).length ≤ 65536
  | [], L, h, _ => by simpa using h
  | x :: r, L, h, hf => by
    unfold frE at hf
    by_cases hz : schP now L x.1 x.2 = 0
    · rw [if_pos hz] at hf
      have hlt := schP_ok hz
      have := frE_len r (L ++ [x]) (by simp; omega) hf
      simpa using this
    · rw [if_neg hz] at hf
      exact absurd hf hz
structure okT (M : Nat) (T : Nat → Option Sw) : Prop where
  ok : ∀ k, k < 3 → okS M (T k)
  two : T 2 = none
theorem okT.up {M : Nat} {T : Nat → Option Sw} (h : okT M T) {k : Nat} {x : Option Sw} (hx : okS M x) (h2 : k = 2 → x = none) : okT M (upF T k x) := by
  refine ⟨fun j hj => ?_, ?_⟩
  · by_cases e : j = k
    · subst e; rw [upF_at]; exact hx
    · rw [upF_ne _ _ e]; exact h.ok j hj
  · by_cases e : 2 = k
    · subst e; rw [upF_at]; exact h2 rfl
    · rw [upF_ne _ _ e]; exact h.two
theorem okT.mono {M M' : Nat} {T : Nat → Option Sw} (h : okT M T) (hm : M ≤ M') : okT M' T := ⟨fun k hk => (h.ok k hk).mono hm, h.two⟩
def frC (S : World → Prop) (S1 : Value → World → Prop) : List Value → World → Prop
  | [], w => S w
  | [r], w => S1 r w
  | [_, r], w => r = .bool true ∧ S w
  | _, _ => False
def stC (S S1 S2 : World → Prop) : List Value → World → Prop
  | [], w => S w
  | [_], w => S1 w
  | [_, _], w => S2 w
  | _, _ => False
end Go.HL.Wh

namespace Go.HL.Wh
open Go.HL Go.Proofs
set_option maxRecDepth 4000
set_option linter.unusedSimpArgs false
set_option linter.unusedVariables false
theorem outs_app {v : Value} {L : List (Int × Int)} {x : Int × Int} : own 32 2 v (L.length + 1) (L.flatMap encT ++ encT x) = outs v (L ++ [x]) := by
  show _ = own _ 2 v (L ++ [x]).length ((L ++ [x]).flatMap encT)
  rw [List.length_append, List.flatMap_append]
  simp
set_option maxHeartbeats 2000000 in
theorem from_spec (d k : Nat) (T : Nat → Option Sw) (M : Nat) (now : Int) (l : List (Int × Int)) (lv : Value) (w0 w : World) (A : Asn) (hk : k < 3) (hT : okT M T) (hl : l.length ≤ 1048576) (hrow : Row w0 A lv l.length 2 (l.flatMap encT)) (s : St w0 (A * deskA d T) w) :
    CallW Try.prog 40 [.pointer (some ⟨d, 0, none⟩), .int .i64 k, .int .i64 now, lv] (fun r w' => r = .bool true ∧ ∃ T', okT M T' ∧ St w0 (A * deskA d T') w') w := by
  obtain ⟨la, lc, rfl⟩ := hrow.val
  have hki : (k : Int) < 3 := by omega
  refine callW_of_lift l40_ok (by simp [l40]) ?_
  simp [l40]
  refine cndI (fun h => ?_) (fun h => ?_)
  · simp
    exact ⟨T, hT, s⟩
  have hk2 : k ≠ 2 := by
    simp at h
    omega
  simp
  refine eff_bsl0 s ?_
  intro v0 w1 s1
  simp
  refine eff_appR s1 (hrow.mono fun w s => s.drop.drop) (fun u hu => by obtain ⟨x, _, hx⟩ := List.mem_flatMap.1 hu; exact encT_one x u hx) (by decide) rfl (by unfold maxLen; omega) (by omega) ?_
  intro v1 w2 s2
  have s2 : St w0 (A * deskA d T * outs v1 l) w2 := by simpa using s2
  simp [Instr.fill, Value.cells]
  refine eff_bslV s2 rfl ?_
  intro c w3 s3
  simp
  refine eff_app (m := 1) (news := encT (77, 0)) s3.swap rfl s3.cells_look (encT_one _) (by decide) rfl (by unfold maxLen; omega) (by omega) ?_
  intro v2 w4 s4
  rw [outs_app] at s4
  have s4 : St w0 (A * deskA d T * outs v2 (l ++ [(77, 0)])) w4 := St.cut (pt c (.cells (encT (77, 0)).toArray 32 (0, 0))) s4 (by ac_rfl)
  clear s s1 s2 s3
  obtain ⟨g, cap, rfl, hcap, _⟩ := s4.own_at (by simp)
  have hlen1 : (l ++ [((77 : Int), (0 : Int))]).length = l.length + 1 := by simp
  rw [hlen1] at hcap
  obtain ⟨I, hI⟩ : ∃ I, outs (.slice (some ⟨g, 0, none⟩) (l ++ [((77 : Int), (0 : Int))]).length cap) (l ++ [(77, 0)]) = I := ⟨_, rfl⟩
  have incell : ∀ {w F}, St w0 (F * I) w → ∀ j u, ((l ++ [((77 : Int), (0 : Int))]).flatMap encT)[j]? = some u → w.cell? ⟨g, j, none⟩ = some u := fun {w F} sw => by
    rw [← hI] at sw
    obtain ⟨g', cap', e, _, hc⟩ := sw.own_at (by simp)
    cases e
    exact hc
  have hmark : ∀ {w F}, St w0 (F * I) w → w.cell? ⟨g, l.length * 2, none⟩ = some (.int .i64 77) := fun sw => incell sw _ _ (by
    have hlt : l.length < (l ++ [((77 : Int), (0 : Int))]).length := by simp
    have := flatT_at (L := l ++ [((77 : Int), (0 : Int))]) hlt 0 (.int .i64 77) (by simp)
    simpa using this)
  have hrowI : ∀ F, Row w0 (F * I) (.slice (some ⟨g, 0, none⟩) l.length cap) l.length 2 (l.flatMap encT) := fun F => by
    refine ⟨flat_length encT 2 (fun _ => rfl) l, some ⟨g, 0, none⟩, cap, rfl, by omega, .inr ⟨g, 0, rfl, fun w sw j u hu => ?_⟩⟩
    rw [Nat.zero_add]
    refine incell sw j u ?_
    rw [List.flatMap_append, List.getElem?_append_left (List.getElem?_eq_some_iff.1 hu).1]
    exact hu
  rw [hI] at s4
  have hlc : (l.length : Int) ≤ cap := by omega
  have hlc' : l.length ≤ cap := by omega
  simp
  try simp [hlc, hlc']
  refine eff_call (From_spec now l (.slice (some ⟨g, 0, none⟩) l.length cap) w0 w4 _ hl (hrowI _) s4 fun r w5 h5 => ?_)
  -- what both make of it
  obtain ⟨nw, hnw⟩ : ∃ nw : Option Sw → Prop, nw = fun x => if 0 ≤ now ∧ now ≤ 1099511627776 then (if frE now.toNat [] l = 0 then ∃ p q ts, x = some ⟨p, q, now.toNat, 0, ts⟩ ∧ plOK now.toNat ts ∧ ts.map tmr = l else x = none) else x = none := ⟨_, rfl⟩
  have key : ∀ (x : Option Sw) (e : Int) (w6 : World), okS M x → St w0 (A * deskA d T * I * slS x) w6 →
      HC.wp U2 h40_5 (endQ Try.prog [.slot 4] fun r w' => r = .bool true ∧ ∃ T', okT M T' ∧ St w0 (A * deskA d T') w') [.pointer (some ⟨d, 0, none⟩), .int .i64 k, .int .i64 now, .slice la l.length lc, .bool false, .slice (some ⟨g, 0, none⟩) (l ++ [((77 : Int), (0 : Int))]).length cap, wvS x, .int .i64 e, rvS x, .int .i64 e] w6 := by
    intro x e w6 hx s6
    obtain ⟨S, hS⟩ : ∃ S, A * deskA d T * slS x = S := ⟨_, rfl⟩
    have s6 : St w0 (S * I) w6 := by rw [← hS]; exact s6.to (by ac_rfl)
    have hrowL : Row w0 (S * I) (.slice la l.length lc) l.length 2 (l.flatMap encT) := hrow.mono fun w sw => by
      have := sw.drop
      rw [← hS] at this
      exact this.drop.drop
    have hnil : (wvS x = .pointer none ∧ rvS x = .pointer none ∧ x = none) ∨ (∃ y, x = some y ∧ wvS x = .pointer (some ⟨y.p, 0, none⟩) ∧ rvS x = .pointer (some ⟨y.q, 0, none⟩)) := by
      cases x with
      | none => exact .inl ⟨rfl, rfl, rfl⟩
      | some y => exact .inr ⟨y, rfl, rfl, rfl⟩
    have fin : ∀ w9, St w0 (S * I) w9 → HC.wp U2 h40_3 (endQ Try.prog [.slot 4] fun r w' => r = .bool true ∧ ∃ T', okT M T' ∧ St w0 (A * deskA d T') w') [.pointer (some ⟨d, 0, none⟩), .int .i64 k, .int .i64 now, .slice la l.length lc, .bool false, .slice (some ⟨g, 0, none⟩) (l ++ [((77 : Int), (0 : Int))]).length cap, wvS x, .int .i64 e, rvS x, .int .i64 e] w9 := by
      intro w9 s9
      simp
      have hsp := spoilt_spec (l ++ [((77 : Int), (0 : Int))]) (.slice (some ⟨g, 0, none⟩) (l ++ [((77 : Int), (0 : Int))]).length cap) w0 w9 S
        (K := fun r w' => St w0 S w') (by simp; omega) (by rw [hI]; exact s9) (fun r w' h => h.drop)
      rw [hlen1] at hsp
      refine eff_call (hsp.mono fun r w10 s10 => ?_)
      simp
      rcases hnil with ⟨e1, e2, e3⟩ | ⟨y, e3, e1, e2⟩
      · rw [e1, e2]
        simp
        rw [← hS, e3, show slS none = emp from rfl, sep_emp] at s10
        exact ⟨T, hT, s10⟩
      · rw [e1, e2]
        simp
        obtain ⟨c1, c2⟩ := dcs_at T hk
        have lD : (dcs T).length = 6 := rfl
        rw [← hS] at s10
        have s10 : St w0 (A * bigA (fun _ x => slS x) T 3 * slS x * dkA d T) w10 := s10.to (by unfold deskA; ac_rfl)
        refine regmI (stC (St w0 (A * bigA (fun _ x => slS x) T 3 * slS x * dkA d T)) (St w0 (A * bigA (fun _ x => slS x) T 3 * slS x * pt d (.cells ((dcs T).set k (wvS x)).toArray 63 (0, 0)))) (St w0 (A * bigA (fun _ x => slS x) T 3 * slS x * pt d (.cells (dcs (upF T k x)).toArray 63 (0, 0))))) s10.drew ?_
        simp [hki]
        refine effm_mv rfl (fun w hw => eff_st1 (show St w0 (_ * dkA d T) w from hw) rfl (by simp [lD]; omega) fun w' h => ?_) (fun v _ => ?_)
        · show St w0 _ w'
          rw [e1]
          simpa using h
        simp [hki]
        refine effm_mv rfl (fun w hw => eff_st1 (show St w0 (_ * pt d (.cells ((dcs T).set k (wvS x)).toArray 63 (0, 0))) w from hw) rfl (by simp [lD]; omega) fun w' h => ?_) (fun v _ => ?_)
        · show St w0 _ w'
          rw [← dcs_up T hk, e2]
          simpa using h
        simp
        intro w11 s11
        have s11 : St w0 (A * bigA (fun _ x => slS x) T 3 * slS x * pt d (.cells (dcs (upF T k x)).toArray 63 (0, 0))) w11 := s11
        refine ⟨upF T k x, hT.up hx (fun e => absurd e hk2), ?_⟩
        rw [big_at hk] at s11
        have s12 : St w0 (A * (bigH (fun _ x => slS x) T k 3 * slS x) * dkA d (upF T k x)) w11 := St.cut (slS (T k)) s11 (by ac_rfl)
        show St w0 (A * (bigA _ _ 3 * dkA d (upF T k x))) w11
        rw [big_set hk]
        exact s12.to (by ac_rfl)
    simp
    refine brmI (frC (St w0 (S * I)) (fun r w => St w0 (S * I * routs r l) w)) s6.drew ?_
    have e77 : (l.length : Int) < ((l ++ [((77 : Int), (0 : Int))]).length : Int) := by rw [hlen1]; omega
    have hlt1 : (l.length : Int) < (l.length : Int) + 1 := by omega
    have e77' : l.length < (l ++ [((77 : Int), (0 : Int))]).length := by simp
    have base : ∀ vs' w, era 2 vs' = era 2 [] → frC (St w0 (S * I)) (fun r w => St w0 (S * I * routs r l) w) vs' w → St w0 (S * I) w := by
      intro vs' w he hw
      match vs', hw with
      | [], hw => exact hw
      | [_], hw => exact St.drop hw
      | [_, _], hw => exact hw.2
    have pass : ∀ (w9 : World), St w0 (S * I) w9 → True := fun _ _ => trivial
    rcases hnil with ⟨e1, e2, e3⟩ | ⟨y, e3, e1, e2⟩
    all_goals
      rw [e1, e2] at fin ⊢
      simp [hlc, hlc', hlt1]
      refine effm_ldc (v := .int .i64 77) (fun vs' w he hw => hmark (base vs' w he hw)) ?_
      simp [hlc, hlc', hlt1]
      refine effm_mv rfl (fun w hw => eff_call (model_spec l (.slice la l.length lc) w0 w (S * I) hl hrowL hw fun v' w' h => h)) (fun r _ => ?_)
      simp
      refine effm_mv rfl (fun w hw => ?_) (fun r2 h2 => ?_)
      · have hw : St w0 (S * I * routs r l) w := hw
        refine eff_call ((timers_spec l l (.slice (some ⟨g, 0, none⟩) l.length cap) r w0 w (S * I * routs r l) hl ((hrowI S).mono fun w s => s.drop) (row_own hw) hw).mono fun r' w' h => ?_)
        obtain ⟨rfl, h⟩ := h
        exact ⟨by simp, h.drop⟩
      obtain ⟨_, rfl, _⟩ := h2
      simp
      intro w9 h9
      have h9 : St w0 (S * I) w9 := h9.2
      have := fin w9 h9
      simpa using this
  by_cases hb : 0 ≤ now ∧ now ≤ 1099511627776
  · rw [if_pos hb] at h5
    by_cases hz : frE now.toNat [] l = 0
    · rw [if_pos hz] at h5
      obtain ⟨p, ts, rfl, hp, hm, s5⟩ := h5
      simp
      refine eff_call (model_spec l (.slice la l.length lc) w0 w5 _ hl (hrow.mono fun w sw => sw.drop.drop.drop) s5 fun r w6 s6 => ?_)
      simp
      refine eff_call (rFrom_spec now l r w0 w6 _ hl (row_own s6) s6 fun r2 w7 h7 => ?_)
      rw [if_pos hb, if_pos hz] at h7
      obtain ⟨q, rfl, s7⟩ := h7
      simp
      have hlts : ts.length ≤ 65536 := by
        have := frE_len l [] (by simp) hz
        rw [← List.length_map (f := tmr), hm]
        simpa using this
      have hx : okS M (some ⟨p, q, now.toNat, 0, ts⟩) := ⟨hp, hlts, by show now.toNat ≤ _; omega, Nat.zero_le _⟩
      have k2 := key (some ⟨p, q, now.toNat, 0, ts⟩) 0 w7 hx (by
        have e : slS (some ⟨p, q, now.toNat, 0, ts⟩) = whl p now.toNat 0 ts * rwh q now.toNat 0 (sortT l) := by
          show whl p now.toNat 0 ts * rwh q now.toNat 0 (sortT (ts.map tmr)) = _
          rw [hm]
        rw [e]
        exact St.cut (own 100 2 r l.length (l.flatMap encT)) s7 (by ac_rfl))
      simpa [wvS, rvS] using k2
    · rw [if_neg hz] at h5
      obtain ⟨rfl, s5⟩ := h5
      simp
      refine eff_call (model_spec l (.slice la l.length lc) w0 w5 _ hl (hrow.mono fun w sw => sw.drop.drop) s5 fun r w6 s6 => ?_)
      simp
      refine eff_call (rFrom_spec now l r w0 w6 _ hl (row_own s6) s6 fun r2 w7 h7 => ?_)
      rw [if_pos hb, if_neg hz] at h7
      obtain ⟨rfl, s7⟩ := h7
      simp
      have k2 := key none (frE now.toNat [] l) w7 trivial (by rw [show slS none = emp from rfl, sep_emp]; exact s7.drop)
      simpa [wvS, rvS] using k2
  · rw [if_neg hb] at h5
    obtain ⟨rfl, s5⟩ := h5
    simp
    refine eff_call (model_spec l (.slice la l.length lc) w0 w5 _ hl (hrow.mono fun w sw => sw.drop.drop) s5 fun r w6 s6 => ?_)
    simp
    refine eff_call (rFrom_spec now l r w0 w6 _ hl (row_own s6) s6 fun r2 w7 h7 => ?_)
    rw [if_neg hb] at h7
    obtain ⟨rfl, s7⟩ := h7
    simp
    have k2 := key none 90 w7 trivial (by rw [show slS none = emp from rfl, sep_emp]; exact s7.drop)
    simpa [wvS, rvS] using k2
end Go.HL.Wh

namespace Go.HL.Wh
open Go.HL Go.Proofs
set_option maxRecDepth 4000
set_option linter.unusedSimpArgs false
set_option linter.unusedVariables false
def nxA (M : Nat) (x : Option Sw) : Asn := fun h => ∃ x', nxt M x x' ∧ slS x' h
theorem nx_open {w0 w : World} {A : Asn} {M : Nat} {x : Option Sw} (s : St w0 (A * nxA M x) w) : ∃ x', nxt M x x' ∧ St w0 (A * slS x') w := by
  obtain ⟨g, h1, h2, h3, d, e, a, x', hx, b⟩ := s.holds
  exact ⟨x', hx, s.of ⟨g, h1, h2, h3, d, e, a, b⟩⟩
theorem nx_mk {w0 w : World} {A : Asn} {M : Nat} {x x' : Option Sw} (hx : nxt M x x') (s : St w0 (A * slS x') w) : St w0 (A * nxA M x) w := s.mono (sep_mono (fun _ h => h) fun g hg => ⟨x', hx, hg⟩)
theorem sort_filter (p : Int × Int → Bool) (L : List (Int × Int)) : sortT (L.filter p) = (sortT L).filter p := by
  have h1 : srt ((sortT L).filter p) := (sortT_pw L).sublist List.filter_sublist
  rw [← sortT_of h1]
  exact sortT_congr ((sortT_perm L).symm.filter p)
def eSch (x : Option Sw) (n a : Int) : Int := match x with
  | none => 1
  | some x => schF x.now x.ts n a
def hSch (x : Option Sw) (n a : Int) : Asn := match x with
  | none => emp
  | some x => fun h => ∃ ts', (schF x.now x.ts n a = 0 → ∃ b, ts' = x.ts ++ [hgT ⟨n, a.toNat, 0, 0, b⟩ x.now]) ∧ (schF x.now x.ts n a ≠ 0 → ts' = x.ts) ∧ (whl x.p x.now x.mv ts' * rwh x.q x.now x.mv (sortT (x.ts.map tmr))) h
theorem oSch (x : Option Sw) (M : Nat) (n a : Int) (w0 w : World) (A : Asn) (hx : okS M x) (s : St w0 (A * slS x) w) :
    CallW Try.prog 12 [wvS x, .int .i64 n, .int .i64 a] (fun r w' => r = .int .i64 (eSch x n a) ∧ St w0 (A * hSch x n a) w') w := by
  cases x with
  | none => exact nSched n a w ⟨rfl, s⟩
  | some x =>
    have s1 : St w0 (A * rwh x.q x.now x.mv (sortT (x.ts.map tmr)) * whl x.p x.now x.mv x.ts) w := s.to (by rw [show slS (some x) = whl x.p x.now x.mv x.ts * rwh x.q x.now x.mv (sortT (x.ts.map tmr)) from rfl]; ac_rfl)
    refine Sched_spec x.p x.now x.mv x.ts n a w0 w _ hx.2.2.1 s1 fun w' h => ⟨rfl, ?_⟩
    by_cases hz : schF x.now x.ts n a = 0
    · rw [if_pos hz] at h
      obtain ⟨b, s2⟩ := h
      have s3 : St w0 (A * (whl x.p x.now x.mv (x.ts ++ [hgT ⟨n, a.toNat, 0, 0, b⟩ x.now]) * rwh x.q x.now x.mv (sortT (x.ts.map tmr)))) w' := s2.to (by ac_rfl)
      exact s3.mono (sep_mono (fun _ h => h) fun g hg => ⟨_, fun _ => ⟨b, rfl⟩, fun e => absurd hz e, hg⟩)
    · rw [if_neg hz] at h
      have s3 : St w0 (A * (whl x.p x.now x.mv x.ts * rwh x.q x.now x.mv (sortT (x.ts.map tmr)))) w' := h.to (by ac_rfl)
      exact s3.mono (sep_mono (fun _ h => h) fun g hg => ⟨_, fun e => absurd e hz, fun _ => rfl, hg⟩)
theorem orSch (x : Option Sw) (M : Nat) (n a : Int) (w0 w : World) (A : Asn) (hx : okS M x) (s : St w0 (A * hSch x n a) w) :
    CallW Try.prog 36 [rvS x, .int .i64 n, .int .i64 a] (fun r w' => r = .int .i64 (eSch x n a) ∧ St w0 (A * nxA M x) w') w := by
  cases x with
  | none => exact nrSched n a w ⟨rfl, nx_mk (x' := none) ⟨trivial, rfl, rfl⟩ s⟩
  | some x =>
    obtain ⟨hp, hl, hnow, hmv⟩ := hx
    obtain ⟨g, h1, h2, h3, d, e, hA, ts', c1, c2, hw⟩ := s.holds
    have s1 : St w0 (A * (whl x.p x.now x.mv ts' * rwh x.q x.now x.mv (sortT (x.ts.map tmr)))) w := s.of ⟨g, h1, h2, h3, d, e, hA, hw⟩
    have eP : schP x.now (sortT (x.ts.map tmr)) n a = schF x.now x.ts n a := by rw [schF_P]; exact schP_perm _ (sortT_perm _) _ _
    refine rSched_spec x.q x.now x.mv (sortT (x.ts.map tmr)) n a w0 w (A * whl x.p x.now x.mv ts') (sortT_pw _) (by rw [sortT_len, List.length_map]; exact hl) (s1.to (by ac_rfl)) fun w' h => ⟨by rw [eP]; rfl, ?_⟩
    rw [eP] at h
    by_cases hz : schF x.now x.ts n a = 0
    · rw [if_pos hz] at h
      obtain ⟨b, rfl⟩ := c1 hz
      refine nx_mk (x' := some { x with ts := x.ts ++ [hgT ⟨n, a.toNat, 0, 0, b⟩ x.now] }) ⟨⟨hp.sch b hz, ?_, hnow, hmv⟩, rfl, rfl⟩ ?_
      · have := (schF_zero.1 hz).2.2.2.2
        simp; omega
      · show St w0 (A * (whl x.p x.now x.mv _ * rwh x.q x.now x.mv (sortT ((x.ts ++ [hgT ⟨n, a.toNat, 0, 0, b⟩ x.now]).map tmr)))) w'
        rw [tmr_sch b hz, ← sort_snoc]
        exact h.to (by ac_rfl)
    · rw [if_neg hz] at h
      rw [c2 hz] at h
      exact nx_mk (x' := some x) ⟨⟨hp, hl, hnow, hmv⟩, rfl, rfl⟩ (h.to (by rw [show slS (some x) = whl x.p x.now x.mv x.ts * rwh x.q x.now x.mv (sortT (x.ts.map tmr)) from rfl]; ac_rfl))
def eCan (x : Option Sw) (n : Int) : Int := match x with
  | none => 1
  | some x => if (∀ u ∈ x.ts, u.n ≠ n) then 93 else 0
def hCan (x : Option Sw) (n : Int) : Asn := match x with
  | none => emp
  | some x => whl x.p x.now x.mv (offT x.ts n) * rwh x.q x.now x.mv (sortT (x.ts.map tmr))
theorem off_map (ts : List Tm) (n : Int) : (offT ts n).map tmr = (ts.map tmr).filter fun x => decide (x.1 ≠ n) := by
  unfold offT
  rw [List.filter_map]
  rfl
theorem oCan (x : Option Sw) (n : Int) (w0 w : World) (A : Asn) (s : St w0 (A * slS x) w) :
    CallW Try.prog 13 [wvS x, .int .i64 n] (fun r w' => r = .int .i64 (eCan x n) ∧ St w0 (A * hCan x n) w') w := by
  cases x with
  | none => exact nCancel n w ⟨rfl, s⟩
  | some x =>
    have s1 : St w0 (A * rwh x.q x.now x.mv (sortT (x.ts.map tmr)) * whl x.p x.now x.mv x.ts) w := s.to (by rw [show slS (some x) = whl x.p x.now x.mv x.ts * rwh x.q x.now x.mv (sortT (x.ts.map tmr)) from rfl]; ac_rfl)
    refine Cancel_spec x.p x.now x.mv x.ts n w0 w _ s1 fun r w' hr h => ⟨hr, h.to ?_⟩
    rw [show hCan (some x) n = whl x.p x.now x.mv (offT x.ts n) * rwh x.q x.now x.mv (sortT (x.ts.map tmr)) from rfl]
    ac_rfl
theorem orCan (x : Option Sw) (M : Nat) (n : Int) (w0 w : World) (A : Asn) (hx : okS M x) (s : St w0 (A * hCan x n) w) :
    CallW Try.prog 37 [rvS x, .int .i64 n] (fun r w' => r = .int .i64 (eCan x n) ∧ St w0 (A * nxA M x) w') w := by
  cases x with
  | none => exact nrCancel n w ⟨rfl, nx_mk (x' := none) ⟨trivial, rfl, rfl⟩ s⟩
  | some x =>
    obtain ⟨hp, hl, hnow, hmv⟩ := hx
    have e1 : (∀ u ∈ sortT (x.ts.map tmr), u.1 ≠ n) ↔ ∀ u ∈ x.ts, u.n ≠ n := by
      constructor
      · intro h u hu
        exact h (tmr u) ((sortT_perm _).mem_iff.2 (List.mem_map.2 ⟨u, hu, rfl⟩))
      · intro h u hu
        obtain ⟨t, ht, rfl⟩ := List.mem_map.1 ((sortT_perm _).mem_iff.1 hu)
        exact h t ht
    refine rCancel_spec x.q x.now x.mv (sortT (x.ts.map tmr)) n w0 w (A * whl x.p x.now x.mv (offT x.ts n)) (by rw [sortT_len, List.length_map]; exact hl) (s.to (by rw [show hCan (some x) n = whl x.p x.now x.mv (offT x.ts n) * rwh x.q x.now x.mv (sortT (x.ts.map tmr)) from rfl]; ac_rfl)) fun w' h => ⟨?_, ?_⟩
    · show _ = Value.int .i64 (if (∀ u ∈ x.ts, u.n ≠ n) then 93 else 0)
      simp only [e1]
    · refine nx_mk (x' := some { x with ts := offT x.ts n }) ⟨⟨hp.off n, Nat.le_trans (List.length_filter_le _ _) hl, hnow, hmv⟩, rfl, rfl⟩ ?_
      show St w0 (A * (whl x.p x.now x.mv (offT x.ts n) * rwh x.q x.now x.mv (sortT ((offT x.ts n).map tmr)))) w'
      rw [off_map, sort_filter]
      exact h.to (by ac_rfl)
def vAdv (x : Option Sw) (to : Int) : List (Int × Int) := match x with
  | none => []
  | some x => if x.now ≤ to ∧ to ≤ 1099511627776 then outL to.toNat x.ts else []
def eAdv (x : Option Sw) (to : Int) : Int := match x with
  | none => 1
  | some x => if x.now ≤ to ∧ to ≤ 1099511627776 then 0 else 90
def hAdv (x : Option Sw) (to : Int) : Asn := match x with
  | none => emp
  | some x => (if x.now ≤ to ∧ to ≤ 1099511627776 then whl x.p to.toNat (x.mv + (movedT to.toNat x.ts).length) (restT to.toNat x.ts) else whl x.p x.now x.mv x.ts) * rwh x.q x.now x.mv (sortT (x.ts.map tmr))
theorem oAdv (x : Option Sw) (M : Nat) (to : Int) (w0 w : World) (A : Asn) {K : Value → World → Prop} (hx : okS M x) (hM : M ≤ 1152921504606846976) (s : St w0 (A * slS x) w)
    (hk : ∀ v w', St w0 (A * hAdv x to * outs v (vAdv x to)) w' → K (.tuple #[v, .int .i64 (eAdv x to)]) w') :
    CallW Try.prog 14 [wvS x, .int .i64 to] K w := by
  cases x with
  | none => exact nAdvance to w (hk _ _ (St.own_nil s _ _))
  | some x =>
    obtain ⟨hp, hl, hnow, hmv⟩ := hx
    have s1 : St w0 (A * rwh x.q x.now x.mv (sortT (x.ts.map tmr)) * whl x.p x.now x.mv x.ts) w := s.to (by rw [show slS (some x) = whl x.p x.now x.mv x.ts * rwh x.q x.now x.mv (sortT (x.ts.map tmr)) from rfl]; ac_rfl)
    refine Advance_spec x.p x.now x.mv x.ts to w0 w _ hp hnow hl (by omega) s1 fun r w' h => ?_
    by_cases hb : (x.now : Int) ≤ to ∧ to ≤ 1099511627776
    · rw [if_pos hb] at h
      obtain ⟨v, rfl, s2⟩ := h
      have := hk v w' (s2.to (by
        show _ = A * ((if (x.now : Int) ≤ to ∧ to ≤ 1099511627776 then _ else _) * _) * outs v (if (x.now : Int) ≤ to ∧ to ≤ 1099511627776 then _ else _)
        rw [if_pos hb, if_pos hb]
        ac_rfl))
      rw [show eAdv (some x) to = 0 from if_pos hb] at this
      exact this
    · rw [if_neg hb] at h
      obtain ⟨rfl, s2⟩ := h
      have := hk (.slice none 0 0) w' ((s2.own_nil 32 2).to (by
        show _ = A * ((if (x.now : Int) ≤ to ∧ to ≤ 1099511627776 then _ else _) * _) * outs _ (if (x.now : Int) ≤ to ∧ to ≤ 1099511627776 then _ else _)
        rw [if_neg hb, if_neg hb]
        show _ = _ * own _ 2 _ 0 []
        ac_rfl))
      rw [show eAdv (some x) to = 90 from if_neg hb] at this
      exact this
theorem orAdv (x : Option Sw) (M : Nat) (to : Int) (w0 w : World) (A : Asn) {K : Value → World → Prop} (hx : okS M x) (hM : M ≤ 1152921504606846976) (s : St w0 (A * hAdv x to) w)
    (hk : ∀ v x' w', okS (M + 65536) x' → wvS x' = wvS x → rvS x' = rvS x → St w0 (A * slS x' * routs v (vAdv x to)) w' → K (.tuple #[v, .int .i64 (eAdv x to)]) w') :
    CallW Try.prog 38 [rvS x, .int .i64 to] K w := by
  cases x with
  | none => exact nrAdvance to w (hk _ none _ trivial rfl rfl (St.own_nil s _ _))
  | some x =>
    obtain ⟨hp, hl, hnow, hmv⟩ := hx
    have so : SO x.now x.mv x.ts (sortT (x.ts.map tmr)) := ⟨hp, hl, hnow, by omega, rfl⟩
    have s1 : St w0 (A * (if (x.now : Int) ≤ to ∧ to ≤ 1099511627776 then whl x.p to.toNat (x.mv + (movedT to.toNat x.ts).length) (restT to.toNat x.ts) else whl x.p x.now x.mv x.ts) * rwh x.q x.now x.mv (sortT (x.ts.map tmr))) w := s.to (by
      show A * (_ * _) = _
      ac_rfl)
    refine rAdvance_spec x.q x.now x.mv (sortT (x.ts.map tmr)) to w0 w _ (by rw [sortT_len, List.length_map]; exact hl) so.bd hnow (by omega) s1 fun r w' h => ?_
    by_cases hb : (x.now : Int) ≤ to ∧ to ≤ 1099511627776
    · simp only [if_pos hb] at h
      obtain ⟨v, rfl, s2⟩ := h
      obtain ⟨T, rfl⟩ : ∃ T : Nat, to = T := ⟨to.toNat, by omega⟩
      rw [Int.toNat_natCast] at s2
      have e1 : ((sortT (x.ts.map tmr)).filter (mvP x.now T)).length = (movedT T x.ts).length := by
        rw [moved_map hp]
        exact ((sortT_perm _).filter _).length_eq
      have e2 : (sortT (x.ts.map tmr)).filter (fun y => decide ((T : Int) < y.2)) = sortT ((restT T x.ts).map tmr) := by rw [rest_map, sort_filter]
      have e3 : (sortT (x.ts.map tmr)).filter (fun y => decide (y.2 ≤ (T : Int))) = outL T x.ts := by
        show _ = sortT ((dueT T x.ts).map tmr)
        rw [due_map, sort_filter]
      rw [e1, e2, e3] at s2
      have lm : (movedT T x.ts).length ≤ x.ts.length := List.length_filter_le _ _
      have lr : (restT T x.ts).length ≤ x.ts.length := by
        unfold restT
        rw [List.length_map]
        exact List.length_filter_le _ _
      have := hk v (some ⟨x.p, x.q, T, x.mv + (movedT T x.ts).length, restT T x.ts⟩) w' ⟨hp.rest, by show (restT T x.ts).length ≤ _; omega, by show T ≤ _; omega, by show x.mv + (movedT T x.ts).length ≤ _; omega⟩ rfl rfl (s2.to (by
        show _ = A * (whl x.p T (x.mv + (movedT T x.ts).length) (restT T x.ts) * rwh x.q T (x.mv + (movedT T x.ts).length) (sortT ((restT T x.ts).map tmr))) * routs v (if (x.now : Int) ≤ (T : Int) ∧ (T : Int) ≤ 1099511627776 then outL (T : Int).toNat x.ts else [])
        rw [if_pos hb, Int.toNat_natCast]
        ac_rfl))
      rw [show eAdv (some x) (T : Int) = 0 from if_pos hb] at this
      exact this
    · simp only [if_neg hb] at h
      obtain ⟨rfl, s2⟩ := h
      have := hk (.slice none 0 0) (some x) w' ⟨hp, hl, hnow, by omega⟩ rfl rfl ((s2.own_nil 100 2).to (by
        show _ = A * (whl x.p x.now x.mv x.ts * _) * routs _ (if (x.now : Int) ≤ to ∧ to ≤ 1099511627776 then _ else _)
        rw [if_neg hb]
        show _ = _ * own _ 2 _ 0 []
        ac_rfl))
      rw [show eAdv (some x) to = 90 from if_neg hb] at this
      exact this
end Go.HL.Wh

namespace Go.HL.Wh
open Go.HL Go.Proofs
set_option maxRecDepth 4000
set_option linter.unusedSimpArgs false
set_option linter.unusedVariables false
-- (*bazaar/bazaarlaw09.desk).step
def h27_0 : HC := (.seq (.reg (.chk none (.fld 2) (.cons (.inp 2) .nil) (.eff (.ld false 1) (.cons (.op (.fld 2) (.cons (.inp 2) .nil)) .nil) (.eff (.call 28) (.cons (.inp 0) (.cons (.inp 4) (.cons (.bv 0) .nil))) (.done [(3, (.bv 1))] none))))) .ret)
@[simp] theorem h27_0_wp {P : Program} {F : PF P} {Q : EX → List Value → World → Prop} {env : List Value} {w : World} : h27_0.wp F Q env w = HC.wp F (.seq (.reg (.chk none (.fld 2) (.cons (.inp 2) .nil) (.eff (.ld false 1) (.cons (.op (.fld 2) (.cons (.inp 2) .nil)) .nil) (.eff (.call 28) (.cons (.inp 0) (.cons (.inp 4) (.cons (.bv 0) .nil))) (.done [(3, (.bv 1))] none))))) .ret) Q env w := rfl
def h27_1 : HC := (.seq (.regq (some 3) (.chk none (.fld 2) (.cons (.inp 2) .nil) (.eff (.ld false 1) (.cons (.op (.fld 2) (.cons (.inp 2) .nil)) .nil) (.eff (.call 12) (.cons (.inp 5) (.cons (.bv 0) (.cons (.inp 7) .nil))) (.chk none (.cal 10) (.cons (.bv 1) .nil) (.chk none (.fld 2) (.cons (.inp 2) .nil) (.eff (.ld false 1) (.cons (.op (.fld 2) (.cons (.inp 2) .nil)) .nil) (.eff (.call 36) (.cons (.inp 6) (.cons (.bv 2) (.cons (.inp 7) .nil))) (.chk none (.bin .eql) (.cons (.op (.cal 10) (.cons (.bv 1) .nil)) (.cons (.bv 3) .nil)) (.bnd (.op (.bin .eql) (.cons (.op (.cal 10) (.cons (.bv 1) .nil)) (.cons (.bv 3) .nil))) (.chk (some ((.bv 4), true)) (.fld 2) (.cons (.inp 2) .nil) (.ite (.bv 4) true (.eff (.ld false 1) (.cons (.ite (.bv 4) true (.op (.fld 2) (.cons (.inp 2) .nil)) (.cst (.tuple #[]))) .nil) (.eff (.call 28) (.cons (.ite (.bv 4) true (.inp 0) (.cst (.tuple #[]))) (.cons (.ite (.bv 4) true (.inp 4) (.cst (.tuple #[]))) (.cons (.bv 5) .nil))) (.isb none (.bv 4) (.done [(3, (.bv 6))] none)))) (.isb none (.bv 4) (.done [(3, (.cst (.bool false)))] none)))))))))))))) .ret)
@[simp] theorem h27_1_wp {P : Program} {F : PF P} {Q : EX → List Value → World → Prop} {env : List Value} {w : World} : h27_1.wp F Q env w = HC.wp F (.seq (.regq (some 3) (.chk none (.fld 2) (.cons (.inp 2) .nil) (.eff (.ld false 1) (.cons (.op (.fld 2) (.cons (.inp 2) .nil)) .nil) (.eff (.call 12) (.cons (.inp 5) (.cons (.bv 0) (.cons (.inp 7) .nil))) (.chk none (.cal 10) (.cons (.bv 1) .nil) (.chk none (.fld 2) (.cons (.inp 2) .nil) (.eff (.ld false 1) (.cons (.op (.fld 2) (.cons (.inp 2) .nil)) .nil) (.eff (.call 36) (.cons (.inp 6) (.cons (.bv 2) (.cons (.inp 7) .nil))) (.chk none (.bin .eql) (.cons (.op (.cal 10) (.cons (.bv 1) .nil)) (.cons (.bv 3) .nil)) (.bnd (.op (.bin .eql) (.cons (.op (.cal 10) (.cons (.bv 1) .nil)) (.cons (.bv 3) .nil))) (.chk (some ((.bv 4), true)) (.fld 2) (.cons (.inp 2) .nil) (.ite (.bv 4) true (.eff (.ld false 1) (.cons (.ite (.bv 4) true (.op (.fld 2) (.cons (.inp 2) .nil)) (.cst (.tuple #[]))) .nil) (.eff (.call 28) (.cons (.ite (.bv 4) true (.inp 0) (.cst (.tuple #[]))) (.cons (.ite (.bv 4) true (.inp 4) (.cst (.tuple #[]))) (.cons (.bv 5) .nil))) (.isb none (.bv 4) (.done [(3, (.bv 6))] none)))) (.isb none (.bv 4) (.done [(3, (.cst (.bool false)))] none)))))))))))))) .ret) Q env w := rfl
def h27_2 : HC := (.seq (.regq (some 3) (.chk none (.fld 2) (.cons (.inp 2) .nil) (.eff (.ld false 1) (.cons (.op (.fld 2) (.cons (.inp 2) .nil)) .nil) (.eff (.call 13) (.cons (.inp 5) (.cons (.bv 0) .nil)) (.chk none (.cal 10) (.cons (.bv 1) .nil) (.chk none (.fld 2) (.cons (.inp 2) .nil) (.eff (.ld false 1) (.cons (.op (.fld 2) (.cons (.inp 2) .nil)) .nil) (.eff (.call 37) (.cons (.inp 6) (.cons (.bv 2) .nil)) (.chk none (.bin .eql) (.cons (.op (.cal 10) (.cons (.bv 1) .nil)) (.cons (.bv 3) .nil)) (.bnd (.op (.bin .eql) (.cons (.op (.cal 10) (.cons (.bv 1) .nil)) (.cons (.bv 3) .nil))) (.chk (some ((.bv 4), true)) (.fld 2) (.cons (.inp 2) .nil) (.ite (.bv 4) true (.eff (.ld false 1) (.cons (.ite (.bv 4) true (.op (.fld 2) (.cons (.inp 2) .nil)) (.cst (.tuple #[]))) .nil) (.eff (.call 28) (.cons (.ite (.bv 4) true (.inp 0) (.cst (.tuple #[]))) (.cons (.ite (.bv 4) true (.inp 4) (.cst (.tuple #[]))) (.cons (.bv 5) .nil))) (.isb none (.bv 4) (.done [(3, (.bv 6))] none)))) (.isb none (.bv 4) (.done [(3, (.cst (.bool false)))] none)))))))))))))) .ret)
@[simp] theorem h27_2_wp {P : Program} {F : PF P} {Q : EX → List Value → World → Prop} {env : List Value} {w : World} : h27_2.wp F Q env w = HC.wp F (.seq (.regq (some 3) (.chk none (.fld 2) (.cons (.inp 2) .nil) (.eff (.ld false 1) (.cons (.op (.fld 2) (.cons (.inp 2) .nil)) .nil) (.eff (.call 13) (.cons (.inp 5) (.cons (.bv 0) .nil)) (.chk none (.cal 10) (.cons (.bv 1) .nil) (.chk none (.fld 2) (.cons (.inp 2) .nil) (.eff (.ld false 1) (.cons (.op (.fld 2) (.cons (.inp 2) .nil)) .nil) (.eff (.call 37) (.cons (.inp 6) (.cons (.bv 2) .nil)) (.chk none (.bin .eql) (.cons (.op (.cal 10) (.cons (.bv 1) .nil)) (.cons (.bv 3) .nil)) (.bnd (.op (.bin .eql) (.cons (.op (.cal 10) (.cons (.bv 1) .nil)) (.cons (.bv 3) .nil))) (.chk (some ((.bv 4), true)) (.fld 2) (.cons (.inp 2) .nil) (.ite (.bv 4) true (.eff (.ld false 1) (.cons (.ite (.bv 4) true (.op (.fld 2) (.cons (.inp 2) .nil)) (.cst (.tuple #[]))) .nil) (.eff (.call 28) (.cons (.ite (.bv 4) true (.inp 0) (.cst (.tuple #[]))) (.cons (.ite (.bv 4) true (.inp 4) (.cst (.tuple #[]))) (.cons (.bv 5) .nil))) (.isb none (.bv 4) (.done [(3, (.bv 6))] none)))) (.isb none (.bv 4) (.done [(3, (.cst (.bool false)))] none)))))))))))))) .ret) Q env w := rfl
def h27_3 : HC := (.seq (.reg (.chk (some ((.inp 12), true)) (.fld 2) (.cons (.inp 2) .nil) (.ite (.inp 12) true (.eff (.ld false 1) (.cons (.ite (.inp 12) true (.op (.fld 2) (.cons (.inp 2) .nil)) (.cst (.tuple #[]))) .nil) (.eff (.call 28) (.cons (.ite (.inp 12) true (.inp 0) (.cst (.tuple #[]))) (.cons (.ite (.inp 12) true (.inp 4) (.cst (.tuple #[]))) (.cons (.bv 0) .nil))) (.isb none (.inp 12) (.done [(3, (.bv 1))] none)))) (.isb none (.inp 12) (.done [(3, (.cst (.bool false)))] none))))) .ret)
@[simp] theorem h27_3_wp {P : Program} {F : PF P} {Q : EX → List Value → World → Prop} {env : List Value} {w : World} : h27_3.wp F Q env w = HC.wp F (.seq (.reg (.chk (some ((.inp 12), true)) (.fld 2) (.cons (.inp 2) .nil) (.ite (.inp 12) true (.eff (.ld false 1) (.cons (.ite (.inp 12) true (.op (.fld 2) (.cons (.inp 2) .nil)) (.cst (.tuple #[]))) .nil) (.eff (.call 28) (.cons (.ite (.inp 12) true (.inp 0) (.cst (.tuple #[]))) (.cons (.ite (.inp 12) true (.inp 4) (.cst (.tuple #[]))) (.cons (.bv 0) .nil))) (.isb none (.inp 12) (.done [(3, (.bv 1))] none)))) (.isb none (.inp 12) (.done [(3, (.cst (.bool false)))] none))))) .ret) Q env w := rfl
def h27_4 : HC := (.seq (.reg (.eff (.call 19) (.cons (.inp 8) .nil) (.done [] none))) h27_3)
@[simp] theorem h27_4_wp {P : Program} {F : PF P} {Q : EX → List Value → World → Prop} {env : List Value} {w : World} : h27_4.wp F Q env w = HC.wp F (.seq (.reg (.eff (.call 19) (.cons (.inp 8) .nil) (.done [] none))) h27_3) Q env w := rfl
def h27_5 : HC := (.seq (.reg (.chk none (.cal 10) (.cons (.inp 9) .nil) (.chk none (.bin .eql) (.cons (.op (.cal 10) (.cons (.inp 9) .nil)) (.cons (.inp 11) .nil)) (.bnd (.op (.bin .eql) (.cons (.op (.cal 10) (.cons (.inp 9) .nil)) (.cons (.inp 11) .nil))) (.ite (.bv 0) true (.eff (.call 39) (.cons (.ite (.bv 0) true (.inp 8) (.cst (.tuple #[]))) (.cons (.ite (.bv 0) true (.inp 10) (.cst (.tuple #[]))) .nil)) (.isb none (.bv 0) (.done [(12, (.bv 1))] none))) (.isb none (.bv 0) (.done [(12, (.cst (.bool false)))] none))))))) h27_4)
@[simp] theorem h27_5_wp {P : Program} {F : PF P} {Q : EX → List Value → World → Prop} {env : List Value} {w : World} : h27_5.wp F Q env w = HC.wp F (.seq (.reg (.chk none (.cal 10) (.cons (.inp 9) .nil) (.chk none (.bin .eql) (.cons (.op (.cal 10) (.cons (.inp 9) .nil)) (.cons (.inp 11) .nil)) (.bnd (.op (.bin .eql) (.cons (.op (.cal 10) (.cons (.inp 9) .nil)) (.cons (.inp 11) .nil))) (.ite (.bv 0) true (.eff (.call 39) (.cons (.ite (.bv 0) true (.inp 8) (.cst (.tuple #[]))) (.cons (.ite (.bv 0) true (.inp 10) (.cst (.tuple #[]))) .nil)) (.isb none (.bv 0) (.done [(12, (.bv 1))] none))) (.isb none (.bv 0) (.done [(12, (.cst (.bool false)))] none))))))) h27_4) Q env w := rfl
def h27_6 : HC := (.seq (.reg (.eff (.call 38) (.cons (.inp 6) (.cons (.inp 7) .nil)) (.chk none (.ext 0) (.cons (.bv 0) .nil) (.chk none (.ext 1) (.cons (.bv 0) .nil) (.done [(10, (.op (.ext 0) (.cons (.bv 0) .nil))), (11, (.op (.ext 1) (.cons (.bv 0) .nil)))] none))))) h27_5)
@[simp] theorem h27_6_wp {P : Program} {F : PF P} {Q : EX → List Value → World → Prop} {env : List Value} {w : World} : h27_6.wp F Q env w = HC.wp F (.seq (.reg (.eff (.call 38) (.cons (.inp 6) (.cons (.inp 7) .nil)) (.chk none (.ext 0) (.cons (.bv 0) .nil) (.chk none (.ext 1) (.cons (.bv 0) .nil) (.done [(10, (.op (.ext 0) (.cons (.bv 0) .nil))), (11, (.op (.ext 1) (.cons (.bv 0) .nil)))] none))))) h27_5) Q env w := rfl
def h27_7 : HC := (.seq (.reg (.eff (.call 14) (.cons (.inp 5) (.cons (.inp 7) .nil)) (.chk none (.ext 0) (.cons (.bv 0) .nil) (.chk none (.ext 1) (.cons (.bv 0) .nil) (.done [(8, (.op (.ext 0) (.cons (.bv 0) .nil))), (9, (.op (.ext 1) (.cons (.bv 0) .nil)))] none))))) h27_6)
@[simp] theorem h27_7_wp {P : Program} {F : PF P} {Q : EX → List Value → World → Prop} {env : List Value} {w : World} : h27_7.wp F Q env w = HC.wp F (.seq (.reg (.eff (.call 14) (.cons (.inp 5) (.cons (.inp 7) .nil)) (.chk none (.ext 0) (.cons (.bv 0) .nil) (.chk none (.ext 1) (.cons (.bv 0) .nil) (.done [(8, (.op (.ext 0) (.cons (.bv 0) .nil))), (9, (.op (.ext 1) (.cons (.bv 0) .nil)))] none))))) h27_6) Q env w := rfl
def h27_8 : HC := (.seq (.reg (.eff (.call 40) (.cons (.inp 0) (.cons (.inp 4) (.cons (.inp 7) (.cons (.cst (.slice none 0 0)) .nil)))) (.done [(3, (.bv 0))] none))) .ret)
@[simp] theorem h27_8_wp {P : Program} {F : PF P} {Q : EX → List Value → World → Prop} {env : List Value} {w : World} : h27_8.wp F Q env w = HC.wp F (.seq (.reg (.eff (.call 40) (.cons (.inp 0) (.cons (.inp 4) (.cons (.inp 7) (.cons (.cst (.slice none 0 0)) .nil)))) (.done [(3, (.bv 0))] none))) .ret) Q env w := rfl
def h27_9 : HC := (.seq (.regq (some 2) (.chk none .chkp (.cons (.inp 6) .nil) (.chk none (.fld 0) (.cons (.op .chkp (.cons (.inp 6) .nil)) .nil) (.eff (.ld false 1) (.cons (.op (.fld 0) (.cons (.op .chkp (.cons (.inp 6) .nil)) .nil)) .nil) (.eff (.call 20) (.cons (.inp 5) .nil) (.eff (.call 40) (.cons (.inp 0) (.cons (.inp 4) (.cons (.bv 0) (.cons (.bv 1) .nil)))) (.done [(3, (.bv 2))] none))))))) .ret)
@[simp] theorem h27_9_wp {P : Program} {F : PF P} {Q : EX → List Value → World → Prop} {env : List Value} {w : World} : h27_9.wp F Q env w = HC.wp F (.seq (.regq (some 2) (.chk none .chkp (.cons (.inp 6) .nil) (.chk none (.fld 0) (.cons (.op .chkp (.cons (.inp 6) .nil)) .nil) (.eff (.ld false 1) (.cons (.op (.fld 0) (.cons (.op .chkp (.cons (.inp 6) .nil)) .nil)) .nil) (.eff (.call 20) (.cons (.inp 5) .nil) (.eff (.call 40) (.cons (.inp 0) (.cons (.inp 4) (.cons (.bv 0) (.cons (.bv 1) .nil)))) (.done [(3, (.bv 2))] none))))))) .ret) Q env w := rfl
def h27_10 : HC := (.br (.chk none (.eqNil true (.pointer 91) (.pointer none)) (.cons (.inp 6) .nil) (.done [] (some (.op (.eqNil true (.pointer 91) (.pointer none)) (.cons (.inp 6) .nil))))) h27_9 .skip)
@[simp] theorem h27_10_wp {P : Program} {F : PF P} {Q : EX → List Value → World → Prop} {env : List Value} {w : World} : h27_10.wp F Q env w = HC.wp F (.br (.chk none (.eqNil true (.pointer 91) (.pointer none)) (.cons (.inp 6) .nil) (.done [] (some (.op (.eqNil true (.pointer 91) (.pointer none)) (.cons (.inp 6) .nil))))) h27_9 .skip) Q env w := rfl
def h27_11 : HC := (.seq (.reg (.chk none (.fld 4) (.cons (.inp 2) .nil) (.eff (.ld false 1) (.cons (.op (.fld 4) (.cons (.inp 2) .nil)) .nil) (.eff (.call 40) (.cons (.inp 0) (.cons (.inp 4) (.cons (.inp 7) (.cons (.bv 0) .nil)))) (.done [(3, (.bv 1))] none))))) .ret)
@[simp] theorem h27_11_wp {P : Program} {F : PF P} {Q : EX → List Value → World → Prop} {env : List Value} {w : World} : h27_11.wp F Q env w = HC.wp F (.seq (.reg (.chk none (.fld 4) (.cons (.inp 2) .nil) (.eff (.ld false 1) (.cons (.op (.fld 4) (.cons (.inp 2) .nil)) .nil) (.eff (.call 40) (.cons (.inp 0) (.cons (.inp 4) (.cons (.inp 7) (.cons (.bv 0) .nil)))) (.done [(3, (.bv 1))] none))))) .ret) Q env w := rfl
def h27_12 : HC := (.br (.chk none (.bin .eql) (.cons (.inp 13) (.cons (.cst (.int .i64 8)) .nil)) (.done [] (some (.op (.bin .eql) (.cons (.inp 13) (.cons (.cst (.int .i64 8)) .nil)))))) h27_11 .skip)
@[simp] theorem h27_12_wp {P : Program} {F : PF P} {Q : EX → List Value → World → Prop} {env : List Value} {w : World} : h27_12.wp F Q env w = HC.wp F (.br (.chk none (.bin .eql) (.cons (.inp 13) (.cons (.cst (.int .i64 8)) .nil)) (.done [] (some (.op (.bin .eql) (.cons (.inp 13) (.cons (.cst (.int .i64 8)) .nil)))))) h27_11 .skip) Q env w := rfl
def h27_13 : HC := (.br (.chk none (.bin .eql) (.cons (.inp 13) (.cons (.cst (.int .i64 7)) .nil)) (.done [] (some (.op (.bin .eql) (.cons (.inp 13) (.cons (.cst (.int .i64 7)) .nil)))))) h27_10 h27_12)
@[simp] theorem h27_13_wp {P : Program} {F : PF P} {Q : EX → List Value → World → Prop} {env : List Value} {w : World} : h27_13.wp F Q env w = HC.wp F (.br (.chk none (.bin .eql) (.cons (.inp 13) (.cons (.cst (.int .i64 7)) .nil)) (.done [] (some (.op (.bin .eql) (.cons (.inp 13) (.cons (.cst (.int .i64 7)) .nil)))))) h27_10 h27_12) Q env w := rfl
def h27_14 : HC := (.br (.chk none (.bin .eql) (.cons (.inp 13) (.cons (.cst (.int .i64 6)) .nil)) (.done [] (some (.op (.bin .eql) (.cons (.inp 13) (.cons (.cst (.int .i64 6)) .nil)))))) h27_8 h27_13)
@[simp] theorem h27_14_wp {P : Program} {F : PF P} {Q : EX → List Value → World → Prop} {env : List Value} {w : World} : h27_14.wp F Q env w = HC.wp F (.br (.chk none (.bin .eql) (.cons (.inp 13) (.cons (.cst (.int .i64 6)) .nil)) (.done [] (some (.op (.bin .eql) (.cons (.inp 13) (.cons (.cst (.int .i64 6)) .nil)))))) h27_8 h27_13) Q env w := rfl
def h27_15 : HC := (.cnd 15 h27_7 h27_14)
@[simp] theorem h27_15_wp {P : Program} {F : PF P} {Q : EX → List Value → World → Prop} {env : List Value} {w : World} : h27_15.wp F Q env w = HC.wp F (.cnd 15 h27_7 h27_14) Q env w := rfl
def h27_16 : HC := (.reg (.chk none (.bin .eql) (.cons (.inp 13) (.cons (.cst (.int .i64 4)) .nil)) (.done [(15, (.op (.bin .eql) (.cons (.inp 13) (.cons (.cst (.int .i64 4)) .nil))))] none)))
@[simp] theorem h27_16_wp {P : Program} {F : PF P} {Q : EX → List Value → World → Prop} {env : List Value} {w : World} : h27_16.wp F Q env w = HC.wp F (.reg (.chk none (.bin .eql) (.cons (.inp 13) (.cons (.cst (.int .i64 4)) .nil)) (.done [(15, (.op (.bin .eql) (.cons (.inp 13) (.cons (.cst (.int .i64 4)) .nil))))] none))) Q env w := rfl
def h27_17 : HC := (.seq (.cnd 15 .skip h27_16) h27_15)
@[simp] theorem h27_17_wp {P : Program} {F : PF P} {Q : EX → List Value → World → Prop} {env : List Value} {w : World} : h27_17.wp F Q env w = HC.wp F (.seq (.cnd 15 .skip h27_16) h27_15) Q env w := rfl
def h27_18 : HC := (.seq (.reg (.chk none (.bin .eql) (.cons (.inp 13) (.cons (.cst (.int .i64 3)) .nil)) (.done [(15, (.op (.bin .eql) (.cons (.inp 13) (.cons (.cst (.int .i64 3)) .nil))))] none))) h27_17)
@[simp] theorem h27_18_wp {P : Program} {F : PF P} {Q : EX → List Value → World → Prop} {env : List Value} {w : World} : h27_18.wp F Q env w = HC.wp F (.seq (.reg (.chk none (.bin .eql) (.cons (.inp 13) (.cons (.cst (.int .i64 3)) .nil)) (.done [(15, (.op (.bin .eql) (.cons (.inp 13) (.cons (.cst (.int .i64 3)) .nil))))] none))) h27_17) Q env w := rfl
def h27_19 : HC := (.br (.chk none (.bin .eql) (.cons (.inp 13) (.cons (.cst (.int .i64 2)) .nil)) (.done [] (some (.op (.bin .eql) (.cons (.inp 13) (.cons (.cst (.int .i64 2)) .nil)))))) h27_2 h27_18)
@[simp] theorem h27_19_wp {P : Program} {F : PF P} {Q : EX → List Value → World → Prop} {env : List Value} {w : World} : h27_19.wp F Q env w = HC.wp F (.br (.chk none (.bin .eql) (.cons (.inp 13) (.cons (.cst (.int .i64 2)) .nil)) (.done [] (some (.op (.bin .eql) (.cons (.inp 13) (.cons (.cst (.int .i64 2)) .nil)))))) h27_2 h27_18) Q env w := rfl
def h27_20 : HC := (.cnd 14 h27_1 h27_19)
@[simp] theorem h27_20_wp {P : Program} {F : PF P} {Q : EX → List Value → World → Prop} {env : List Value} {w : World} : h27_20.wp F Q env w = HC.wp F (.cnd 14 h27_1 h27_19) Q env w := rfl
def h27_21 : HC := (.reg (.chk none (.bin .eql) (.cons (.inp 13) (.cons (.cst (.int .i64 5)) .nil)) (.done [(14, (.op (.bin .eql) (.cons (.inp 13) (.cons (.cst (.int .i64 5)) .nil))))] none)))
@[simp] theorem h27_21_wp {P : Program} {F : PF P} {Q : EX → List Value → World → Prop} {env : List Value} {w : World} : h27_21.wp F Q env w = HC.wp F (.reg (.chk none (.bin .eql) (.cons (.inp 13) (.cons (.cst (.int .i64 5)) .nil)) (.done [(14, (.op (.bin .eql) (.cons (.inp 13) (.cons (.cst (.int .i64 5)) .nil))))] none))) Q env w := rfl
def h27_22 : HC := (.seq (.cnd 14 .skip h27_21) h27_20)
@[simp] theorem h27_22_wp {P : Program} {F : PF P} {Q : EX → List Value → World → Prop} {env : List Value} {w : World} : h27_22.wp F Q env w = HC.wp F (.seq (.cnd 14 .skip h27_21) h27_20) Q env w := rfl
def h27_23 : HC := (.seq (.reg (.chk none (.bin .eql) (.cons (.inp 13) (.cons (.cst (.int .i64 1)) .nil)) (.done [(14, (.op (.bin .eql) (.cons (.inp 13) (.cons (.cst (.int .i64 1)) .nil))))] none))) h27_22)
@[simp] theorem h27_23_wp {P : Program} {F : PF P} {Q : EX → List Value → World → Prop} {env : List Value} {w : World} : h27_23.wp F Q env w = HC.wp F (.seq (.reg (.chk none (.bin .eql) (.cons (.inp 13) (.cons (.cst (.int .i64 1)) .nil)) (.done [(14, (.op (.bin .eql) (.cons (.inp 13) (.cons (.cst (.int .i64 1)) .nil))))] none))) h27_22) Q env w := rfl
def h27_24 : HC := (.seq (.block 0 h27_23) h27_0)
@[simp] theorem h27_24_wp {P : Program} {F : PF P} {Q : EX → List Value → World → Prop} {env : List Value} {w : World} : h27_24.wp F Q env w = HC.wp F (.seq (.block 0 h27_23) h27_0) Q env w := rfl
def h27_25 : HC := (.seq (.reg (.chk none (.fld 0) (.cons (.inp 2) .nil) (.eff (.ld false 1) (.cons (.op (.fld 0) (.cons (.inp 2) .nil)) .nil) (.done [(13, (.bv 0))] none)))) h27_24)
@[simp] theorem h27_25_wp {P : Program} {F : PF P} {Q : EX → List Value → World → Prop} {env : List Value} {w : World} : h27_25.wp F Q env w = HC.wp F (.seq (.reg (.chk none (.fld 0) (.cons (.inp 2) .nil) (.eff (.ld false 1) (.cons (.op (.fld 0) (.cons (.inp 2) .nil)) .nil) (.done [(13, (.bv 0))] none)))) h27_24) Q env w := rfl
def h27_26 : HC := (.regq (some 0) (.chk none .chkp (.cons (.inp 6) .nil) (.chk none (.fld 0) (.cons (.op .chkp (.cons (.inp 6) .nil)) .nil) (.eff (.ld false 1) (.cons (.op (.fld 0) (.cons (.op .chkp (.cons (.inp 6) .nil)) .nil)) .nil) (.chk none (.fld 3) (.cons (.inp 2) .nil) (.eff (.ld false 1) (.cons (.op (.fld 3) (.cons (.inp 2) .nil)) .nil) (.chk none (.bin .add) (.cons (.bv 0) (.cons (.bv 1) .nil)) (.done [(7, (.op (.bin .add) (.cons (.bv 0) (.cons (.bv 1) .nil))))] none))))))))
@[simp] theorem h27_26_wp {P : Program} {F : PF P} {Q : EX → List Value → World → Prop} {env : List Value} {w : World} : h27_26.wp F Q env w = HC.wp F (.regq (some 0) (.chk none .chkp (.cons (.inp 6) .nil) (.chk none (.fld 0) (.cons (.op .chkp (.cons (.inp 6) .nil)) .nil) (.eff (.ld false 1) (.cons (.op (.fld 0) (.cons (.op .chkp (.cons (.inp 6) .nil)) .nil)) .nil) (.chk none (.fld 3) (.cons (.inp 2) .nil) (.eff (.ld false 1) (.cons (.op (.fld 3) (.cons (.inp 2) .nil)) .nil) (.chk none (.bin .add) (.cons (.bv 0) (.cons (.bv 1) .nil)) (.done [(7, (.op (.bin .add) (.cons (.bv 0) (.cons (.bv 1) .nil))))] none)))))))) Q env w := rfl
def h27_27 : HC := (.seq (.br (.chk none (.eqNil true (.pointer 91) (.pointer none)) (.cons (.inp 6) .nil) (.bnd (.op (.eqNil true (.pointer 91) (.pointer none)) (.cons (.inp 6) .nil)) (.chk (some ((.bv 0), true)) (.fld 0) (.cons (.inp 2) .nil) (.ite (.bv 0) true (.eff (.ld false 1) (.cons (.ite (.bv 0) true (.op (.fld 0) (.cons (.inp 2) .nil)) (.cst (.tuple #[]))) .nil) (.chk none (.bin .eql) (.cons (.bv 1) (.cons (.cst (.int .i64 4)) .nil)) (.bnd (.op (.bin .eql) (.cons (.bv 1) (.cons (.cst (.int .i64 4)) .nil))) (.chk (some ((.bv 2), false)) (.fld 0) (.cons (.inp 2) .nil) (.ite (.bv 2) false (.eff (.ld false 1) (.cons (.ite (.bv 2) false (.op (.fld 0) (.cons (.inp 2) .nil)) (.cst (.tuple #[]))) .nil) (.chk none (.bin .eql) (.cons (.bv 3) (.cons (.cst (.int .i64 5)) .nil)) (.isb none (.bv 2) (.isb none (.bv 0) (.done [] (some (.op (.bin .eql) (.cons (.bv 3) (.cons (.cst (.int .i64 5)) .nil))))))))) (.isb none (.bv 2) (.isb none (.bv 0) (.done [] (some (.cst (.bool true))))))))))) (.isb none (.bv 0) (.done [] (some (.cst (.bool false))))))))) h27_26 .skip) h27_25)
@[simp] theorem h27_27_wp {P : Program} {F : PF P} {Q : EX → List Value → World → Prop} {env : List Value} {w : World} : h27_27.wp F Q env w = HC.wp F (.seq (.br (.chk none (.eqNil true (.pointer 91) (.pointer none)) (.cons (.inp 6) .nil) (.bnd (.op (.eqNil true (.pointer 91) (.pointer none)) (.cons (.inp 6) .nil)) (.chk (some ((.bv 0), true)) (.fld 0) (.cons (.inp 2) .nil) (.ite (.bv 0) true (.eff (.ld false 1) (.cons (.ite (.bv 0) true (.op (.fld 0) (.cons (.inp 2) .nil)) (.cst (.tuple #[]))) .nil) (.chk none (.bin .eql) (.cons (.bv 1) (.cons (.cst (.int .i64 4)) .nil)) (.bnd (.op (.bin .eql) (.cons (.bv 1) (.cons (.cst (.int .i64 4)) .nil))) (.chk (some ((.bv 2), false)) (.fld 0) (.cons (.inp 2) .nil) (.ite (.bv 2) false (.eff (.ld false 1) (.cons (.ite (.bv 2) false (.op (.fld 0) (.cons (.inp 2) .nil)) (.cst (.tuple #[]))) .nil) (.chk none (.bin .eql) (.cons (.bv 3) (.cons (.cst (.int .i64 5)) .nil)) (.isb none (.bv 2) (.isb none (.bv 0) (.done [] (some (.op (.bin .eql) (.cons (.bv 3) (.cons (.cst (.int .i64 5)) .nil))))))))) (.isb none (.bv 2) (.isb none (.bv 0) (.done [] (some (.cst (.bool true))))))))))) (.isb none (.bv 0) (.done [] (some (.cst (.bool false))))))))) h27_26 .skip) h27_25) Q env w := rfl
def h27_28 : HC := (.seq (.reg (.chk none (.fld 3) (.cons (.inp 2) .nil) (.eff (.ld false 1) (.cons (.op (.fld 3) (.cons (.inp 2) .nil)) .nil) (.done [(7, (.bv 0))] none)))) h27_27)
@[simp] theorem h27_28_wp {P : Program} {F : PF P} {Q : EX → List Value → World → Prop} {env : List Value} {w : World} : h27_28.wp F Q env w = HC.wp F (.seq (.reg (.chk none (.fld 3) (.cons (.inp 2) .nil) (.eff (.ld false 1) (.cons (.op (.fld 3) (.cons (.inp 2) .nil)) .nil) (.done [(7, (.bv 0))] none)))) h27_27) Q env w := rfl
def h27_29 : HC := (.seq (.regq (some 0) (.chk none .chkp (.cons (.inp 0) .nil) (.chk none (.fld 0) (.cons (.op .chkp (.cons (.inp 0) .nil)) .nil) (.chk none (.idxP 3 1) (.cons (.op (.fld 0) (.cons (.op .chkp (.cons (.inp 0) .nil)) .nil)) (.cons (.inp 4) .nil)) (.eff (.ld false 1) (.cons (.op (.idxP 3 1) (.cons (.op (.fld 0) (.cons (.op .chkp (.cons (.inp 0) .nil)) .nil)) (.cons (.inp 4) .nil))) .nil) (.chk none .chkp (.cons (.inp 0) .nil) (.chk none (.fld 3) (.cons (.op .chkp (.cons (.inp 0) .nil)) .nil) (.chk none (.idxP 3 1) (.cons (.op (.fld 3) (.cons (.op .chkp (.cons (.inp 0) .nil)) .nil)) (.cons (.inp 4) .nil)) (.eff (.ld false 1) (.cons (.op (.idxP 3 1) (.cons (.op (.fld 3) (.cons (.op .chkp (.cons (.inp 0) .nil)) .nil)) (.cons (.inp 4) .nil))) .nil) (.done [(5, (.bv 0)), (6, (.bv 1))] none)))))))))) h27_28)
@[simp] theorem h27_29_wp {P : Program} {F : PF P} {Q : EX → List Value → World → Prop} {env : List Value} {w : World} : h27_29.wp F Q env w = HC.wp F (.seq (.regq (some 0) (.chk none .chkp (.cons (.inp 0) .nil) (.chk none (.fld 0) (.cons (.op .chkp (.cons (.inp 0) .nil)) .nil) (.chk none (.idxP 3 1) (.cons (.op (.fld 0) (.cons (.op .chkp (.cons (.inp 0) .nil)) .nil)) (.cons (.inp 4) .nil)) (.eff (.ld false 1) (.cons (.op (.idxP 3 1) (.cons (.op (.fld 0) (.cons (.op .chkp (.cons (.inp 0) .nil)) .nil)) (.cons (.inp 4) .nil))) .nil) (.chk none .chkp (.cons (.inp 0) .nil) (.chk none (.fld 3) (.cons (.op .chkp (.cons (.inp 0) .nil)) .nil) (.chk none (.idxP 3 1) (.cons (.op (.fld 3) (.cons (.op .chkp (.cons (.inp 0) .nil)) .nil)) (.cons (.inp 4) .nil)) (.eff (.ld false 1) (.cons (.op (.idxP 3 1) (.cons (.op (.fld 3) (.cons (.op .chkp (.cons (.inp 0) .nil)) .nil)) (.cons (.inp 4) .nil))) .nil) (.done [(5, (.bv 0)), (6, (.bv 1))] none)))))))))) h27_28) Q env w := rfl
def h27_30 : HC := (.seq (.reg (.chk none (.fld 1) (.cons (.inp 2) .nil) (.eff (.ld false 1) (.cons (.op (.fld 1) (.cons (.inp 2) .nil)) .nil) (.chk none (.cal 8) (.cons (.bv 0) (.cons (.cst (.int .i64 3)) .nil)) (.done [(4, (.op (.cal 8) (.cons (.bv 0) (.cons (.cst (.int .i64 3)) .nil))))] none))))) h27_29)
@[simp] theorem h27_30_wp {P : Program} {F : PF P} {Q : EX → List Value → World → Prop} {env : List Value} {w : World} : h27_30.wp F Q env w = HC.wp F (.seq (.reg (.chk none (.fld 1) (.cons (.inp 2) .nil) (.eff (.ld false 1) (.cons (.op (.fld 1) (.cons (.inp 2) .nil)) .nil) (.chk none (.cal 8) (.cons (.bv 0) (.cons (.cst (.int .i64 3)) .nil)) (.done [(4, (.op (.cal 8) (.cons (.bv 0) (.cons (.cst (.int .i64 3)) .nil))))] none))))) h27_29) Q env w := rfl
def l27 : Lifted := ⟨[0, 1, 3, 4, 5, 6, 7, 8, 9, 10, 11, 12, 13, 51, 52, 93], 159, [.slot 3], (.seq (.reg (.eff (.box 68) (.cons (.inp 1) .nil) (.done [(2, (.bv 0)), (3, (.cst (.bool false)))] none))) h27_30)⟩
theorem l27_ok : liftFn U2 27 400 = some l27 := by kernel_rfl


/-- a step: its numbers, its list -/
structure So where
  k : Int
  who : Int
  n : Int
  a : Int
  v : Value
  l : List (Int × Int)
def So.cs (o : So) : List Value := [.int .i64 o.k, .int .i64 o.who, .int .i64 o.n, .int .i64 o.a, o.v]
abbrev soA (b : Nat) (o : So) : Asn := pt b (.cells o.cs.toArray 68 (0, 0))
def stpC (S S1 S2 S3 : World → Prop) (R1 R2 : Value) : List Value → World → Prop
  | [], w => S w
  | [r], w => r = R1 ∧ S1 w
  | [_, r], w => r = R2 ∧ S2 w
  | [_, _, r], w => r = .bool true ∧ S3 w
  | _, _ => False
def frQ (S : World → Prop) (S1 : Value → World → Prop) (S2 : World → Prop) : List Value → World → Prop
  | [], w => S w
  | [r], w => S1 r w
  | [_, r], w => r = .bool true ∧ S2 w
  | _, _ => False
abbrev QD (d M : Nat) (w0 : World) (A : Asn) : EX → List Value → World → Prop := endQ Try.prog [.slot 3] fun r w' => r = .bool true ∧ ∃ T', okT (M + 65536) T' ∧ St w0 (A * deskA d T') w'
theorem step_fin {d k : Nat} {T : Nat → Option Sw} {x : Option Sw} {M : Nat} {w0 w : World} {A : Asn} (hk : k < 3) (hT : okT M T) (hx : nxt (M + 65536) (T k) x) (s : St w0 (A * DK d T k * slS x) w) : ∃ T', okT (M + 65536) T' ∧ St w0 (A * deskA d T') w := by
  refine ⟨upF T k x, (hT.mono (by omega)).up hx.ok (fun e => ?_), ?_⟩
  · subst e
    have := hx.w
    rw [hT.two] at this
    cases x with
    | none => rfl
    | some y => cases this
  · rw [desk_up hk hx.w hx.r]
    exact s.to (sep_assoc _ _ _)
theorem nxt.mono {M M' : Nat} {x x' : Option Sw} (h : nxt M x x') (hm : M ≤ M') : nxt M' x x' := ⟨h.ok.mono hm, h.w, h.r⟩
set_option maxHeartbeats 1000000 in
theorem sch_step (d k M b : Nat) (T : Nat → Option Sw) (o : So) (a7 : Int) (w0 w : World) (A : Asn) (x1 x8 x9 x10 x11 x12 x13 x14 x15 : Value) (hk : k < 3) (hT : okT M T) (hM : M + 65536 ≤ 1152921504606846976) (s : St w0 (A * DK d T k * soA b o * slS (T k)) w) :
    h27_1.wp U2 (blockQ 0 (seqQ U2 h27_0 (QD d M w0 A))) [.pointer (some ⟨d, 0, none⟩), x1, .pointer (some ⟨b, 0, none⟩), .bool false, .int .i64 k, wvS (T k), rvS (T k), .int .i64 a7, x8, x9, x10, x11, x12, x13, x14, x15] w := by
  have hx := hT.ok k hk
  simp
  refine regmI (stpC (St w0 (A * DK d T k * soA b o * slS (T k))) (St w0 (A * DK d T k * soA b o * hSch (T k) o.n a7)) (St w0 (A * DK d T k * soA b o * nxA M (T k))) (St w0 (A * DK d T k * soA b o * nxA M (T k))) (.int .i64 (eSch (T k) o.n a7)) (.int .i64 (eSch (T k) o.n a7))) s.drew ?_
  have ncell : ∀ {F} {w}, St w0 (A * DK d T k * soA b o * F) w → w.cell? ⟨b, 2, none⟩ = some (.int .i64 o.n) := fun sw => sw.drop.row_cells 2 _ rfl
  have look : ∀ vs vs' w, vs.length < 3 → era 3 vs' = era 3 vs → stpC (St w0 (A * DK d T k * soA b o * slS (T k))) (St w0 (A * DK d T k * soA b o * hSch (T k) o.n a7)) (St w0 (A * DK d T k * soA b o * nxA M (T k))) (St w0 (A * DK d T k * soA b o * nxA M (T k))) (.int .i64 (eSch (T k) o.n a7)) (.int .i64 (eSch (T k) o.n a7)) vs' w → w.cell? ⟨b, 2, none⟩ = some (.int .i64 o.n) := by
    intro vs vs' w hv he hw
    match vs', hw with
    | [], hw => exact ncell hw
    | [_], hw => exact ncell hw.2
    | [_, _], hw => exact ncell hw.2
    | [_, _, _], hw => simp [era] at he; omega
  simp
  refine effm_ldc (v := .int .i64 o.n) (fun vs' w he hw => look [] vs' w (by simp) he hw) ?_
  simp
  refine effm_mv rfl (fun w hw => eff_call (oSch (T k) M o.n a7 w0 w _ hx hw)) (fun r1 h1 => ?_)
  obtain ⟨_, rfl, _⟩ := h1
  simp
  refine effm_ldc (v := .int .i64 o.n) (fun vs' w he hw => look [_] vs' w (by simp) he hw) ?_
  simp
  refine effm_mv rfl (fun w hw => eff_call (orSch (T k) M o.n a7 w0 w _ hx (And.right hw))) (fun r2 h2 => ?_)
  obtain ⟨_, rfl, _⟩ := h2
  simp
  refine effm_ldc (v := .int .i64 o.n) (fun vs' w he hw => look [_, _] vs' w (by simp) he hw) ?_
  simp
  refine effm_mv rfl (fun w hw => ?_) (fun r3 h3 => ?_)
  · obtain ⟨x', hx', sw⟩ := nx_open (And.right hw)
    refine eff_call ((looks_spec d k T x' M o.n w0 w (A * soA b o) hk hx' (by omega) (sw.to (by ac_rfl))).mono fun r w' h => ⟨h.1, nx_mk hx' (h.2.to (by ac_rfl))⟩)
  obtain ⟨_, rfl, _⟩ := h3
  simp
  intro w9 h9
  obtain ⟨x', hx', sw⟩ := nx_open h9.2
  exact step_fin hk hT (hx'.mono (by omega)) (St.cut (soA b o) sw (by ac_rfl))
set_option maxHeartbeats 1000000 in
theorem can_step (d k M b : Nat) (T : Nat → Option Sw) (o : So) (a7 : Int) (w0 w : World) (A : Asn) (x1 x8 x9 x10 x11 x12 x13 x14 x15 : Value) (hk : k < 3) (hT : okT M T) (hM : M + 65536 ≤ 1152921504606846976) (s : St w0 (A * DK d T k * soA b o * slS (T k)) w) :
    h27_2.wp U2 (blockQ 0 (seqQ U2 h27_0 (QD d M w0 A))) [.pointer (some ⟨d, 0, none⟩), x1, .pointer (some ⟨b, 0, none⟩), .bool false, .int .i64 k, wvS (T k), rvS (T k), .int .i64 a7, x8, x9, x10, x11, x12, x13, x14, x15] w := by
  have hx := hT.ok k hk
  simp
  refine regmI (stpC (St w0 (A * DK d T k * soA b o * slS (T k))) (St w0 (A * DK d T k * soA b o * hCan (T k) o.n)) (St w0 (A * DK d T k * soA b o * nxA M (T k))) (St w0 (A * DK d T k * soA b o * nxA M (T k))) (.int .i64 (eCan (T k) o.n)) (.int .i64 (eCan (T k) o.n))) s.drew ?_
  have ncell : ∀ {F} {w}, St w0 (A * DK d T k * soA b o * F) w → w.cell? ⟨b, 2, none⟩ = some (.int .i64 o.n) := fun sw => sw.drop.row_cells 2 _ rfl
  have look : ∀ vs vs' w, vs.length < 3 → era 3 vs' = era 3 vs → stpC (St w0 (A * DK d T k * soA b o * slS (T k))) (St w0 (A * DK d T k * soA b o * hCan (T k) o.n)) (St w0 (A * DK d T k * soA b o * nxA M (T k))) (St w0 (A * DK d T k * soA b o * nxA M (T k))) (.int .i64 (eCan (T k) o.n)) (.int .i64 (eCan (T k) o.n)) vs' w → w.cell? ⟨b, 2, none⟩ = some (.int .i64 o.n) := by
    intro vs vs' w hv he hw
    match vs', hw with
    | [], hw => exact ncell hw
    | [_], hw => exact ncell hw.2
    | [_, _], hw => exact ncell hw.2
    | [_, _, _], hw => simp [era] at he; omega
  simp
  refine effm_ldc (v := .int .i64 o.n) (fun vs' w he hw => look [] vs' w (by simp) he hw) ?_
  simp
  refine effm_mv rfl (fun w hw => eff_call (oCan (T k) o.n w0 w _ hw)) (fun r1 h1 => ?_)
  obtain ⟨_, rfl, _⟩ := h1
  simp
  refine effm_ldc (v := .int .i64 o.n) (fun vs' w he hw => look [_] vs' w (by simp) he hw) ?_
  simp
  refine effm_mv rfl (fun w hw => eff_call (orCan (T k) M o.n w0 w _ hx (And.right hw))) (fun r2 h2 => ?_)
  obtain ⟨_, rfl, _⟩ := h2
  simp
  refine effm_ldc (v := .int .i64 o.n) (fun vs' w he hw => look [_, _] vs' w (by simp) he hw) ?_
  simp
  refine effm_mv rfl (fun w hw => ?_) (fun r3 h3 => ?_)
  · obtain ⟨x', hx', sw⟩ := nx_open (And.right hw)
    refine eff_call ((looks_spec d k T x' M o.n w0 w (A * soA b o) hk hx' (by omega) (sw.to (by ac_rfl))).mono fun r w' h => ⟨h.1, nx_mk hx' (h.2.to (by ac_rfl))⟩)
  obtain ⟨_, rfl, _⟩ := h3
  simp
  intro w9 h9
  obtain ⟨x', hx', sw⟩ := nx_open h9.2
  exact step_fin hk hT (hx'.mono (by omega)) (St.cut (soA b o) sw (by ac_rfl))
set_option maxHeartbeats 1000000 in
theorem adv_step (d k M b : Nat) (T : Nat → Option Sw) (o : So) (a7 : Int) (w0 w : World) (A : Asn) (x1 x8 x9 x10 x11 x12 x13 x14 x15 : Value) (hk : k < 3) (hT : okT M T) (hM : M + 65536 ≤ 1152921504606846976) (s : St w0 (A * DK d T k * soA b o * slS (T k)) w) :
    h27_7.wp U2 (blockQ 0 (seqQ U2 h27_0 (QD d M w0 A))) [.pointer (some ⟨d, 0, none⟩), x1, .pointer (some ⟨b, 0, none⟩), .bool false, .int .i64 k, wvS (T k), rvS (T k), .int .i64 a7, x8, x9, x10, x11, x12, x13, x14, x15] w := by
  have hx := hT.ok k hk
  have hv : (vAdv (T k) a7).length ≤ 65536 := by
    unfold vAdv
    cases hTk : T k with
    | none => simp
    | some x =>
      rw [hTk] at hx
      simp only
      split
      · have := outL_len a7.toNat x.ts
        have := hx.2.1
        omega
      · simp
  simp
  refine eff_call (oAdv (T k) M a7 w0 w (A * DK d T k * soA b o) hx (by omega) s fun va w1 s1 => ?_)
  simp
  refine eff_call (orAdv (T k) M a7 w0 w1 (A * DK d T k * soA b o * outs va (vAdv (T k) a7)) hx (by omega) (s1.to (by ac_rfl)) fun vb x' w2 hx' hw' hr' s2 => ?_)
  simp
  have nx : nxt (M + 65536) (T k) x' := ⟨hx', hw', hr'⟩
  refine eff_call ((timers_spec (vAdv (T k) a7) (vAdv (T k) a7) va vb w0 w2 _ (by omega) (row_outs s2 (B := A * DK d T k * soA b o * slS x' * routs vb (vAdv (T k) a7)) (by ac_rfl)) (row_own s2) s2).mono ?_)
  rintro r w3 ⟨rfl, s3⟩
  simp
  refine eff_call (spoilt_spec (vAdv (T k) a7) va w0 w3 (A * DK d T k * soA b o * slS x' * routs vb (vAdv (T k) a7)) (by omega) (s3.to (by ac_rfl)) fun r w4 s4 => ?_)
  have s5 := s4.drop.drop
  simp
  refine eff_ldc (v := .int .i64 o.n) (s5.drop.row_cells 2 _ rfl) ?_
  simp
  refine eff_call ((looks_spec d k T x' (M + 65536) o.n w0 w4 (A * soA b o) hk nx hM (s5.to (by ac_rfl))).mono ?_)
  rintro r w5 ⟨rfl, s6⟩
  simp
  exact step_fin hk hT nx (St.cut (soA b o) s6 (by ac_rfl))
theorem look_step (d k M b : Nat) (T : Nat → Option Sw) (o : So) (a7 : Int) (w0 w : World) (A : Asn) (x1 x8 x9 x10 x11 x12 x13 x14 x15 : Value) (hk : k < 3) (hT : okT M T) (hM : M + 65536 ≤ 1152921504606846976) (s : St w0 (A * DK d T k * soA b o * slS (T k)) w) :
    h27_0.wp U2 (QD d M w0 A) [.pointer (some ⟨d, 0, none⟩), x1, .pointer (some ⟨b, 0, none⟩), .bool false, .int .i64 k, wvS (T k), rvS (T k), .int .i64 a7, x8, x9, x10, x11, x12, x13, x14, x15] w := by
  have hx := hT.ok k hk
  have nx : nxt (M + 65536) (T k) (T k) := ⟨hx.mono (by omega), rfl, rfl⟩
  simp
  refine eff_ldc (v := .int .i64 o.n) (s.drop.row_cells 2 _ rfl) ?_
  simp
  refine eff_call ((looks_spec d k T (T k) (M + 65536) o.n w0 w (A * soA b o) hk nx hM (s.to (by ac_rfl))).mono ?_)
  rintro r w5 ⟨rfl, s6⟩
  simp
  exact step_fin hk hT nx (St.cut (soA b o) s6 (by ac_rfl))
theorem to_desk {d k b : Nat} {T : Nat → Option Sw} {o : So} {A : Asn} (hk : k < 3) {w0 w : World} (s : St w0 (A * DK d T k * soA b o * slS (T k)) w) : St w0 (A * soA b o * deskA d T) w := s.to (by rw [desk_at hk]; ac_rfl)
theorem from_step (d k M : Nat) (T : Nat → Option Sw) (o : So) (now : Int) (l : List (Int × Int)) (v : Value) (w0 w : World) (A F : Asn) (hk : k < 3) (hT : okT M T) (hl : l.length ≤ 1048576) (hrow : Row w0 (A * F) v l.length 2 (l.flatMap encT)) (s : St w0 (A * F * deskA d T) w) :
    CallW Try.prog 40 [.pointer (some ⟨d, 0, none⟩), .int .i64 k, .int .i64 now, v] (fun r w' => r = .bool true ∧ ∃ T', okT (M + 65536) T' ∧ St w0 (A * deskA d T') w') w :=
  (from_spec d k T M now l v w0 w (A * F) hk hT hl hrow s).mono fun r w' ⟨h1, T', h2, h3⟩ => ⟨h1, T', h2.mono (by omega), St.cut F h3 (by ac_rfl)⟩
set_option maxHeartbeats 4000000 in
theorem step_spec (d M : Nat) (T : Nat → Option Sw) (o : So) (w0 w : World) (A : Asn) (hT : okT M T) (hM : M + 65536 ≤ 1152921504606846976) (hl : o.l.length ≤ 1048576) (h1 : o.v.oneCell' = true) (hrow : Row w0 A o.v o.l.length 2 (o.l.flatMap encT)) (s : St w0 (A * deskA d T) w) :
    CallW Try.prog 27 [.pointer (some ⟨d, 0, none⟩), .agg o.cs.toArray] (fun r w' => r = .bool true ∧ ∃ T', okT (M + 65536) T' ∧ St w0 (A * deskA d T') w') w := by
  refine callW_of_lift l27_ok (by simp [l27]) ?_
  simp [l27]
  refine eff_box s ?_
  intro b w1 s1
  simp
  have s1 : St w0 (A * deskA d T * soA b o) w1 := s1
  refine eff_ldc (v := .int .i64 o.who) (s1.row_cells 1 _ rfl) ?_
  simp
  have hmx := emN_max o.who 3
  simp only [Int.cast_ofNat_Int] at hmx
  rw [hmx]
  have hk := emN_lt o.who (n := 3) (by decide)
  obtain ⟨k, hkd⟩ : ∃ k, emN o.who 3 = k := ⟨_, rfl⟩
  rw [hkd] at hk ⊢
  have hki : (k : Int) < 3 := by omega
  obtain ⟨c1, c2⟩ := dcs_at T hk
  have s2 : St w0 (A * DK d T k * soA b o * slS (T k)) w1 := s1.to (by rw [desk_at hk]; ac_rfl)
  clear s s1
  have cells : ∀ w, St w0 (A * DK d T k * soA b o * slS (T k)) w → w.cell? ⟨d, k, none⟩ = some (wvS (T k)) ∧ w.cell? ⟨d, 3 + k, none⟩ = some (rvS (T k)) := fun w sw => by
    have sw : St w0 (A * bigH (fun _ x => slS x) T k 3 * soA b o * slS (T k) * dkA d T) w := sw.to (by unfold DK; ac_rfl)
    have h1 := sw.row_cells k _ c1
    have h2 := sw.row_cells (3 + k) _ c2
    rw [Nat.zero_add] at h1 h2
    exact ⟨h1, h2⟩
  refine regqI s2 ?_
  simp [hki]
  refine effq_ldc (v := wvS (T k)) (fun w sw => (cells w sw).1) ?_
  simp [hki]
  refine effq_ldc (v := rvS (T k)) (fun w sw => (cells w sw).2) ?_
  simp
  intro w2 s3
  clear s2
  refine eff_ldc (v := .int .i64 o.a) (s3.drop.row_cells 3 _ rfl) ?_
  simp
  have body : ∀ (a7 : Int) (w3 : World), St w0 (A * DK d T k * soA b o * slS (T k)) w3 → HC.wp U2 h27_25 (QD d M w0 A) [.pointer (some ⟨d, 0, none⟩), .agg o.cs.toArray, .pointer (some ⟨b, 0, none⟩), .bool false, .int .i64 k, wvS (T k), rvS (T k), .int .i64 a7, undef, undef, undef, undef, undef, undef, undef, undef] w3 := by
    intro a7 w3 s4
    simp
    refine eff_ldc (v := .int .i64 o.k) (s4.drop.row_cells 0 _ rfl) ?_
    simp
    by_cases q1 : o.k = 1
    · simp [q1]
      have key := sch_step d k M b T o a7 w0 w3 A (.agg o.cs.toArray) undef undef undef undef undef (.int .i64 1) (.bool true) undef hk hT hM s4
      simpa using key
    by_cases q5 : o.k = 5
    · simp [q1, q5]
      have key := sch_step d k M b T o a7 w0 w3 A (.agg o.cs.toArray) undef undef undef undef undef (.int .i64 5) (.bool true) undef hk hT hM s4
      simpa using key
    by_cases q2 : o.k = 2
    · simp [q1, q5, q2]
      have key := can_step d k M b T o a7 w0 w3 A (.agg o.cs.toArray) undef undef undef undef undef (.int .i64 2) (.bool false) undef hk hT hM s4
      simpa using key
    by_cases q3 : o.k = 3
    · simp [q1, q5, q2, q3]
      have key := adv_step d k M b T o a7 w0 w3 A (.agg o.cs.toArray) undef undef undef undef undef (.int .i64 3) (.bool false) (.bool true) hk hT hM s4
      simpa using key
    by_cases q4 : o.k = 4
    · simp [q1, q5, q2, q3, q4]
      have key := adv_step d k M b T o a7 w0 w3 A (.agg o.cs.toArray) undef undef undef undef undef (.int .i64 4) (.bool false) (.bool true) hk hT hM s4
      simpa using key
    have lk : ∀ (y : Value), HC.wp U2 h27_0 (QD d M w0 A) [.pointer (some ⟨d, 0, none⟩), .agg o.cs.toArray, .pointer (some ⟨b, 0, none⟩), .bool false, .int .i64 k, wvS (T k), rvS (T k), .int .i64 a7, undef, undef, undef, undef, undef, .int .i64 o.k, .bool false, y] w3 := fun y =>
      look_step d k M b T o a7 w0 w3 A (.agg o.cs.toArray) undef undef undef undef undef (.int .i64 o.k) (.bool false) y hk hT hM s4
    by_cases q6 : o.k = 6
    · simp [q1, q5, q2, q3, q4, q6]
      refine eff_call ((from_step d k M T o a7 [] (.slice none 0 0) w0 w3 A (soA b o) hk hT (by simp) row_nil (to_desk hk s4)).mono ?_)
      rintro r w4 ⟨rfl, h⟩
      simp
      exact h
    by_cases q7 : o.k = 7
    · simp [q1, q5, q2, q3, q4, q6, q7]
      cases hTk : T k with
      | none =>
        simp [rvS, wvS]
        have key := lk (.bool false)
        rw [hTk, q7] at key
        simpa [rvS, wvS] using key
      | some x =>
        obtain ⟨hp, hlx, hnow, hmv⟩ : okS M (some x) := hTk ▸ hT.ok k hk
        simp [rvS, wvS]
        have s5 : St w0 (A * DK d T k * soA b o * rwh x.q x.now x.mv (sortT (x.ts.map tmr)) * whl x.p x.now x.mv x.ts) w3 := s4.to (by rw [hTk, show slS (some x) = whl x.p x.now x.mv x.ts * rwh x.q x.now x.mv (sortT (x.ts.map tmr)) from rfl]; ac_rfl)
        have ll : (sortT (x.ts.map tmr)).length ≤ 65536 := by rw [sortT_len, List.length_map]; exact hlx
        refine regmI (frQ (St w0 (A * DK d T k * soA b o * rwh x.q x.now x.mv (sortT (x.ts.map tmr)) * whl x.p x.now x.mv x.ts)) (fun r w => St w0 (A * DK d T k * soA b o * rwh x.q x.now x.mv (sortT (x.ts.map tmr)) * whl x.p x.now x.mv x.ts * outs r (sortT (x.ts.map tmr))) w) (fun w' => ∃ T', okT (M + 65536) T' ∧ St w0 (A * deskA d T') w')) s5.drew ?_
        simp
        refine effm_ldc (v := .int .i64 x.now) (fun vs' w he hw => ?_) ?_
        · have hd : ∀ {F}, St w0 (A * DK d T k * soA b o * rwh x.q x.now x.mv (sortT (x.ts.map tmr)) * F) w → w.cell? ⟨x.q, 0, none⟩ = some (.int .i64 x.now) := fun sw => by
            obtain ⟨v, s6⟩ := ropen sw.drop
            exact s6.drop.row_cells 0 _ rfl
          match vs', hw with
          | [], hw => exact hd hw
          | [_], hw => exact hd (St.drop hw)
          | [_, _], hw => simp [era] at he
        simp
        refine effm_mv rfl (fun w hw => eff_call (All_spec x.p x.now x.mv x.ts w0 w _ hlx hw fun v w' h => h)) (fun r1 _ => ?_)
        simp
        refine effm_mv rfl (fun w hw => ?_) (fun r2 h2 => ?_)
        · have hw : St w0 (A * DK d T k * soA b o * rwh x.q x.now x.mv (sortT (x.ts.map tmr)) * whl x.p x.now x.mv x.ts * outs r1 (sortT (x.ts.map tmr))) w := hw
          have sd : St w0 (A * (soA b o * outs r1 (sortT (x.ts.map tmr))) * deskA d T) w := hw.to (by rw [desk_at hk, hTk, show slS (some x) = whl x.p x.now x.mv x.ts * rwh x.q x.now x.mv (sortT (x.ts.map tmr)) from rfl]; ac_rfl)
          refine eff_call ((from_step d k M T o x.now (sortT (x.ts.map tmr)) r1 w0 w A (soA b o * outs r1 (sortT (x.ts.map tmr))) hk hT (by omega) (row_outs sd.drop (B := A * soA b o) (by ac_rfl)) sd).mono fun r w' h => h)
        obtain ⟨_, rfl, _⟩ := h2
        simp
        intro w9 h9
        exact h9.2
    by_cases q8 : o.k = 8
    · simp [q1, q5, q2, q3, q4, q6, q7, q8]
      refine eff_ldc (v := o.v) (s4.drop.row_cells 4 _ rfl) ?_
      simp
      refine eff_call ((from_step d k M T o a7 o.l o.v w0 w3 A (soA b o) hk hT hl (hrow.mono fun w sw => sw.drop) (to_desk hk s4)).mono ?_)
      rintro r w4 ⟨rfl, h⟩
      simp
      exact h
    · simp [q1, q5, q2, q3, q4, q6, q7, q8]
      have key := lk (.bool false)
      simpa [q4] using key
  cases hTk : T k with
  | none =>
    simp [rvS, wvS]
    have key := body o.a w2 s3
    rw [hTk] at key
    simpa [rvS, wvS] using key
  | some x =>
    have now : ∀ w, St w0 (A * DK d T k * soA b o * slS (T k)) w → w.cell? ⟨x.q, 0, none⟩ = some (.int .i64 x.now) := fun w sw => by
      rw [hTk, show slS (some x) = whl x.p x.now x.mv x.ts * rwh x.q x.now x.mv (sortT (x.ts.map tmr)) from rfl, ← sep_assoc] at sw
      obtain ⟨v, s6⟩ := ropen sw
      exact s6.drop.row_cells 0 _ rfl
    have add : ∀ w3, St w0 (A * DK d T k * soA b o * slS (T k)) w3 → HC.wp U2 h27_26 (seqQ U2 h27_25 (QD d M w0 A)) [.pointer (some ⟨d, 0, none⟩), .agg o.cs.toArray, .pointer (some ⟨b, 0, none⟩), .bool false, .int .i64 k, .pointer (some ⟨x.p, 0, none⟩), .pointer (some ⟨x.q, 0, none⟩), .int .i64 o.a, undef, undef, undef, undef, undef, undef, undef, undef] w3 := by
      intro w3 s4
      simp
      refine regqI s4 ?_
      simp
      refine effq_ldc (v := .int .i64 x.now) now ?_
      simp
      refine effq_ldc (v := .int .i64 o.a) (fun w sw => sw.drop.row_cells 3 _ rfl) ?_
      simp
      intro w5 s5
      have key := body (IntKind.i64.wrap (x.now + o.a)) w5 s5
      rw [hTk] at key
      simpa [rvS, wvS] using key
    simp [rvS, wvS]
    refine eff_ldc (v := .int .i64 o.k) (s3.drop.row_cells 0 _ rfl) ?_
    by_cases q4 : o.k = 4
    · simp [q4]
      have key := add w2 s3
      simpa using key
    · simp [q4]
      refine eff_ldc (v := .int .i64 o.k) (s3.drop.row_cells 0 _ rfl) ?_
      by_cases q5 : o.k = 5
      · simp [q5]
        have key := add w2 s3
        simpa using key
      · simp [q5]
        have key := body o.a w2 s3
        rw [hTk] at key
        simpa [rvS, wvS] using key
end Go.HL.Wh

namespace Go.HL.Wh
open Go.HL Go.Proofs
set_option maxRecDepth 4000
set_option linter.unusedSimpArgs false
set_option linter.unusedVariables false
-- bazaar/bazaarlaw09.WheelPlays
def h6_0 : HC := (.seq (.reg (.eff (.call 28) (.cons (.inp 3) (.cons (.cst (.int .i64 0)) (.cons (.cst (.int .i64 1)) .nil))) (.ite (.bv 0) true (.eff (.call 28) (.cons (.ite (.bv 0) true (.inp 3) (.cst (.tuple #[]))) (.cons (.cst (.int .i64 1)) (.cons (.cst (.int .i64 1)) .nil))) (.isb none (.bv 0) (.ite (.bv 1) true (.eff (.call 28) (.cons (.ite (.bv 1) true (.inp 3) (.cst (.tuple #[]))) (.cons (.cst (.int .i64 2)) (.cons (.cst (.int .i64 1)) .nil))) (.isb none (.bv 1) (.done [(2, (.bv 2))] none))) (.isb none (.bv 1) (.done [(2, (.cst (.bool false)))] none))))) (.isb none (.bv 0) (.isb none (.cst (.bool false)) (.done [(2, (.cst (.bool false)))] none)))))) .ret)
@[simp] theorem h6_0_wp {P : Program} {F : PF P} {Q : EX → List Value → World → Prop} {env : List Value} {w : World} : h6_0.wp F Q env w = HC.wp F (.seq (.reg (.eff (.call 28) (.cons (.inp 3) (.cons (.cst (.int .i64 0)) (.cons (.cst (.int .i64 1)) .nil))) (.ite (.bv 0) true (.eff (.call 28) (.cons (.ite (.bv 0) true (.inp 3) (.cst (.tuple #[]))) (.cons (.cst (.int .i64 1)) (.cons (.cst (.int .i64 1)) .nil))) (.isb none (.bv 0) (.ite (.bv 1) true (.eff (.call 28) (.cons (.ite (.bv 1) true (.inp 3) (.cst (.tuple #[]))) (.cons (.cst (.int .i64 2)) (.cons (.cst (.int .i64 1)) .nil))) (.isb none (.bv 1) (.done [(2, (.bv 2))] none))) (.isb none (.bv 1) (.done [(2, (.cst (.bool false)))] none))))) (.isb none (.bv 0) (.isb none (.cst (.bool false)) (.done [(2, (.cst (.bool false)))] none)))))) .ret) Q env w := rfl
def h6_1 : HC := (.reg (.chk none (.bin .add) (.cons (.inp 9) (.cons (.cst (.int .i64 1)) .nil)) (.done [(9, (.op (.bin .add) (.cons (.inp 9) (.cons (.cst (.int .i64 1)) .nil))))] none)))
@[simp] theorem h6_1_wp {P : Program} {F : PF P} {Q : EX → List Value → World → Prop} {env : List Value} {w : World} : h6_1.wp F Q env w = HC.wp F (.reg (.chk none (.bin .add) (.cons (.inp 9) (.cons (.cst (.int .i64 1)) .nil)) (.done [(9, (.op (.bin .add) (.cons (.inp 9) (.cons (.cst (.int .i64 1)) .nil))))] none))) Q env w := rfl
def h6_2 : HC := (.seq (.reg (.done [(2, (.cst (.bool false)))] none)) .ret)
@[simp] theorem h6_2_wp {P : Program} {F : PF P} {Q : EX → List Value → World → Prop} {env : List Value} {w : World} : h6_2.wp F Q env w = HC.wp F (.seq (.reg (.done [(2, (.cst (.bool false)))] none)) .ret) Q env w := rfl
def h6_3 : HC := (.br (.chk none (.idxL 5) (.cons (.inp 1) (.cons (.inp 9) .nil)) (.eff (.ld true 5) (.cons (.op (.idxL 5) (.cons (.inp 1) (.cons (.inp 9) .nil))) .nil) (.eff (.call 27) (.cons (.inp 3) (.cons (.bv 0) .nil)) (.chk none (.un .not) (.cons (.bv 1) .nil) (.done [] (some (.op (.un .not) (.cons (.bv 1) .nil)))))))) h6_2 .skip)
@[simp] theorem h6_3_wp {P : Program} {F : PF P} {Q : EX → List Value → World → Prop} {env : List Value} {w : World} : h6_3.wp F Q env w = HC.wp F (.br (.chk none (.idxL 5) (.cons (.inp 1) (.cons (.inp 9) .nil)) (.eff (.ld true 5) (.cons (.op (.idxL 5) (.cons (.inp 1) (.cons (.inp 9) .nil))) .nil) (.eff (.call 27) (.cons (.inp 3) (.cons (.bv 0) .nil)) (.chk none (.un .not) (.cons (.bv 1) .nil) (.done [] (some (.op (.un .not) (.cons (.bv 1) .nil)))))))) h6_2 .skip) Q env w := rfl
def h6_4 : HC := (.seq (.block 3 h6_3) h6_1)
@[simp] theorem h6_4_wp {P : Program} {F : PF P} {Q : EX → List Value → World → Prop} {env : List Value} {w : World} : h6_4.wp F Q env w = HC.wp F (.seq (.block 3 h6_3) h6_1) Q env w := rfl
def h6_5 : HC := (.seq (.br (.chk none .lenL (.cons (.inp 1) .nil) (.chk none (.bin .lss) (.cons (.inp 9) (.cons (.op .lenL (.cons (.inp 1) .nil)) .nil)) (.done [] (some (.op (.bin .lss) (.cons (.inp 9) (.cons (.op .lenL (.cons (.inp 1) .nil)) .nil))))))) .skip (.exit 2)) h6_4)
@[simp] theorem h6_5_wp {P : Program} {F : PF P} {Q : EX → List Value → World → Prop} {env : List Value} {w : World} : h6_5.wp F Q env w = HC.wp F (.seq (.br (.chk none .lenL (.cons (.inp 1) .nil) (.chk none (.bin .lss) (.cons (.inp 9) (.cons (.op .lenL (.cons (.inp 1) .nil)) .nil)) (.done [] (some (.op (.bin .lss) (.cons (.inp 9) (.cons (.op .lenL (.cons (.inp 1) .nil)) .nil))))))) .skip (.exit 2)) h6_4) Q env w := rfl
def h6_6 : HC := (.loop h6_5)
@[simp] theorem h6_6_wp {P : Program} {F : PF P} {Q : EX → List Value → World → Prop} {env : List Value} {w : World} : h6_6.wp F Q env w = HC.wp F (.loop h6_5) Q env w := rfl
def h6_7 : HC := (.seq (.block 2 h6_6) h6_0)
@[simp] theorem h6_7_wp {P : Program} {F : PF P} {Q : EX → List Value → World → Prop} {env : List Value} {w : World} : h6_7.wp F Q env w = HC.wp F (.seq (.block 2 h6_6) h6_0) Q env w := rfl
def h6_8 : HC := (.seq (.reg (.done [(9, (.cst (.int .i64 0)))] none)) h6_7)
@[simp] theorem h6_8_wp {P : Program} {F : PF P} {Q : EX → List Value → World → Prop} {env : List Value} {w : World} : h6_8.wp F Q env w = HC.wp F (.seq (.reg (.done [(9, (.cst (.int .i64 0)))] none)) h6_7) Q env w := rfl
def h6_9 : HC := (.reg (.chk none (.bin .add) (.cons (.inp 4) (.cons (.cst (.int .i64 1)) .nil)) (.done [(4, (.op (.bin .add) (.cons (.inp 4) (.cons (.cst (.int .i64 1)) .nil))))] none)))
@[simp] theorem h6_9_wp {P : Program} {F : PF P} {Q : EX → List Value → World → Prop} {env : List Value} {w : World} : h6_9.wp F Q env w = HC.wp F (.reg (.chk none (.bin .add) (.cons (.inp 4) (.cons (.cst (.int .i64 1)) .nil)) (.done [(4, (.op (.bin .add) (.cons (.inp 4) (.cons (.cst (.int .i64 1)) .nil))))] none))) Q env w := rfl
def h6_10 : HC := (.regq (some 1) (.chk none .chkp (.cons (.inp 3) .nil) (.chk none (.fld 0) (.cons (.op .chkp (.cons (.inp 3) .nil)) .nil) (.chk none (.idxP 3 1) (.cons (.op (.fld 0) (.cons (.op .chkp (.cons (.inp 3) .nil)) .nil)) (.cons (.inp 4) .nil)) (.eff (.st 1) (.cons (.op (.idxP 3 1) (.cons (.op (.fld 0) (.cons (.op .chkp (.cons (.inp 3) .nil)) .nil)) (.cons (.inp 4) .nil))) (.cons (.inp 5) .nil)) (.chk none .chkp (.cons (.inp 3) .nil) (.chk none (.fld 3) (.cons (.op .chkp (.cons (.inp 3) .nil)) .nil) (.chk none (.idxP 3 1) (.cons (.op (.fld 3) (.cons (.op .chkp (.cons (.inp 3) .nil)) .nil)) (.cons (.inp 4) .nil)) (.eff (.st 1) (.cons (.op (.idxP 3 1) (.cons (.op (.fld 3) (.cons (.op .chkp (.cons (.inp 3) .nil)) .nil)) (.cons (.inp 4) .nil))) (.cons (.inp 7) .nil)) (.done [] none))))))))))
@[simp] theorem h6_10_wp {P : Program} {F : PF P} {Q : EX → List Value → World → Prop} {env : List Value} {w : World} : h6_10.wp F Q env w = HC.wp F (.regq (some 1) (.chk none .chkp (.cons (.inp 3) .nil) (.chk none (.fld 0) (.cons (.op .chkp (.cons (.inp 3) .nil)) .nil) (.chk none (.idxP 3 1) (.cons (.op (.fld 0) (.cons (.op .chkp (.cons (.inp 3) .nil)) .nil)) (.cons (.inp 4) .nil)) (.eff (.st 1) (.cons (.op (.idxP 3 1) (.cons (.op (.fld 0) (.cons (.op .chkp (.cons (.inp 3) .nil)) .nil)) (.cons (.inp 4) .nil))) (.cons (.inp 5) .nil)) (.chk none .chkp (.cons (.inp 3) .nil) (.chk none (.fld 3) (.cons (.op .chkp (.cons (.inp 3) .nil)) .nil) (.chk none (.idxP 3 1) (.cons (.op (.fld 3) (.cons (.op .chkp (.cons (.inp 3) .nil)) .nil)) (.cons (.inp 4) .nil)) (.eff (.st 1) (.cons (.op (.idxP 3 1) (.cons (.op (.fld 3) (.cons (.op .chkp (.cons (.inp 3) .nil)) .nil)) (.cons (.inp 4) .nil))) (.cons (.inp 7) .nil)) (.done [] none)))))))))) Q env w := rfl
def h6_11 : HC := (.seq (.reg (.done [(2, (.cst (.bool false)))] none)) .ret)
@[simp] theorem h6_11_wp {P : Program} {F : PF P} {Q : EX → List Value → World → Prop} {env : List Value} {w : World} : h6_11.wp F Q env w = HC.wp F (.seq (.reg (.done [(2, (.cst (.bool false)))] none)) .ret) Q env w := rfl
def h6_12 : HC := (.seq (.br (.chk none (.cal 10) (.cons (.inp 6) .nil) (.chk none (.bin .neq) (.cons (.op (.cal 10) (.cons (.inp 6) .nil)) (.cons (.inp 8) .nil)) (.bnd (.op (.bin .neq) (.cons (.op (.cal 10) (.cons (.inp 6) .nil)) (.cons (.inp 8) .nil))) (.chk (some ((.bv 0), false)) (.eqNil false (.pointer 76) (.pointer none)) (.cons (.inp 5) .nil) (.chk (some ((.bv 0), false)) (.eqNil false (.pointer 91) (.pointer none)) (.cons (.inp 7) .nil) (.chk (some ((.bv 0), false)) (.eqB true) (.cons (.op (.eqNil false (.pointer 76) (.pointer none)) (.cons (.inp 5) .nil)) (.cons (.op (.eqNil false (.pointer 91) (.pointer none)) (.cons (.inp 7) .nil)) .nil)) (.isb none (.bv 0) (.done [] (some (.ite (.bv 0) true (.cst (.bool true)) (.op (.eqB true) (.cons (.op (.eqNil false (.pointer 76) (.pointer none)) (.cons (.inp 5) .nil)) (.cons (.op (.eqNil false (.pointer 91) (.pointer none)) (.cons (.inp 7) .nil)) .nil))))))))))))) h6_11 .skip) h6_10)
@[simp] theorem h6_12_wp {P : Program} {F : PF P} {Q : EX → List Value → World → Prop} {env : List Value} {w : World} : h6_12.wp F Q env w = HC.wp F (.seq (.br (.chk none (.cal 10) (.cons (.inp 6) .nil) (.chk none (.bin .neq) (.cons (.op (.cal 10) (.cons (.inp 6) .nil)) (.cons (.inp 8) .nil)) (.bnd (.op (.bin .neq) (.cons (.op (.cal 10) (.cons (.inp 6) .nil)) (.cons (.inp 8) .nil))) (.chk (some ((.bv 0), false)) (.eqNil false (.pointer 76) (.pointer none)) (.cons (.inp 5) .nil) (.chk (some ((.bv 0), false)) (.eqNil false (.pointer 91) (.pointer none)) (.cons (.inp 7) .nil) (.chk (some ((.bv 0), false)) (.eqB true) (.cons (.op (.eqNil false (.pointer 76) (.pointer none)) (.cons (.inp 5) .nil)) (.cons (.op (.eqNil false (.pointer 91) (.pointer none)) (.cons (.inp 7) .nil)) .nil)) (.isb none (.bv 0) (.done [] (some (.ite (.bv 0) true (.cst (.bool true)) (.op (.eqB true) (.cons (.op (.eqNil false (.pointer 76) (.pointer none)) (.cons (.inp 5) .nil)) (.cons (.op (.eqNil false (.pointer 91) (.pointer none)) (.cons (.inp 7) .nil)) .nil))))))))))))) h6_11 .skip) h6_10) Q env w := rfl
def h6_13 : HC := (.seq (.reg (.eff (.call 26) (.cons (.inp 0) .nil) (.chk none (.ext 0) (.cons (.bv 0) .nil) (.chk none (.ext 1) (.cons (.bv 0) .nil) (.done [(7, (.op (.ext 0) (.cons (.bv 0) .nil))), (8, (.op (.ext 1) (.cons (.bv 0) .nil)))] none))))) h6_12)
@[simp] theorem h6_13_wp {P : Program} {F : PF P} {Q : EX → List Value → World → Prop} {env : List Value} {w : World} : h6_13.wp F Q env w = HC.wp F (.seq (.reg (.eff (.call 26) (.cons (.inp 0) .nil) (.chk none (.ext 0) (.cons (.bv 0) .nil) (.chk none (.ext 1) (.cons (.bv 0) .nil) (.done [(7, (.op (.ext 0) (.cons (.bv 0) .nil))), (8, (.op (.ext 1) (.cons (.bv 0) .nil)))] none))))) h6_12) Q env w := rfl
def h6_14 : HC := (.seq (.reg (.eff (.call 9) (.cons (.inp 0) .nil) (.chk none (.ext 0) (.cons (.bv 0) .nil) (.chk none (.ext 1) (.cons (.bv 0) .nil) (.done [(5, (.op (.ext 0) (.cons (.bv 0) .nil))), (6, (.op (.ext 1) (.cons (.bv 0) .nil)))] none))))) h6_13)
@[simp] theorem h6_14_wp {P : Program} {F : PF P} {Q : EX → List Value → World → Prop} {env : List Value} {w : World} : h6_14.wp F Q env w = HC.wp F (.seq (.reg (.eff (.call 9) (.cons (.inp 0) .nil) (.chk none (.ext 0) (.cons (.bv 0) .nil) (.chk none (.ext 1) (.cons (.bv 0) .nil) (.done [(5, (.op (.ext 0) (.cons (.bv 0) .nil))), (6, (.op (.ext 1) (.cons (.bv 0) .nil)))] none))))) h6_13) Q env w := rfl
def h6_15 : HC := (.seq (.block 1 h6_14) h6_9)
@[simp] theorem h6_15_wp {P : Program} {F : PF P} {Q : EX → List Value → World → Prop} {env : List Value} {w : World} : h6_15.wp F Q env w = HC.wp F (.seq (.block 1 h6_14) h6_9) Q env w := rfl
def h6_16 : HC := (.seq (.br (.chk none (.bin .lss) (.cons (.inp 4) (.cons (.cst (.int .i64 2)) .nil)) (.done [] (some (.op (.bin .lss) (.cons (.inp 4) (.cons (.cst (.int .i64 2)) .nil)))))) .skip (.exit 0)) h6_15)
@[simp] theorem h6_16_wp {P : Program} {F : PF P} {Q : EX → List Value → World → Prop} {env : List Value} {w : World} : h6_16.wp F Q env w = HC.wp F (.seq (.br (.chk none (.bin .lss) (.cons (.inp 4) (.cons (.cst (.int .i64 2)) .nil)) (.done [] (some (.op (.bin .lss) (.cons (.inp 4) (.cons (.cst (.int .i64 2)) .nil)))))) .skip (.exit 0)) h6_15) Q env w := rfl
def h6_17 : HC := (.loop h6_16)
@[simp] theorem h6_17_wp {P : Program} {F : PF P} {Q : EX → List Value → World → Prop} {env : List Value} {w : World} : h6_17.wp F Q env w = HC.wp F (.loop h6_16) Q env w := rfl
def h6_18 : HC := (.seq (.block 0 h6_17) h6_8)
@[simp] theorem h6_18_wp {P : Program} {F : PF P} {Q : EX → List Value → World → Prop} {env : List Value} {w : World} : h6_18.wp F Q env w = HC.wp F (.seq (.block 0 h6_17) h6_8) Q env w := rfl
def h6_19 : HC := (.seq (.reg (.done [(4, (.cst (.int .i64 0)))] none)) h6_18)
@[simp] theorem h6_19_wp {P : Program} {F : PF P} {Q : EX → List Value → World → Prop} {env : List Value} {w : World} : h6_19.wp F Q env w = HC.wp F (.seq (.reg (.done [(4, (.cst (.int .i64 0)))] none)) h6_18) Q env w := rfl
def h6_20 : HC := (.seq (.reg (.chk none (.build #[(.pointer none), (.pointer none), (.pointer none), (.pointer none), (.pointer none), (.pointer none)] [(0, 3), (3, 3)] []) .nil (.eff (.box 63) (.cons (.op (.build #[(.pointer none), (.pointer none), (.pointer none), (.pointer none), (.pointer none), (.pointer none)] [(0, 3), (3, 3)] []) .nil) .nil) (.done [(3, (.bv 0))] none)))) h6_19)
@[simp] theorem h6_20_wp {P : Program} {F : PF P} {Q : EX → List Value → World → Prop} {env : List Value} {w : World} : h6_20.wp F Q env w = HC.wp F (.seq (.reg (.chk none (.build #[(.pointer none), (.pointer none), (.pointer none), (.pointer none), (.pointer none), (.pointer none)] [(0, 3), (3, 3)] []) .nil (.eff (.box 63) (.cons (.op (.build #[(.pointer none), (.pointer none), (.pointer none), (.pointer none), (.pointer none), (.pointer none)] [(0, 3), (3, 3)] []) .nil) .nil) (.done [(3, (.bv 0))] none)))) h6_19) Q env w := rfl
def l6 : Lifted := ⟨[0, 1, 4, 5, 6, 7, 8, 9, 10, 11], 74, [.slot 2], (.seq (.reg (.done [(2, (.cst (.bool false)))] none)) h6_20)⟩
theorem l6_ok : liftFn U2 6 400 = some l6 := by kernel_rfl


def sos (l : List So) : List Value := l.flatMap So.cs
theorem sos_at {l : List So} {i : Nat} (h : i < l.length) : ∀ j u, (l[i].cs)[j]? = some u → (sos l)[i * 5 + j]? = some u := by
  intro j u hu
  have hj : j < 5 := by
    have := (List.getElem?_eq_some_iff.1 hu).1
    simpa [So.cs] using this
  rw [← hu]
  exact flat_get So.cs 5 (fun _ => rfl) l i j h hj
theorem look_desk (d k M : Nat) (T : Nat → Option Sw) (n : Int) (w0 w : World) (A : Asn) (hk : k < 3) (hT : okT M T) (hM : M ≤ 1152921504606846976) (s : St w0 (A * deskA d T) w) :
    CallW Try.prog 28 [.pointer (some ⟨d, 0, none⟩), .int .i64 k, .int .i64 n] (fun r w' => r = .bool true ∧ St w0 (A * deskA d T) w') w := by
  refine (looks_spec d k T (T k) M n w0 w A hk ⟨hT.ok k hk, rfl, rfl⟩ hM (s.to (by rw [desk_at hk]; ac_rfl))).mono fun r w' h => ⟨h.1, h.2.to (by rw [desk_at hk]; ac_rfl)⟩
set_option maxHeartbeats 4000000 in
theorem plays_walk (now : Int) (ops : List So) (v : Value) (w0 w : World) (A : Asn) (_ : -9223372036854775808 ≤ now ∧ now ≤ 9223372036854775807) (hl : ops.length ≤ 1048576) (hrow : Row w0 A v ops.length 5 (sos ops)) (hops : ∀ x ∈ ops, x.l.length ≤ 1048576 ∧ x.v.oneCell' = true ∧ Row w0 A x.v x.l.length 2 (x.l.flatMap encT)) (s : St w0 A w) :
    CallW Try.prog 6 [.int .i64 now, v] (fun r w' => r = .bool true ∧ St w0 A w') w := by
  obtain ⟨a, cap, rfl⟩ := hrow.val
  refine callW_of_lift l6_ok (by simp [l6]) ?_
  simp [l6]
  have hfill : Instr.fill (fun x => [(0, 3), (3, 3)][x]?) #[.pointer none, .pointer none, .pointer none, .pointer none, .pointer none, .pointer none] [] = some #[.pointer none, .pointer none, .pointer none, .pointer none, .pointer none, .pointer none] := rfl
  simp only [hfill]
  simp
  refine eff_box s ?_
  intro d w1 s1
  simp
  have hT0 : okT 0 (fun _ => none) := ⟨fun _ _ => trivial, rfl⟩
  have s2 : St w0 (A * deskA d (fun _ => none)) w1 := by
    have e : bigA (fun _ x => slS x) (fun _ => (none : Option Sw)) 3 = emp := by
      show emp * emp * emp * emp = emp
      rw [sep_emp, sep_emp, sep_emp]
    unfold deskA
    rw [e, emp_sep]
    exact s1
  clear s s1
  refine loopI (fun env w' => ∃ (i : Nat) (T : Nat → Option Sw) (x5 x6 x7 x8 : Value), env = [.int .i64 now, .slice a ops.length cap, .bool false, .pointer (some ⟨d, 0, none⟩), .int .i64 i, x5, x6, x7, x8, undef] ∧ i ≤ 2 ∧ okT 0 T ∧ St w0 (A * deskA d T) w')
    (fun env _ => 2 - slotN env 4) ⟨0, _, _, _, _, _, rfl, by omega, hT0, s2⟩ ?_
  clear s2
  rintro LQ env w' ⟨i, T, x5, x6, x7, x8, rfl, hi, hT, s⟩ hN hE hR
  simp
  refine cndI (fun h => ?_) (fun h => ?_)
  · have hi2 : i < 2 := by
      simp at h
      omega
    have hi3 : (i : Int) < 3 := by omega
    simp
    have next : ∀ (x : Option Sw) (w4 : World) (y6 y8 : Value), okS 0 x → St w0 (A * deskA d T * slS x) w4 → HC.wp U2 h6_10 (blockQ 1 (seqQ U2 h6_9 LQ)) [.int .i64 now, .slice a ops.length cap, .bool false, .pointer (some ⟨d, 0, none⟩), .int .i64 i, wvS x, y6, rvS x, y8, undef] w4 := by
      intro x w4 y6 y8 hx s4
      have hk : i < 3 := by omega
      have lD : (dcs T).length = 6 := rfl
      have o1 : (wvS x).oneCell' = true := by cases x <;> rfl
      have o2 : (rvS x).oneCell' = true := by cases x <;> rfl
      have s10 : St w0 (A * bigA (fun _ x => slS x) T 3 * slS x * dkA d T) w4 := s4.to (by unfold deskA; ac_rfl)
      simp
      refine regmI (stC (St w0 (A * bigA (fun _ x => slS x) T 3 * slS x * dkA d T)) (St w0 (A * bigA (fun _ x => slS x) T 3 * slS x * pt d (.cells ((dcs T).set i (wvS x)).toArray 63 (0, 0)))) (St w0 (A * bigA (fun _ x => slS x) T 3 * slS x * pt d (.cells (dcs (upF T i x)).toArray 63 (0, 0))))) s10.drew ?_
      simp [hi3]
      refine effm_mv rfl (fun w hw => eff_st1 (show St w0 (_ * dkA d T) w from hw) o1 (by simp [lD]; omega) fun w' h => ?_) (fun v _ => ?_)
      · show St w0 _ w'
        simpa using h
      simp [hi3]
      refine effm_mv rfl (fun w hw => eff_st1 (show St w0 (_ * pt d (.cells ((dcs T).set i (wvS x)).toArray 63 (0, 0))) w from hw) o2 (by simp [lD]; omega) fun w' h => ?_) (fun v _ => ?_)
      · show St w0 _ w'
        rw [← dcs_up T hk]
        simpa using h
      simp
      intro w11 s11
      have s11 : St w0 (A * bigA (fun _ x => slS x) T 3 * slS x * pt d (.cells (dcs (upF T i x)).toArray 63 (0, 0))) w11 := s11
      try simp (disch := omega) only [wrap64]
      refine hN _ _ ⟨i + 1, upF T i x, _, _, _, _, by simp; exact ⟨rfl, rfl, rfl, rfl⟩, by omega, hT.up hx (fun e => by omega), ?_⟩ (by simp [slotN]; omega)
      rw [big_at hk] at s11
      have s12 : St w0 (A * (bigH (fun _ x => slS x) T i 3 * slS x) * dkA d (upF T i x)) w11 := St.cut (slS (T i)) s11 (by ac_rfl)
      show St w0 (A * (bigA _ _ 3 * dkA d (upF T i x))) w11
      rw [big_set hk]
      exact s12.to (by ac_rfl)
    refine eff_call (New_spec now w0 w' _ s fun r w2 h2 => ?_)
    by_cases hb : 0 ≤ now ∧ now ≤ 1099511627776
    · rw [if_pos hb] at h2
      obtain ⟨p, rfl, s2⟩ := h2
      simp
      refine eff_call (rNew_spec now w0 w2 _ s2 fun r w3 h3 => ?_)
      rw [if_pos hb] at h3
      obtain ⟨q, rfl, s3⟩ := h3
      simp
      have key := next (some ⟨p, q, now.toNat, 0, []⟩) w3 (.int .i64 0) (.int .i64 0) ⟨⟨by simp, by simp, by simp, by simp⟩, by simp, by show now.toNat ≤ _; omega, Nat.le_refl _⟩ (s3.to (by
        have e0 : sortT (([] : List Tm).map tmr) = [] := List.eq_nil_of_length_eq_zero (by rw [sortT_len]; rfl)
        show _ = A * deskA d T * (whl p now.toNat 0 [] * rwh q now.toNat 0 (sortT (([] : List Tm).map tmr)))
        rw [e0]
        ac_rfl))
      simpa [wvS, rvS] using key
    · rw [if_neg hb] at h2
      obtain ⟨rfl, s2⟩ := h2
      simp
      refine eff_call (rNew_spec now w0 w2 _ s2 fun r w3 h3 => ?_)
      rw [if_neg hb] at h3
      obtain ⟨rfl, s3⟩ := h3
      simp
      have key := next none w3 (.int .i64 90) (.int .i64 90) trivial (by rw [show slS none = emp from rfl, sep_emp]; exact s3)
      simpa [wvS, rvS] using key
  · have hi2 : i = 2 := by
      simp at h
      omega
    simp
    refine hE _ _ _ ?_
    simp
    clear hN hE hR
    refine loopI (fun env w' => ∃ (j : Nat) (T : Nat → Option Sw), env = [.int .i64 now, .slice a ops.length cap, .bool false, .pointer (some ⟨d, 0, none⟩), .int .i64 i, x5, x6, x7, x8, .int .i64 j] ∧ j ≤ ops.length ∧ okT (j * 65536) T ∧ St w0 (A * deskA d T) w')
      (fun env _ => ops.length - slotN env 9) ⟨0, T, rfl, by omega, by simpa using hT, s⟩ ?_
    clear s hT T
    rintro LQ env w' ⟨j, T, rfl, hj, hT, s⟩ hN hE hR
    simp
    refine cndI (fun h => ?_) (fun h => ?_)
    · simp at h
      obtain ⟨g, o, cap', hv, hc⟩ := hrow.at (by omega)
      cases hv
      obtain ⟨x, hx⟩ : ∃ x, ops[j] = x := ⟨_, rfl⟩
      have hmem : x ∈ ops := hx ▸ List.getElem_mem h
      obtain ⟨g1, g2, g3⟩ := hops x hmem
      simp [h]
      refine eff_ldcs (vs := x.cs) (fun k u hu => by rw [Nat.add_assoc]; exact hc _ s.drop _ _ (sos_at h k u (by rw [hx]; exact hu))) rfl ?_
      simp
      refine eff_call ((step_spec d (j * 65536) T x w0 w' A hT (by omega) g1 g2 g3 s).mono ?_)
      rintro r w2 ⟨rfl, T', hT', s2⟩
      simp
      try simp (disch := omega) only [wrap64]
      refine hN _ _ ⟨j + 1, T', by simp, by omega, ?_, s2⟩ (by simp [slotN]; omega)
      rw [Nat.add_mul, Nat.one_mul]
      exact hT'
    · simp
      refine hE _ _ _ ?_
      simp
      have hM : j * 65536 ≤ 1152921504606846976 := by omega
      refine eff_call ((look_desk d 0 (j * 65536) T 1 w0 w' A (by decide) hT hM s).mono ?_)
      rintro r w2 ⟨rfl, s2⟩
      simp
      refine eff_call ((look_desk d 1 (j * 65536) T 1 w0 w2 A (by decide) hT hM s2).mono ?_)
      rintro r w3 ⟨rfl, s3⟩
      simp
      refine eff_call ((look_desk d 2 (j * 65536) T 1 w0 w3 A (by decide) hT hM s3).mono ?_)
      rintro r w4 ⟨rfl, s4⟩
      simp
      exact s4.drop
theorem open_timers {H : Type} {enc : TypeId × Value → H} {W : World} {base : Nat} {spare : Nat → Bool} {held : Bool} {fuel : Nat} {cs : List Value} {x : DataW H × List MemPlace} (h : DataW.trod enc Try.prog W base spare held fuel 38 cs = some x) :
    ∃ (v : Value) (rows : List (Int × Int)), cs = [v] ∧ v.oneCell' = true ∧ Row W (old W) v rows.length 2 (rows.flatMap encT) ∧ rows.length ≤ Go.Proofs.Ytngjaibngkhidaa.Rows.uptoBulk x.1 := by
  obtain ⟨v, rows, h1, h2, _, h3, h4, _⟩ := open_erows (α := Int × Int) encT 2 (fun _ => True) (fun _ => 0) Try.underlying38 (by kernel_rfl) (by decide) (fun _ => rfl) (fun n cs x hx => by
    obtain ⟨row, hr, hc⟩ := open_istruct Try.underlying32 (by kernel_rfl) (by kernel_rfl) hx
    match row, hr with
    | [a, b], _ => exact ⟨(a, b), hc, trivial, Nat.zero_le _⟩) h
  exact ⟨v, rows, h1, h2, h3, h4⟩
theorem open_script {H : Type} {enc : TypeId × Value → H} {W : World} {spare : Nat → Bool} {v : Value} {d : DataW H} {ps : List MemPlace} (h : DataW.Trod enc Try.prog W 0 spare true 57 v d ps) {base : Nat} (hval : Value.okWide Try.prog W .any base 57 v) :
    ∃ ops : List So, Row W (old W) v ops.length 5 (sos ops) ∧ ops.length ≤ Go.Proofs.Ytngjaibngkhidaa.Rows.uptoBulk d ∧ ∀ x ∈ ops, x.l.length ≤ Go.Proofs.Ytngjaibngkhidaa.Rows.uptoBulk d ∧ x.v.oneCell' = true ∧ Row W (old W) x.v x.l.length 2 (x.l.flatMap encT) := by
  obtain ⟨va, vl, vc, rfl⟩ := Go.WideShapes.okWide_slice Try.underlying57 hval
  obtain ⟨n, h⟩ := h
  obtain ⟨v, ops, h1, h2, h3, h4, h5, h6⟩ := open_erows (α := So) So.cs 5 (fun x => x.v.oneCell' = true ∧ Row W (old W) x.v x.l.length 2 (x.l.flatMap encT)) (fun x => x.l.length) Try.underlying57 (by kernel_rfl) (by decide) (fun _ => rfl) (fun n cs x hx => by
    obtain ⟨hl, n', hf⟩ := open_field Try.underlying68 hx
    have hl5 : cs.length = 5 := hl.trans (by kernel_rfl)
    match cs, hl5 with
    | [c0, c1, c2, c3, c4], _ =>
      obtain ⟨y0, k0, _⟩ := hf 0 _ rfl
      obtain ⟨y1, k1, _⟩ := hf 1 _ rfl
      obtain ⟨y2, k2, _⟩ := hf 2 _ rfl
      obtain ⟨y3, k3, _⟩ := hf 3 _ rfl
      obtain ⟨y4, k4, b4⟩ := hf 4 _ rfl
      obtain ⟨m0, e0, _⟩ := DataW.trod_int Try.underlying3 k0
      obtain ⟨m1, e1, _⟩ := DataW.trod_int Try.underlying3 k1
      obtain ⟨m2, e2, _⟩ := DataW.trod_int Try.underlying3 k2
      obtain ⟨m3, e3, _⟩ := DataW.trod_int Try.underlying3 k3
      obtain ⟨rv, rows, e4, o4, r4, l4⟩ := open_timers k4
      have f0 : [c0] = [Value.int .i64 m0] := e0
      have f1 : [c1] = [Value.int .i64 m1] := e1
      have f2 : [c2] = [Value.int .i64 m2] := e2
      have f3 : [c3] = [Value.int .i64 m3] := e3
      have f4 : [c4] = [rv] := e4
      cases f0; cases f1; cases f2; cases f3; cases f4
      exact ⟨⟨m0, m1, m2, m3, c4, rows⟩, rfl, ⟨o4, r4⟩, Nat.le_trans l4 b4⟩) h
  have h1 : [Value.slice va vl vc] = [v] := by simpa [Value.cells] using h1
  cases h1
  exact ⟨ops, h4, h5, fun x hx => ⟨h6 x hx, h3 x hx⟩⟩
end Go.HL.Wh

namespace Go.Proofs.Ytngjaibngkhidaa.wheelPlays
open Go.ChangeShapes Go.WideShapes Go.ChangeAt Go.RowKit Go.WideMaps Go.WideElems
open Go.ChangeMaps (open_string shut_string)
set_option linter.unusedVariables false

theorem own : ownKnob Try.prog.godebug = none := by kernel_rfl

theorem keeps : Go.HL.keepB Try.prog [3, 57, 68, 38, 32] = true := by kernel_rfl

set_option maxRecDepth 10000 in
theorem contract (H : Type) (enc : TypeId × Value → H) (W : World) (base : Nat) (args : Array Value) (ds gs : List (DataW H)) (before : List MemPlace)
    (hval : ∀ (j : Nat) t v, Try.f6.params[j]? = some t → args[j]? = some v → Value.okWide Try.prog W .any base t v)
    (hW : DataW.Whole enc Try.prog Try.f6.params.toList Rows.wheelPlaysSpec.vars false W args.toList ds gs before) (hk : Rows.uptoSmall H (ds ++ gs) = true) :
    Calls Try.prog 6 args W fun e W' => ∃ v, e = .returned v ∧ Rows.wheelPlaysSpec.post enc Try.prog Try.f6 false true false false W args v W' := by
  have hW' := hW
  have hlt := hW.lt
  obtain ⟨p, q, hA0, hV, rfl, hfz, hnd⟩ := hW
  have hA : DataW.TrodAll enc Try.prog W 0 (fun _ => true) true Try.f6.params.toList args.toList ds p := hA0
  have hA1 := hA
  rw [Try.params6] at hA hval
  obtain ⟨v0, vs0, d0, ds0, p0, q0, hargs, rfl, rfl, h0, r0⟩ := trodAll_cons hA
  obtain ⟨v1, vs1, d1, ds1, p1, q1, rfl, rfl, rfl, h1, r1⟩ := trodAll_cons r0
  obtain ⟨rfl, rfl, rfl⟩ := trodAll_nil r1
  obtain rfl : args = #[v0, v1] := by cases args; simp_all
  obtain ⟨rfl, rfl⟩ := trodVars_none hV
  obtain ⟨a0, rfl, rfl, rfl, w0⟩ := open_int Try.underlying3 (hval 0 3 v0 rfl rfl) h0
  obtain ⟨a1, row1, bl1, ex1⟩ := Go.HL.Wh.open_script h1 (hval 1 57 v1 rfl rfl)
  simp only [List.append_nil, List.nil_append] at hW' hlt hA1
  have hb := Go.HL.bulk_bound hk
  simp only [List.append_nil, Rows.uptoBulkAll, Go.HL.bulk_string, Go.HL.bulk_int] at hb
  have b0 : -9223372036854775808 ≤ a0 ∧ a0 ≤ 9223372036854775807 := by simpa [Lit.wf, IntKind.min, IntKind.max, IntKind.signed, IntKind.bits] using w0
  have hwalk := Go.HL.Wh.plays_walk a0 a1 v1 W W (Go.HL.old W) b0 (by omega) row1 (fun x hx => ⟨by have := (ex1 x hx).1; omega, (ex1 x hx).2⟩) (Go.HL.St.start W)
  refine Calls.mono hwalk fun e W' ⟨v, he, hv, hst⟩ => ?_
  subst hv
  refine ⟨_, he, Go.HL.post_of_old hst (pv := []) hW' (fun _ _ _ => (trodAll_cons_mk (shut_bool Try.underlying4 _) trodAll_mk0))
    (fun sp hsp => Go.HL.trodAll_keep keeps (by decide) hA1 (fun x hx => hst.same (hlt x hx)) hsp) (fun _ _ => rfl) (by simp)
    (ok_one (by kernel_rfl) rfl (okWide_bool_mk Try.underlying4 _))⟩

set_option maxRecDepth 100000 in
theorem lifted (os : Os) (started : os.Started) (H : Type) (enc : TypeId × Value → H) (F : Stop.Interp) :
    ReturnsInHanded {} Try.checked os 6 .any ((Rows.OpenSpec.upto Rows.wheelPlaysSpec).pre6 enc Try.prog Try.f6 Rows.wheelPlaysUptoRow.domain false) (((Rows.OpenSpec.upto Rows.wheelPlaysSpec).at F).post enc Try.prog Try.f6 false true false false) := by
  refine returnsInHanded_of_cond (C := Try.checked) (s := Rows.OpenSpec.upto Rows.wheelPlaysSpec) (k := Rows.uptoSmall) rfl own started (by kernel_rfl) Try.func6
    (OpenSpec.witness (enc := enc) (C := Try.checked) (s := Rows.OpenSpec.upto Rows.wheelPlaysSpec) (k := Rows.uptoSmall) rfl false ⟨#[], #[.int .i64 0, .slice none 0 0], []⟩ 8 (by kernel_rfl) (by kernel_rfl) (by kernel_rfl)
      (x := ([.lit (.int .i64 0), .nil], [], [])) (by kernel_rfl) rfl (by kernel_rfl)) ?_
  intro W base args ds gs before hval hW _ hk _
  exact contract H enc W base args ds gs before hval hW hk

theorem over : Rows.wheelPlaysUptoRow.holds Try.pinned (Rows.OpenSpec.upto Rows.wheelPlaysSpec) :=
  OpenClaim.holds_of_cond 6 Try.f6 rfl rfl rfl rfl rfl rfl rfl ⟨rfl, rfl, rfl, rfl, rfl⟩ rfl rfl rfl rfl rfl (by kernel_rfl) Try.func6 (by kernel_rfl)
    (of_decide_eq_true (by kernel_rfl)) (by unfold Func.isWrapper; first | (rw [if_pos (by decide +kernel)]; kernel_rfl) | (rw [if_neg (by decide +kernel)]; exact ⟨rfl, rfl⟩))
    (fun os started H enc _ F => lifted os started H enc F)

theorem proved : Rows.WheelPlaysUptoSaid :=
  over
end Go.Proofs.Ytngjaibngkhidaa.wheelPlays
