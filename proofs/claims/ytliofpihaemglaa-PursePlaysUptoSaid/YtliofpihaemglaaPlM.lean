/-
  What the claim leans on, part 12 of 12. Conditions: as each theorem says.
-/
import Derived.Test.YtliofpihaemglaaPlMk
namespace Go.HL.Pu
open Go.HL Go.HL.Nm Go.Proofs
set_option maxRecDepth 4000
set_option linter.unusedSimpArgs false
set_option linter.unusedVariables false
-- bazaar/bazaarlaw14.told
def h32_0 : HC := (.seq (.reg (.eff (.call 43) (.cons (.inp 4) (.cons (.inp 5) .nil)) (.done [(2, (.bv 0))] none))) .ret)
@[simp] theorem h32_0_wp {P : Program} {F : PF P} {Q : EX → List Value → World → Prop} {env : List Value} {w : World} : h32_0.wp F Q env w = HC.wp F (.seq (.reg (.eff (.call 43) (.cons (.inp 4) (.cons (.inp 5) .nil)) (.done [(2, (.bv 0))] none))) .ret) Q env w := rfl
def h32_1 : HC := (.seq (.reg (.eff (.call 24) (.cons (.inp 3) .nil) (.done [] none))) h32_0)
@[simp] theorem h32_1_wp {P : Program} {F : PF P} {Q : EX → List Value → World → Prop} {env : List Value} {w : World} : h32_1.wp F Q env w = HC.wp F (.seq (.reg (.eff (.call 24) (.cons (.inp 3) .nil) (.done [] none))) h32_0) Q env w := rfl
def h32_2 : HC := (.seq (.reg (.done [(2, (.cst (.bool false)))] none)) .ret)
@[simp] theorem h32_2_wp {P : Program} {F : PF P} {Q : EX → List Value → World → Prop} {env : List Value} {w : World} : h32_2.wp F Q env w = HC.wp F (.seq (.reg (.done [(2, (.cst (.bool false)))] none)) .ret) Q env w := rfl
def h32_3 : HC := (.seq (.br (.eff (.call 43) (.cons (.inp 3) (.cons (.inp 5) .nil)) (.chk none (.un .not) (.cons (.bv 0) .nil) (.bnd (.op (.un .not) (.cons (.bv 0) .nil)) (.ite (.bv 1) false (.eff (.call 43) (.cons (.ite (.bv 1) false (.inp 4) (.cst (.tuple #[]))) (.cons (.ite (.bv 1) false (.inp 5) (.cst (.tuple #[]))) .nil)) (.chk none (.un .not) (.cons (.bv 2) .nil) (.isb none (.bv 1) (.bnd (.op (.un .not) (.cons (.bv 2) .nil)) (.ite (.bv 3) false (.eff (.call 30) (.cons (.ite (.bv 3) false (.inp 0) (.cst (.tuple #[]))) .nil) (.eff (.call 71) (.cons (.inp 1) .nil) (.chk none (.bin .neq) (.cons (.bv 4) (.cons (.bv 5) .nil)) (.isb none (.bv 3) (.bnd (.op (.bin .neq) (.cons (.bv 4) (.cons (.bv 5) .nil))) (.ite (.bv 6) false (.eff (.call 37) (.cons (.ite (.bv 6) false (.inp 0) (.cst (.tuple #[]))) .nil) (.eff (.call 72) (.cons (.inp 1) .nil) (.chk none (.bin .neq) (.cons (.bv 7) (.cons (.bv 8) .nil)) (.isb none (.bv 6) (.bnd (.op (.bin .neq) (.cons (.bv 7) (.cons (.bv 8) .nil))) (.ite (.bv 9) false (.eff (.call 28) (.cons (.ite (.bv 9) false (.inp 0) (.cst (.tuple #[]))) .nil) (.eff (.call 73) (.cons (.inp 1) .nil) (.chk none (.bin .neq) (.cons (.bv 10) (.cons (.bv 11) .nil)) (.isb none (.bv 9) (.bnd (.op (.bin .neq) (.cons (.bv 10) (.cons (.bv 11) .nil))) (.ite (.bv 12) false (.eff (.call 18) (.cons (.ite (.bv 12) false (.inp 0) (.cst (.tuple #[]))) .nil) (.eff (.call 74) (.cons (.inp 1) .nil) (.chk none (.bin .neq) (.cons (.bv 13) (.cons (.bv 14) .nil)) (.isb none (.bv 12) (.done [] (some (.op (.bin .neq) (.cons (.bv 13) (.cons (.bv 14) .nil))))))))) (.isb none (.bv 12) (.done [] (some (.cst (.bool true))))))))))) (.isb none (.bv 9) (.isb none (.cst (.bool true)) (.done [] (some (.cst (.bool true)))))))))))) (.isb none (.bv 6) (.isb none (.cst (.bool true)) (.isb none (.cst (.bool true)) (.done [] (some (.cst (.bool true))))))))))))) (.isb none (.bv 3) (.isb none (.cst (.bool true)) (.isb none (.cst (.bool true)) (.isb none (.cst (.bool true)) (.done [] (some (.cst (.bool true))))))))))))) (.isb none (.bv 1) (.isb none (.cst (.bool true)) (.isb none (.cst (.bool true)) (.isb none (.cst (.bool true)) (.isb none (.cst (.bool true)) (.done [] (some (.cst (.bool true))))))))))))) h32_2 .skip) h32_1)
@[simp] theorem h32_3_wp {P : Program} {F : PF P} {Q : EX → List Value → World → Prop} {env : List Value} {w : World} : h32_3.wp F Q env w = HC.wp F (.seq (.br (.eff (.call 43) (.cons (.inp 3) (.cons (.inp 5) .nil)) (.chk none (.un .not) (.cons (.bv 0) .nil) (.bnd (.op (.un .not) (.cons (.bv 0) .nil)) (.ite (.bv 1) false (.eff (.call 43) (.cons (.ite (.bv 1) false (.inp 4) (.cst (.tuple #[]))) (.cons (.ite (.bv 1) false (.inp 5) (.cst (.tuple #[]))) .nil)) (.chk none (.un .not) (.cons (.bv 2) .nil) (.isb none (.bv 1) (.bnd (.op (.un .not) (.cons (.bv 2) .nil)) (.ite (.bv 3) false (.eff (.call 30) (.cons (.ite (.bv 3) false (.inp 0) (.cst (.tuple #[]))) .nil) (.eff (.call 71) (.cons (.inp 1) .nil) (.chk none (.bin .neq) (.cons (.bv 4) (.cons (.bv 5) .nil)) (.isb none (.bv 3) (.bnd (.op (.bin .neq) (.cons (.bv 4) (.cons (.bv 5) .nil))) (.ite (.bv 6) false (.eff (.call 37) (.cons (.ite (.bv 6) false (.inp 0) (.cst (.tuple #[]))) .nil) (.eff (.call 72) (.cons (.inp 1) .nil) (.chk none (.bin .neq) (.cons (.bv 7) (.cons (.bv 8) .nil)) (.isb none (.bv 6) (.bnd (.op (.bin .neq) (.cons (.bv 7) (.cons (.bv 8) .nil))) (.ite (.bv 9) false (.eff (.call 28) (.cons (.ite (.bv 9) false (.inp 0) (.cst (.tuple #[]))) .nil) (.eff (.call 73) (.cons (.inp 1) .nil) (.chk none (.bin .neq) (.cons (.bv 10) (.cons (.bv 11) .nil)) (.isb none (.bv 9) (.bnd (.op (.bin .neq) (.cons (.bv 10) (.cons (.bv 11) .nil))) (.ite (.bv 12) false (.eff (.call 18) (.cons (.ite (.bv 12) false (.inp 0) (.cst (.tuple #[]))) .nil) (.eff (.call 74) (.cons (.inp 1) .nil) (.chk none (.bin .neq) (.cons (.bv 13) (.cons (.bv 14) .nil)) (.isb none (.bv 12) (.done [] (some (.op (.bin .neq) (.cons (.bv 13) (.cons (.bv 14) .nil))))))))) (.isb none (.bv 12) (.done [] (some (.cst (.bool true))))))))))) (.isb none (.bv 9) (.isb none (.cst (.bool true)) (.done [] (some (.cst (.bool true)))))))))))) (.isb none (.bv 6) (.isb none (.cst (.bool true)) (.isb none (.cst (.bool true)) (.done [] (some (.cst (.bool true))))))))))))) (.isb none (.bv 3) (.isb none (.cst (.bool true)) (.isb none (.cst (.bool true)) (.isb none (.cst (.bool true)) (.done [] (some (.cst (.bool true))))))))))))) (.isb none (.bv 1) (.isb none (.cst (.bool true)) (.isb none (.cst (.bool true)) (.isb none (.cst (.bool true)) (.isb none (.cst (.bool true)) (.done [] (some (.cst (.bool true))))))))))))) h32_2 .skip) h32_1) Q env w := rfl
def h32_4 : HC := (.seq (.reg (.eff (.call 58) (.cons (.inp 1) .nil) (.done [(5, (.bv 0))] none))) h32_3)
@[simp] theorem h32_4_wp {P : Program} {F : PF P} {Q : EX → List Value → World → Prop} {env : List Value} {w : World} : h32_4.wp F Q env w = HC.wp F (.seq (.reg (.eff (.call 58) (.cons (.inp 1) .nil) (.done [(5, (.bv 0))] none))) h32_3) Q env w := rfl
def h32_5 : HC := (.seq (.reg (.eff (.call 29) (.cons (.inp 0) .nil) (.done [(4, (.bv 0))] none))) h32_4)
@[simp] theorem h32_5_wp {P : Program} {F : PF P} {Q : EX → List Value → World → Prop} {env : List Value} {w : World} : h32_5.wp F Q env w = HC.wp F (.seq (.reg (.eff (.call 29) (.cons (.inp 0) .nil) (.done [(4, (.bv 0))] none))) h32_4) Q env w := rfl
def h32_6 : HC := (.seq (.reg (.eff (.call 29) (.cons (.inp 0) .nil) (.done [(3, (.bv 0))] none))) h32_5)
@[simp] theorem h32_6_wp {P : Program} {F : PF P} {Q : EX → List Value → World → Prop} {env : List Value} {w : World} : h32_6.wp F Q env w = HC.wp F (.seq (.reg (.eff (.call 29) (.cons (.inp 0) .nil) (.done [(3, (.bv 0))] none))) h32_5) Q env w := rfl
def l32 : Lifted := ⟨[0, 1, 4, 5, 6, 7], 57, [.slot 2], (.seq (.reg (.done [(2, (.cst (.bool false)))] none)) h32_6)⟩
theorem l32_ok : liftFn U1 32 400 = some l32 := by kernel_rfl

-- bazaar/bazaarlaw14.plays
def h31_0 : HC := (.seq (.reg (.done [(4, (.cst (.bool true)))] none)) .ret)
@[simp] theorem h31_0_wp {P : Program} {F : PF P} {Q : EX → List Value → World → Prop} {env : List Value} {w : World} : h31_0.wp F Q env w = HC.wp F (.seq (.reg (.done [(4, (.cst (.bool true)))] none)) .ret) Q env w := rfl
def h31_1 : HC := (.seq (.reg (.chk none (.bin .eql) (.cons (.inp 5) (.cons (.inp 7) .nil)) (.bnd (.op (.bin .eql) (.cons (.inp 5) (.cons (.inp 7) .nil))) (.chk (some ((.bv 0), true)) (.cal 10) (.cons (.inp 8) .nil) (.chk (some ((.bv 0), true)) (.bin .eql) (.cons (.op (.cal 10) (.cons (.inp 8) .nil)) (.cons (.inp 6) .nil)) (.isb none (.bv 0) (.done [(4, (.ite (.bv 0) true (.op (.bin .eql) (.cons (.op (.cal 10) (.cons (.inp 8) .nil)) (.cons (.inp 6) .nil))) (.cst (.bool false))))] none))))))) .ret)
@[simp] theorem h31_1_wp {P : Program} {F : PF P} {Q : EX → List Value → World → Prop} {env : List Value} {w : World} : h31_1.wp F Q env w = HC.wp F (.seq (.reg (.chk none (.bin .eql) (.cons (.inp 5) (.cons (.inp 7) .nil)) (.bnd (.op (.bin .eql) (.cons (.inp 5) (.cons (.inp 7) .nil))) (.chk (some ((.bv 0), true)) (.cal 10) (.cons (.inp 8) .nil) (.chk (some ((.bv 0), true)) (.bin .eql) (.cons (.op (.cal 10) (.cons (.inp 8) .nil)) (.cons (.inp 6) .nil)) (.isb none (.bv 0) (.done [(4, (.ite (.bv 0) true (.op (.bin .eql) (.cons (.op (.cal 10) (.cons (.inp 8) .nil)) (.cons (.inp 6) .nil))) (.cst (.bool false))))] none))))))) .ret) Q env w := rfl
def h31_2 : HC := (.seq (.reg (.chk none (.fld 5) (.cons (.inp 3) .nil) (.eff (.ld false 1) (.cons (.op (.fld 5) (.cons (.inp 3) .nil)) .nil) (.eff (.call 13) (.cons (.inp 0) (.cons (.bv 0) .nil)) (.chk none (.ext 0) (.cons (.bv 1) .nil) (.chk none (.ext 1) (.cons (.bv 1) .nil) (.done [(7, (.op (.ext 0) (.cons (.bv 1) .nil))), (8, (.op (.ext 1) (.cons (.bv 1) .nil)))] none))))))) h31_1)
@[simp] theorem h31_2_wp {P : Program} {F : PF P} {Q : EX → List Value → World → Prop} {env : List Value} {w : World} : h31_2.wp F Q env w = HC.wp F (.seq (.reg (.chk none (.fld 5) (.cons (.inp 3) .nil) (.eff (.ld false 1) (.cons (.op (.fld 5) (.cons (.inp 3) .nil)) .nil) (.eff (.call 13) (.cons (.inp 0) (.cons (.bv 0) .nil)) (.chk none (.ext 0) (.cons (.bv 1) .nil) (.chk none (.ext 1) (.cons (.bv 1) .nil) (.done [(7, (.op (.ext 0) (.cons (.bv 1) .nil))), (8, (.op (.ext 1) (.cons (.bv 1) .nil)))] none))))))) h31_1) Q env w := rfl
def h31_3 : HC := (.seq (.reg (.chk none (.fld 5) (.cons (.inp 3) .nil) (.eff (.ld false 1) (.cons (.op (.fld 5) (.cons (.inp 3) .nil)) .nil) (.eff (.call 60) (.cons (.inp 1) (.cons (.bv 0) .nil)) (.chk none (.ext 0) (.cons (.bv 1) .nil) (.chk none (.ext 1) (.cons (.bv 1) .nil) (.done [(5, (.op (.ext 0) (.cons (.bv 1) .nil))), (6, (.op (.ext 1) (.cons (.bv 1) .nil)))] none))))))) h31_2)
@[simp] theorem h31_3_wp {P : Program} {F : PF P} {Q : EX → List Value → World → Prop} {env : List Value} {w : World} : h31_3.wp F Q env w = HC.wp F (.seq (.reg (.chk none (.fld 5) (.cons (.inp 3) .nil) (.eff (.ld false 1) (.cons (.op (.fld 5) (.cons (.inp 3) .nil)) .nil) (.eff (.call 60) (.cons (.inp 1) (.cons (.bv 0) .nil)) (.chk none (.ext 0) (.cons (.bv 1) .nil) (.chk none (.ext 1) (.cons (.bv 1) .nil) (.done [(5, (.op (.ext 0) (.cons (.bv 1) .nil))), (6, (.op (.ext 1) (.cons (.bv 1) .nil)))] none))))))) h31_2) Q env w := rfl
def h31_4 : HC := (.seq (.reg (.chk none (.cal 10) (.cons (.inp 10) .nil) (.chk none (.bin .eql) (.cons (.op (.cal 10) (.cons (.inp 10) .nil)) (.cons (.inp 9) .nil)) (.done [(4, (.op (.bin .eql) (.cons (.op (.cal 10) (.cons (.inp 10) .nil)) (.cons (.inp 9) .nil))))] none)))) .ret)
@[simp] theorem h31_4_wp {P : Program} {F : PF P} {Q : EX → List Value → World → Prop} {env : List Value} {w : World} : h31_4.wp F Q env w = HC.wp F (.seq (.reg (.chk none (.cal 10) (.cons (.inp 10) .nil) (.chk none (.bin .eql) (.cons (.op (.cal 10) (.cons (.inp 10) .nil)) (.cons (.inp 9) .nil)) (.done [(4, (.op (.bin .eql) (.cons (.op (.cal 10) (.cons (.inp 10) .nil)) (.cons (.inp 9) .nil))))] none)))) .ret) Q env w := rfl
def h31_5 : HC := (.seq (.reg (.chk none (.fld 2) (.cons (.inp 3) .nil) (.eff (.ld false 1) (.cons (.op (.fld 2) (.cons (.inp 3) .nil)) .nil) (.chk none (.fld 4) (.cons (.inp 3) .nil) (.eff (.ld false 1) (.cons (.op (.fld 4) (.cons (.inp 3) .nil)) .nil) (.eff (.call 62) (.cons (.inp 0) (.cons (.bv 0) (.cons (.bv 1) .nil))) (.done [(10, (.bv 2))] none))))))) h31_4)
@[simp] theorem h31_5_wp {P : Program} {F : PF P} {Q : EX → List Value → World → Prop} {env : List Value} {w : World} : h31_5.wp F Q env w = HC.wp F (.seq (.reg (.chk none (.fld 2) (.cons (.inp 3) .nil) (.eff (.ld false 1) (.cons (.op (.fld 2) (.cons (.inp 3) .nil)) .nil) (.chk none (.fld 4) (.cons (.inp 3) .nil) (.eff (.ld false 1) (.cons (.op (.fld 4) (.cons (.inp 3) .nil)) .nil) (.eff (.call 62) (.cons (.inp 0) (.cons (.bv 0) (.cons (.bv 1) .nil))) (.done [(10, (.bv 2))] none))))))) h31_4) Q env w := rfl
def h31_6 : HC := (.seq (.reg (.chk none (.fld 2) (.cons (.inp 3) .nil) (.eff (.ld false 1) (.cons (.op (.fld 2) (.cons (.inp 3) .nil)) .nil) (.chk none (.fld 4) (.cons (.inp 3) .nil) (.eff (.ld false 1) (.cons (.op (.fld 4) (.cons (.inp 3) .nil)) .nil) (.eff (.call 61) (.cons (.inp 1) (.cons (.bv 0) (.cons (.bv 1) .nil))) (.done [(9, (.bv 2))] none))))))) h31_5)
@[simp] theorem h31_6_wp {P : Program} {F : PF P} {Q : EX → List Value → World → Prop} {env : List Value} {w : World} : h31_6.wp F Q env w = HC.wp F (.seq (.reg (.chk none (.fld 2) (.cons (.inp 3) .nil) (.eff (.ld false 1) (.cons (.op (.fld 2) (.cons (.inp 3) .nil)) .nil) (.chk none (.fld 4) (.cons (.inp 3) .nil) (.eff (.ld false 1) (.cons (.op (.fld 4) (.cons (.inp 3) .nil)) .nil) (.eff (.call 61) (.cons (.inp 1) (.cons (.bv 0) (.cons (.bv 1) .nil))) (.done [(9, (.bv 2))] none))))))) h31_5) Q env w := rfl
def h31_7 : HC := (.seq (.reg (.chk none (.cal 10) (.cons (.inp 12) .nil) (.chk none (.bin .eql) (.cons (.op (.cal 10) (.cons (.inp 12) .nil)) (.cons (.inp 11) .nil)) (.done [(4, (.op (.bin .eql) (.cons (.op (.cal 10) (.cons (.inp 12) .nil)) (.cons (.inp 11) .nil))))] none)))) .ret)
@[simp] theorem h31_7_wp {P : Program} {F : PF P} {Q : EX → List Value → World → Prop} {env : List Value} {w : World} : h31_7.wp F Q env w = HC.wp F (.seq (.reg (.chk none (.cal 10) (.cons (.inp 12) .nil) (.chk none (.bin .eql) (.cons (.op (.cal 10) (.cons (.inp 12) .nil)) (.cons (.inp 11) .nil)) (.done [(4, (.op (.bin .eql) (.cons (.op (.cal 10) (.cons (.inp 12) .nil)) (.cons (.inp 11) .nil))))] none)))) .ret) Q env w := rfl
def h31_8 : HC := (.seq (.reg (.chk none (.fld 2) (.cons (.inp 3) .nil) (.eff (.ld false 1) (.cons (.op (.fld 2) (.cons (.inp 3) .nil)) .nil) (.chk none (.fld 3) (.cons (.inp 3) .nil) (.eff (.ld false 1) (.cons (.op (.fld 3) (.cons (.inp 3) .nil)) .nil) (.chk none (.fld 4) (.cons (.inp 3) .nil) (.eff (.ld false 1) (.cons (.op (.fld 4) (.cons (.inp 3) .nil)) .nil) (.eff (.call 64) (.cons (.inp 0) (.cons (.bv 0) (.cons (.bv 1) (.cons (.bv 2) .nil)))) (.done [(12, (.bv 3))] none))))))))) h31_7)
@[simp] theorem h31_8_wp {P : Program} {F : PF P} {Q : EX → List Value → World → Prop} {env : List Value} {w : World} : h31_8.wp F Q env w = HC.wp F (.seq (.reg (.chk none (.fld 2) (.cons (.inp 3) .nil) (.eff (.ld false 1) (.cons (.op (.fld 2) (.cons (.inp 3) .nil)) .nil) (.chk none (.fld 3) (.cons (.inp 3) .nil) (.eff (.ld false 1) (.cons (.op (.fld 3) (.cons (.inp 3) .nil)) .nil) (.chk none (.fld 4) (.cons (.inp 3) .nil) (.eff (.ld false 1) (.cons (.op (.fld 4) (.cons (.inp 3) .nil)) .nil) (.eff (.call 64) (.cons (.inp 0) (.cons (.bv 0) (.cons (.bv 1) (.cons (.bv 2) .nil)))) (.done [(12, (.bv 3))] none))))))))) h31_7) Q env w := rfl
def h31_9 : HC := (.seq (.reg (.chk none (.fld 2) (.cons (.inp 3) .nil) (.eff (.ld false 1) (.cons (.op (.fld 2) (.cons (.inp 3) .nil)) .nil) (.chk none (.fld 3) (.cons (.inp 3) .nil) (.eff (.ld false 1) (.cons (.op (.fld 3) (.cons (.inp 3) .nil)) .nil) (.chk none (.fld 4) (.cons (.inp 3) .nil) (.eff (.ld false 1) (.cons (.op (.fld 4) (.cons (.inp 3) .nil)) .nil) (.eff (.call 63) (.cons (.inp 1) (.cons (.bv 0) (.cons (.bv 1) (.cons (.bv 2) .nil)))) (.done [(11, (.bv 3))] none))))))))) h31_8)
@[simp] theorem h31_9_wp {P : Program} {F : PF P} {Q : EX → List Value → World → Prop} {env : List Value} {w : World} : h31_9.wp F Q env w = HC.wp F (.seq (.reg (.chk none (.fld 2) (.cons (.inp 3) .nil) (.eff (.ld false 1) (.cons (.op (.fld 2) (.cons (.inp 3) .nil)) .nil) (.chk none (.fld 3) (.cons (.inp 3) .nil) (.eff (.ld false 1) (.cons (.op (.fld 3) (.cons (.inp 3) .nil)) .nil) (.chk none (.fld 4) (.cons (.inp 3) .nil) (.eff (.ld false 1) (.cons (.op (.fld 4) (.cons (.inp 3) .nil)) .nil) (.eff (.call 63) (.cons (.inp 1) (.cons (.bv 0) (.cons (.bv 1) (.cons (.bv 2) .nil)))) (.done [(11, (.bv 3))] none))))))))) h31_8) Q env w := rfl
def h31_10 : HC := (.seq (.reg (.chk none (.cal 10) (.cons (.inp 14) .nil) (.chk none (.bin .eql) (.cons (.op (.cal 10) (.cons (.inp 14) .nil)) (.cons (.inp 13) .nil)) (.done [(4, (.op (.bin .eql) (.cons (.op (.cal 10) (.cons (.inp 14) .nil)) (.cons (.inp 13) .nil))))] none)))) .ret)
@[simp] theorem h31_10_wp {P : Program} {F : PF P} {Q : EX → List Value → World → Prop} {env : List Value} {w : World} : h31_10.wp F Q env w = HC.wp F (.seq (.reg (.chk none (.cal 10) (.cons (.inp 14) .nil) (.chk none (.bin .eql) (.cons (.op (.cal 10) (.cons (.inp 14) .nil)) (.cons (.inp 13) .nil)) (.done [(4, (.op (.bin .eql) (.cons (.op (.cal 10) (.cons (.inp 14) .nil)) (.cons (.inp 13) .nil))))] none)))) .ret) Q env w := rfl
def h31_11 : HC := (.seq (.reg (.chk none (.fld 2) (.cons (.inp 3) .nil) (.eff (.ld false 1) (.cons (.op (.fld 2) (.cons (.inp 3) .nil)) .nil) (.chk none (.fld 4) (.cons (.inp 3) .nil) (.eff (.ld false 1) (.cons (.op (.fld 4) (.cons (.inp 3) .nil)) .nil) (.eff (.call 34) (.cons (.inp 0) (.cons (.bv 0) (.cons (.bv 1) .nil))) (.done [(14, (.bv 2))] none))))))) h31_10)
@[simp] theorem h31_11_wp {P : Program} {F : PF P} {Q : EX → List Value → World → Prop} {env : List Value} {w : World} : h31_11.wp F Q env w = HC.wp F (.seq (.reg (.chk none (.fld 2) (.cons (.inp 3) .nil) (.eff (.ld false 1) (.cons (.op (.fld 2) (.cons (.inp 3) .nil)) .nil) (.chk none (.fld 4) (.cons (.inp 3) .nil) (.eff (.ld false 1) (.cons (.op (.fld 4) (.cons (.inp 3) .nil)) .nil) (.eff (.call 34) (.cons (.inp 0) (.cons (.bv 0) (.cons (.bv 1) .nil))) (.done [(14, (.bv 2))] none))))))) h31_10) Q env w := rfl
def h31_12 : HC := (.seq (.reg (.chk none (.fld 2) (.cons (.inp 3) .nil) (.eff (.ld false 1) (.cons (.op (.fld 2) (.cons (.inp 3) .nil)) .nil) (.chk none (.fld 4) (.cons (.inp 3) .nil) (.eff (.ld false 1) (.cons (.op (.fld 4) (.cons (.inp 3) .nil)) .nil) (.eff (.call 65) (.cons (.inp 1) (.cons (.bv 0) (.cons (.bv 1) .nil))) (.done [(13, (.bv 2))] none))))))) h31_11)
@[simp] theorem h31_12_wp {P : Program} {F : PF P} {Q : EX → List Value → World → Prop} {env : List Value} {w : World} : h31_12.wp F Q env w = HC.wp F (.seq (.reg (.chk none (.fld 2) (.cons (.inp 3) .nil) (.eff (.ld false 1) (.cons (.op (.fld 2) (.cons (.inp 3) .nil)) .nil) (.chk none (.fld 4) (.cons (.inp 3) .nil) (.eff (.ld false 1) (.cons (.op (.fld 4) (.cons (.inp 3) .nil)) .nil) (.eff (.call 65) (.cons (.inp 1) (.cons (.bv 0) (.cons (.bv 1) .nil))) (.done [(13, (.bv 2))] none))))))) h31_11) Q env w := rfl
def h31_13 : HC := (.seq (.reg (.chk none (.cal 10) (.cons (.inp 16) .nil) (.chk none (.bin .eql) (.cons (.op (.cal 10) (.cons (.inp 16) .nil)) (.cons (.inp 15) .nil)) (.done [(4, (.op (.bin .eql) (.cons (.op (.cal 10) (.cons (.inp 16) .nil)) (.cons (.inp 15) .nil))))] none)))) .ret)
@[simp] theorem h31_13_wp {P : Program} {F : PF P} {Q : EX → List Value → World → Prop} {env : List Value} {w : World} : h31_13.wp F Q env w = HC.wp F (.seq (.reg (.chk none (.cal 10) (.cons (.inp 16) .nil) (.chk none (.bin .eql) (.cons (.op (.cal 10) (.cons (.inp 16) .nil)) (.cons (.inp 15) .nil)) (.done [(4, (.op (.bin .eql) (.cons (.op (.cal 10) (.cons (.inp 16) .nil)) (.cons (.inp 15) .nil))))] none)))) .ret) Q env w := rfl
def h31_14 : HC := (.seq (.reg (.chk none (.fld 2) (.cons (.inp 3) .nil) (.eff (.ld false 1) (.cons (.op (.fld 2) (.cons (.inp 3) .nil)) .nil) (.chk none (.fld 4) (.cons (.inp 3) .nil) (.eff (.ld false 1) (.cons (.op (.fld 4) (.cons (.inp 3) .nil)) .nil) (.eff (.call 35) (.cons (.inp 0) (.cons (.bv 0) (.cons (.bv 1) .nil))) (.done [(16, (.bv 2))] none))))))) h31_13)
@[simp] theorem h31_14_wp {P : Program} {F : PF P} {Q : EX → List Value → World → Prop} {env : List Value} {w : World} : h31_14.wp F Q env w = HC.wp F (.seq (.reg (.chk none (.fld 2) (.cons (.inp 3) .nil) (.eff (.ld false 1) (.cons (.op (.fld 2) (.cons (.inp 3) .nil)) .nil) (.chk none (.fld 4) (.cons (.inp 3) .nil) (.eff (.ld false 1) (.cons (.op (.fld 4) (.cons (.inp 3) .nil)) .nil) (.eff (.call 35) (.cons (.inp 0) (.cons (.bv 0) (.cons (.bv 1) .nil))) (.done [(16, (.bv 2))] none))))))) h31_13) Q env w := rfl
def h31_15 : HC := (.seq (.reg (.chk none (.fld 2) (.cons (.inp 3) .nil) (.eff (.ld false 1) (.cons (.op (.fld 2) (.cons (.inp 3) .nil)) .nil) (.chk none (.fld 4) (.cons (.inp 3) .nil) (.eff (.ld false 1) (.cons (.op (.fld 4) (.cons (.inp 3) .nil)) .nil) (.eff (.call 66) (.cons (.inp 1) (.cons (.bv 0) (.cons (.bv 1) .nil))) (.done [(15, (.bv 2))] none))))))) h31_14)
@[simp] theorem h31_15_wp {P : Program} {F : PF P} {Q : EX → List Value → World → Prop} {env : List Value} {w : World} : h31_15.wp F Q env w = HC.wp F (.seq (.reg (.chk none (.fld 2) (.cons (.inp 3) .nil) (.eff (.ld false 1) (.cons (.op (.fld 2) (.cons (.inp 3) .nil)) .nil) (.chk none (.fld 4) (.cons (.inp 3) .nil) (.eff (.ld false 1) (.cons (.op (.fld 4) (.cons (.inp 3) .nil)) .nil) (.eff (.call 66) (.cons (.inp 1) (.cons (.bv 0) (.cons (.bv 1) .nil))) (.done [(15, (.bv 2))] none))))))) h31_14) Q env w := rfl
def h31_16 : HC := (.seq (.reg (.eff (.ld true 2) (.cons (.inp 17) .nil) (.eff (.ld true 2) (.cons (.inp 19) .nil) (.eff (.bin .eql 66 (.tmp 150) (.tmp 151)) (.cons (.bv 0) (.cons (.bv 1) .nil)) (.chk (some ((.bv 2), true)) (.cal 10) (.cons (.inp 20) .nil) (.chk (some ((.bv 2), true)) (.bin .eql) (.cons (.op (.cal 10) (.cons (.inp 20) .nil)) (.cons (.inp 18) .nil)) (.isb none (.bv 2) (.done [(4, (.ite (.bv 2) true (.op (.bin .eql) (.cons (.op (.cal 10) (.cons (.inp 20) .nil)) (.cons (.inp 18) .nil))) (.cst (.bool false))))] none)))))))) .ret)
@[simp] theorem h31_16_wp {P : Program} {F : PF P} {Q : EX → List Value → World → Prop} {env : List Value} {w : World} : h31_16.wp F Q env w = HC.wp F (.seq (.reg (.eff (.ld true 2) (.cons (.inp 17) .nil) (.eff (.ld true 2) (.cons (.inp 19) .nil) (.eff (.bin .eql 66 (.tmp 150) (.tmp 151)) (.cons (.bv 0) (.cons (.bv 1) .nil)) (.chk (some ((.bv 2), true)) (.cal 10) (.cons (.inp 20) .nil) (.chk (some ((.bv 2), true)) (.bin .eql) (.cons (.op (.cal 10) (.cons (.inp 20) .nil)) (.cons (.inp 18) .nil)) (.isb none (.bv 2) (.done [(4, (.ite (.bv 2) true (.op (.bin .eql) (.cons (.op (.cal 10) (.cons (.inp 20) .nil)) (.cons (.inp 18) .nil))) (.cst (.bool false))))] none)))))))) .ret) Q env w := rfl
def h31_17 : HC := (.seq (.reg (.chk none (.fld 2) (.cons (.inp 3) .nil) (.eff (.ld false 1) (.cons (.op (.fld 2) (.cons (.inp 3) .nil)) .nil) (.eff (.call 36) (.cons (.inp 0) (.cons (.bv 0) .nil)) (.chk none (.ext 0) (.cons (.bv 1) .nil) (.chk none (.ext 1) (.cons (.bv 1) .nil) (.eff (.new 66 (.agg #[(.string ⟨#[]⟩), (.int .u64 0)])) .nil (.eff (.st 2) (.cons (.bv 2) (.cons (.op (.ext 0) (.cons (.bv 1) .nil)) .nil)) (.done [(19, (.bv 2)), (20, (.op (.ext 1) (.cons (.bv 1) .nil)))] none))))))))) h31_16)
@[simp] theorem h31_17_wp {P : Program} {F : PF P} {Q : EX → List Value → World → Prop} {env : List Value} {w : World} : h31_17.wp F Q env w = HC.wp F (.seq (.reg (.chk none (.fld 2) (.cons (.inp 3) .nil) (.eff (.ld false 1) (.cons (.op (.fld 2) (.cons (.inp 3) .nil)) .nil) (.eff (.call 36) (.cons (.inp 0) (.cons (.bv 0) .nil)) (.chk none (.ext 0) (.cons (.bv 1) .nil) (.chk none (.ext 1) (.cons (.bv 1) .nil) (.eff (.new 66 (.agg #[(.string ⟨#[]⟩), (.int .u64 0)])) .nil (.eff (.st 2) (.cons (.bv 2) (.cons (.op (.ext 0) (.cons (.bv 1) .nil)) .nil)) (.done [(19, (.bv 2)), (20, (.op (.ext 1) (.cons (.bv 1) .nil)))] none))))))))) h31_16) Q env w := rfl
def h31_18 : HC := (.seq (.reg (.chk none (.fld 2) (.cons (.inp 3) .nil) (.eff (.ld false 1) (.cons (.op (.fld 2) (.cons (.inp 3) .nil)) .nil) (.eff (.call 67) (.cons (.inp 1) (.cons (.bv 0) .nil)) (.chk none (.ext 0) (.cons (.bv 1) .nil) (.chk none (.ext 1) (.cons (.bv 1) .nil) (.eff (.new 66 (.agg #[(.string ⟨#[]⟩), (.int .u64 0)])) .nil (.eff (.st 2) (.cons (.bv 2) (.cons (.op (.ext 0) (.cons (.bv 1) .nil)) .nil)) (.done [(17, (.bv 2)), (18, (.op (.ext 1) (.cons (.bv 1) .nil)))] none))))))))) h31_17)
@[simp] theorem h31_18_wp {P : Program} {F : PF P} {Q : EX → List Value → World → Prop} {env : List Value} {w : World} : h31_18.wp F Q env w = HC.wp F (.seq (.reg (.chk none (.fld 2) (.cons (.inp 3) .nil) (.eff (.ld false 1) (.cons (.op (.fld 2) (.cons (.inp 3) .nil)) .nil) (.eff (.call 67) (.cons (.inp 1) (.cons (.bv 0) .nil)) (.chk none (.ext 0) (.cons (.bv 1) .nil) (.chk none (.ext 1) (.cons (.bv 1) .nil) (.eff (.new 66 (.agg #[(.string ⟨#[]⟩), (.int .u64 0)])) .nil (.eff (.st 2) (.cons (.bv 2) (.cons (.op (.ext 0) (.cons (.bv 1) .nil)) .nil)) (.done [(17, (.bv 2)), (18, (.op (.ext 1) (.cons (.bv 1) .nil)))] none))))))))) h31_17) Q env w := rfl
def h31_19 : HC := (.seq (.reg (.ite (.inp 28) true (.eff (.call 38) (.cons (.ite (.inp 28) true (.inp 27) (.cst (.tuple #[]))) (.cons (.ite (.inp 28) true (.inp 25) (.cst (.tuple #[]))) .nil)) (.isb none (.inp 28) (.done [(4, (.bv 0))] none))) (.isb none (.inp 28) (.done [(4, (.cst (.bool false)))] none)))) .ret)
@[simp] theorem h31_19_wp {P : Program} {F : PF P} {Q : EX → List Value → World → Prop} {env : List Value} {w : World} : h31_19.wp F Q env w = HC.wp F (.seq (.reg (.ite (.inp 28) true (.eff (.call 38) (.cons (.ite (.inp 28) true (.inp 27) (.cst (.tuple #[]))) (.cons (.ite (.inp 28) true (.inp 25) (.cst (.tuple #[]))) .nil)) (.isb none (.inp 28) (.done [(4, (.bv 0))] none))) (.isb none (.inp 28) (.done [(4, (.cst (.bool false)))] none)))) .ret) Q env w := rfl
def h31_20 : HC := (.seq (.reg (.eff (.call 70) (.cons (.inp 26) .nil) (.done [] none))) h31_19)
@[simp] theorem h31_20_wp {P : Program} {F : PF P} {Q : EX → List Value → World → Prop} {env : List Value} {w : World} : h31_20.wp F Q env w = HC.wp F (.seq (.reg (.eff (.call 70) (.cons (.inp 26) .nil) (.done [] none))) h31_19) Q env w := rfl
def h31_21 : HC := (.seq (.reg (.chk none (.bin .eql) (.cons (.inp 21) (.cons (.inp 23) .nil)) (.bnd (.op (.bin .eql) (.cons (.inp 21) (.cons (.inp 23) .nil))) (.chk (some ((.bv 0), true)) (.eqB false) (.cons (.inp 22) (.cons (.inp 24) .nil)) (.isb none (.bv 0) (.bnd (.ite (.bv 0) true (.op (.eqB false) (.cons (.inp 22) (.cons (.inp 24) .nil))) (.cst (.bool false))) (.ite (.bv 1) true (.eff (.call 38) (.cons (.ite (.bv 1) true (.inp 26) (.cst (.tuple #[]))) (.cons (.ite (.bv 1) true (.inp 25) (.cst (.tuple #[]))) .nil)) (.isb none (.bv 1) (.ite (.bv 2) true (.eff (.call 38) (.cons (.ite (.bv 2) true (.inp 27) (.cst (.tuple #[]))) (.cons (.ite (.bv 2) true (.inp 25) (.cst (.tuple #[]))) .nil)) (.isb none (.bv 2) (.done [(28, (.bv 3))] none))) (.isb none (.bv 2) (.done [(28, (.cst (.bool false)))] none))))) (.isb none (.bv 1) (.isb none (.cst (.bool false)) (.done [(28, (.cst (.bool false)))] none)))))))))) h31_20)
@[simp] theorem h31_21_wp {P : Program} {F : PF P} {Q : EX → List Value → World → Prop} {env : List Value} {w : World} : h31_21.wp F Q env w = HC.wp F (.seq (.reg (.chk none (.bin .eql) (.cons (.inp 21) (.cons (.inp 23) .nil)) (.bnd (.op (.bin .eql) (.cons (.inp 21) (.cons (.inp 23) .nil))) (.chk (some ((.bv 0), true)) (.eqB false) (.cons (.inp 22) (.cons (.inp 24) .nil)) (.isb none (.bv 0) (.bnd (.ite (.bv 0) true (.op (.eqB false) (.cons (.inp 22) (.cons (.inp 24) .nil))) (.cst (.bool false))) (.ite (.bv 1) true (.eff (.call 38) (.cons (.ite (.bv 1) true (.inp 26) (.cst (.tuple #[]))) (.cons (.ite (.bv 1) true (.inp 25) (.cst (.tuple #[]))) .nil)) (.isb none (.bv 1) (.ite (.bv 2) true (.eff (.call 38) (.cons (.ite (.bv 2) true (.inp 27) (.cst (.tuple #[]))) (.cons (.ite (.bv 2) true (.inp 25) (.cst (.tuple #[]))) .nil)) (.isb none (.bv 2) (.done [(28, (.bv 3))] none))) (.isb none (.bv 2) (.done [(28, (.cst (.bool false)))] none))))) (.isb none (.bv 1) (.isb none (.cst (.bool false)) (.done [(28, (.cst (.bool false)))] none)))))))))) h31_20) Q env w := rfl
def h31_22 : HC := (.seq (.reg (.chk none (.fld 5) (.cons (.inp 3) .nil) (.eff (.ld false 1) (.cons (.op (.fld 5) (.cons (.inp 3) .nil)) .nil) (.eff (.call 16) (.cons (.inp 0) (.cons (.bv 0) .nil)) (.done [(27, (.bv 1))] none))))) h31_21)
@[simp] theorem h31_22_wp {P : Program} {F : PF P} {Q : EX → List Value → World → Prop} {env : List Value} {w : World} : h31_22.wp F Q env w = HC.wp F (.seq (.reg (.chk none (.fld 5) (.cons (.inp 3) .nil) (.eff (.ld false 1) (.cons (.op (.fld 5) (.cons (.inp 3) .nil)) .nil) (.eff (.call 16) (.cons (.inp 0) (.cons (.bv 0) .nil)) (.done [(27, (.bv 1))] none))))) h31_21) Q env w := rfl
def h31_23 : HC := (.seq (.reg (.chk none (.fld 5) (.cons (.inp 3) .nil) (.eff (.ld false 1) (.cons (.op (.fld 5) (.cons (.inp 3) .nil)) .nil) (.eff (.call 16) (.cons (.inp 0) (.cons (.bv 0) .nil)) (.done [(26, (.bv 1))] none))))) h31_22)
@[simp] theorem h31_23_wp {P : Program} {F : PF P} {Q : EX → List Value → World → Prop} {env : List Value} {w : World} : h31_23.wp F Q env w = HC.wp F (.seq (.reg (.chk none (.fld 5) (.cons (.inp 3) .nil) (.eff (.ld false 1) (.cons (.op (.fld 5) (.cons (.inp 3) .nil)) .nil) (.eff (.call 16) (.cons (.inp 0) (.cons (.bv 0) .nil)) (.done [(26, (.bv 1))] none))))) h31_22) Q env w := rfl
def h31_24 : HC := (.seq (.reg (.chk none (.fld 5) (.cons (.inp 3) .nil) (.eff (.ld false 1) (.cons (.op (.fld 5) (.cons (.inp 3) .nil)) .nil) (.eff (.call 69) (.cons (.inp 1) (.cons (.bv 0) .nil)) (.done [(25, (.bv 1))] none))))) h31_23)
@[simp] theorem h31_24_wp {P : Program} {F : PF P} {Q : EX → List Value → World → Prop} {env : List Value} {w : World} : h31_24.wp F Q env w = HC.wp F (.seq (.reg (.chk none (.fld 5) (.cons (.inp 3) .nil) (.eff (.ld false 1) (.cons (.op (.fld 5) (.cons (.inp 3) .nil)) .nil) (.eff (.call 69) (.cons (.inp 1) (.cons (.bv 0) .nil)) (.done [(25, (.bv 1))] none))))) h31_23) Q env w := rfl
def h31_25 : HC := (.seq (.reg (.chk none (.fld 5) (.cons (.inp 3) .nil) (.eff (.ld false 1) (.cons (.op (.fld 5) (.cons (.inp 3) .nil)) .nil) (.eff (.call 14) (.cons (.inp 0) (.cons (.bv 0) .nil)) (.chk none (.ext 0) (.cons (.bv 1) .nil) (.chk none (.ext 1) (.cons (.bv 1) .nil) (.done [(23, (.op (.ext 0) (.cons (.bv 1) .nil))), (24, (.op (.ext 1) (.cons (.bv 1) .nil)))] none))))))) h31_24)
@[simp] theorem h31_25_wp {P : Program} {F : PF P} {Q : EX → List Value → World → Prop} {env : List Value} {w : World} : h31_25.wp F Q env w = HC.wp F (.seq (.reg (.chk none (.fld 5) (.cons (.inp 3) .nil) (.eff (.ld false 1) (.cons (.op (.fld 5) (.cons (.inp 3) .nil)) .nil) (.eff (.call 14) (.cons (.inp 0) (.cons (.bv 0) .nil)) (.chk none (.ext 0) (.cons (.bv 1) .nil) (.chk none (.ext 1) (.cons (.bv 1) .nil) (.done [(23, (.op (.ext 0) (.cons (.bv 1) .nil))), (24, (.op (.ext 1) (.cons (.bv 1) .nil)))] none))))))) h31_24) Q env w := rfl
def h31_26 : HC := (.seq (.reg (.chk none (.fld 5) (.cons (.inp 3) .nil) (.eff (.ld false 1) (.cons (.op (.fld 5) (.cons (.inp 3) .nil)) .nil) (.eff (.call 68) (.cons (.inp 1) (.cons (.bv 0) .nil)) (.chk none (.ext 0) (.cons (.bv 1) .nil) (.chk none (.ext 1) (.cons (.bv 1) .nil) (.done [(21, (.op (.ext 0) (.cons (.bv 1) .nil))), (22, (.op (.ext 1) (.cons (.bv 1) .nil)))] none))))))) h31_25)
@[simp] theorem h31_26_wp {P : Program} {F : PF P} {Q : EX → List Value → World → Prop} {env : List Value} {w : World} : h31_26.wp F Q env w = HC.wp F (.seq (.reg (.chk none (.fld 5) (.cons (.inp 3) .nil) (.eff (.ld false 1) (.cons (.op (.fld 5) (.cons (.inp 3) .nil)) .nil) (.eff (.call 68) (.cons (.inp 1) (.cons (.bv 0) .nil)) (.chk none (.ext 0) (.cons (.bv 1) .nil) (.chk none (.ext 1) (.cons (.bv 1) .nil) (.done [(21, (.op (.ext 0) (.cons (.bv 1) .nil))), (22, (.op (.ext 1) (.cons (.bv 1) .nil)))] none))))))) h31_25) Q env w := rfl
def h31_27 : HC := (.seq (.reg (.eff (.call 32) (.cons (.inp 0) (.cons (.inp 1) .nil)) (.done [(4, (.bv 0))] none))) .ret)
@[simp] theorem h31_27_wp {P : Program} {F : PF P} {Q : EX → List Value → World → Prop} {env : List Value} {w : World} : h31_27.wp F Q env w = HC.wp F (.seq (.reg (.eff (.call 32) (.cons (.inp 0) (.cons (.inp 1) .nil)) (.done [(4, (.bv 0))] none))) .ret) Q env w := rfl
def h31_28 : HC := (.br (.chk none (.bin .eql) (.cons (.inp 29) (.cons (.cst (.int .i64 8)) .nil)) (.done [] (some (.op (.bin .eql) (.cons (.inp 29) (.cons (.cst (.int .i64 8)) .nil)))))) h31_27 .skip)
@[simp] theorem h31_28_wp {P : Program} {F : PF P} {Q : EX → List Value → World → Prop} {env : List Value} {w : World} : h31_28.wp F Q env w = HC.wp F (.br (.chk none (.bin .eql) (.cons (.inp 29) (.cons (.cst (.int .i64 8)) .nil)) (.done [] (some (.op (.bin .eql) (.cons (.inp 29) (.cons (.cst (.int .i64 8)) .nil)))))) h31_27 .skip) Q env w := rfl
def h31_29 : HC := (.br (.chk none (.bin .eql) (.cons (.inp 29) (.cons (.cst (.int .i64 7)) .nil)) (.done [] (some (.op (.bin .eql) (.cons (.inp 29) (.cons (.cst (.int .i64 7)) .nil)))))) h31_26 h31_28)
@[simp] theorem h31_29_wp {P : Program} {F : PF P} {Q : EX → List Value → World → Prop} {env : List Value} {w : World} : h31_29.wp F Q env w = HC.wp F (.br (.chk none (.bin .eql) (.cons (.inp 29) (.cons (.cst (.int .i64 7)) .nil)) (.done [] (some (.op (.bin .eql) (.cons (.inp 29) (.cons (.cst (.int .i64 7)) .nil)))))) h31_26 h31_28) Q env w := rfl
def h31_30 : HC := (.br (.chk none (.bin .eql) (.cons (.inp 29) (.cons (.cst (.int .i64 6)) .nil)) (.done [] (some (.op (.bin .eql) (.cons (.inp 29) (.cons (.cst (.int .i64 6)) .nil)))))) h31_18 h31_29)
@[simp] theorem h31_30_wp {P : Program} {F : PF P} {Q : EX → List Value → World → Prop} {env : List Value} {w : World} : h31_30.wp F Q env w = HC.wp F (.br (.chk none (.bin .eql) (.cons (.inp 29) (.cons (.cst (.int .i64 6)) .nil)) (.done [] (some (.op (.bin .eql) (.cons (.inp 29) (.cons (.cst (.int .i64 6)) .nil)))))) h31_18 h31_29) Q env w := rfl
def h31_31 : HC := (.br (.chk none (.bin .eql) (.cons (.inp 29) (.cons (.cst (.int .i64 5)) .nil)) (.done [] (some (.op (.bin .eql) (.cons (.inp 29) (.cons (.cst (.int .i64 5)) .nil)))))) h31_15 h31_30)
@[simp] theorem h31_31_wp {P : Program} {F : PF P} {Q : EX → List Value → World → Prop} {env : List Value} {w : World} : h31_31.wp F Q env w = HC.wp F (.br (.chk none (.bin .eql) (.cons (.inp 29) (.cons (.cst (.int .i64 5)) .nil)) (.done [] (some (.op (.bin .eql) (.cons (.inp 29) (.cons (.cst (.int .i64 5)) .nil)))))) h31_15 h31_30) Q env w := rfl
def h31_32 : HC := (.br (.chk none (.bin .eql) (.cons (.inp 29) (.cons (.cst (.int .i64 4)) .nil)) (.done [] (some (.op (.bin .eql) (.cons (.inp 29) (.cons (.cst (.int .i64 4)) .nil)))))) h31_12 h31_31)
@[simp] theorem h31_32_wp {P : Program} {F : PF P} {Q : EX → List Value → World → Prop} {env : List Value} {w : World} : h31_32.wp F Q env w = HC.wp F (.br (.chk none (.bin .eql) (.cons (.inp 29) (.cons (.cst (.int .i64 4)) .nil)) (.done [] (some (.op (.bin .eql) (.cons (.inp 29) (.cons (.cst (.int .i64 4)) .nil)))))) h31_12 h31_31) Q env w := rfl
def h31_33 : HC := (.br (.chk none (.bin .eql) (.cons (.inp 29) (.cons (.cst (.int .i64 3)) .nil)) (.done [] (some (.op (.bin .eql) (.cons (.inp 29) (.cons (.cst (.int .i64 3)) .nil)))))) h31_9 h31_32)
@[simp] theorem h31_33_wp {P : Program} {F : PF P} {Q : EX → List Value → World → Prop} {env : List Value} {w : World} : h31_33.wp F Q env w = HC.wp F (.br (.chk none (.bin .eql) (.cons (.inp 29) (.cons (.cst (.int .i64 3)) .nil)) (.done [] (some (.op (.bin .eql) (.cons (.inp 29) (.cons (.cst (.int .i64 3)) .nil)))))) h31_9 h31_32) Q env w := rfl
def h31_34 : HC := (.br (.chk none (.bin .eql) (.cons (.inp 29) (.cons (.cst (.int .i64 2)) .nil)) (.done [] (some (.op (.bin .eql) (.cons (.inp 29) (.cons (.cst (.int .i64 2)) .nil)))))) h31_6 h31_33)
@[simp] theorem h31_34_wp {P : Program} {F : PF P} {Q : EX → List Value → World → Prop} {env : List Value} {w : World} : h31_34.wp F Q env w = HC.wp F (.br (.chk none (.bin .eql) (.cons (.inp 29) (.cons (.cst (.int .i64 2)) .nil)) (.done [] (some (.op (.bin .eql) (.cons (.inp 29) (.cons (.cst (.int .i64 2)) .nil)))))) h31_6 h31_33) Q env w := rfl
def h31_35 : HC := (.br (.chk none (.bin .eql) (.cons (.inp 29) (.cons (.cst (.int .i64 1)) .nil)) (.done [] (some (.op (.bin .eql) (.cons (.inp 29) (.cons (.cst (.int .i64 1)) .nil)))))) h31_3 h31_34)
@[simp] theorem h31_35_wp {P : Program} {F : PF P} {Q : EX → List Value → World → Prop} {env : List Value} {w : World} : h31_35.wp F Q env w = HC.wp F (.br (.chk none (.bin .eql) (.cons (.inp 29) (.cons (.cst (.int .i64 1)) .nil)) (.done [] (some (.op (.bin .eql) (.cons (.inp 29) (.cons (.cst (.int .i64 1)) .nil)))))) h31_3 h31_34) Q env w := rfl
def h31_36 : HC := (.seq (.block 0 h31_35) h31_0)
@[simp] theorem h31_36_wp {P : Program} {F : PF P} {Q : EX → List Value → World → Prop} {env : List Value} {w : World} : h31_36.wp F Q env w = HC.wp F (.seq (.block 0 h31_35) h31_0) Q env w := rfl
def h31_37 : HC := (.seq (.reg (.chk none (.fld 1) (.cons (.inp 3) .nil) (.eff (.ld false 1) (.cons (.op (.fld 1) (.cons (.inp 3) .nil)) .nil) (.done [(29, (.bv 0))] none)))) h31_36)
@[simp] theorem h31_37_wp {P : Program} {F : PF P} {Q : EX → List Value → World → Prop} {env : List Value} {w : World} : h31_37.wp F Q env w = HC.wp F (.seq (.reg (.chk none (.fld 1) (.cons (.inp 3) .nil) (.eff (.ld false 1) (.cons (.op (.fld 1) (.cons (.inp 3) .nil)) .nil) (.done [(29, (.bv 0))] none)))) h31_36) Q env w := rfl
def l31 : Lifted := ⟨[0, 1, 2, 5, 6, 7, 8, 9, 10, 11, 12, 13, 14, 15, 16, 17, 18, 19, 20, 21, 22, 23, 24, 25, 26, 27, 28, 29, 30, 32], 218, [.slot 4], (.seq (.reg (.eff (.box 53) (.cons (.inp 2) .nil) (.done [(3, (.bv 0)), (4, (.cst (.bool false)))] none))) h31_37)⟩
theorem l31_ok : liftFn U1 31 400 = some l31 := by kernel_rfl


theorem two_eq {t : Slot} {P P' : Ps} (h : ∀ y, t = some y → P = P') : gO t P = gO t P' ∧ rO t P = rO t P' := by
  cases t with
  | none => exact ⟨rfl, rfl⟩
  | some y => rw [h y rfl]; exact ⟨rfl, rfl⟩
theorem told_spec (t : Slot) (w0 w : World) (A : Asn) (ht : slotOK t) (s : St w0 (A * slotA t) w) :
    CallW Try.prog 32 [gp t, mp t] (fun r w' => r = .bool true ∧ St w0 (A * slotA t) w') w := by
  have hl := ps_len ht
  refine callW_of_lift l32_ok (by simp [l32]) ?_
  simp [l32]
  have hsl : slotA t = gO t (psS t) * rO t (psS t) := rfl
  rw [hsl] at s ⊢
  obtain ⟨P, hP⟩ : ∃ P, psS t = P := ⟨_, rfl⟩
  refine eff_call ((hRows t w0 w (A * rO t (psS t)) ht (s.to (by ac_rfl))).mono ?_)
  intro a w1 s1
  simp
  refine eff_call ((hRows t w0 w1 (A * rO t (psS t) * own 66 2 a (psS t).rows.length (flat (psS t).rows)) ht (s1.to (by ac_rfl))).mono ?_)
  intro b w2 s2
  simp
  refine eff_call ((hrRows t w0 w2 (A * gO t (psS t) * own 66 2 a (psS t).rows.length (flat (psS t).rows) * own 66 2 b (psS t).rows.length (flat (psS t).rows)) ht (s2.to (by ac_rfl))).mono ?_)
  intro c w3 s3
  simp
  clear s s1 s2
  have s4 := s3.to (B := A * own 66 2 a (psS t).rows.length (flat (psS t).rows) * own 66 2 b (psS t).rows.length (flat (psS t).rows) * own 66 2 c (psS t).rows.length (flat (psS t).rows) * gO t (psS t) * rO t (psS t)) (by ac_rfl)
  refine eff_call ((rows_spec (psS t).rows (psS t).rows a c w0 w3 (A * own 66 2 a (psS t).rows.length (flat (psS t).rows) * own 66 2 b (psS t).rows.length (flat (psS t).rows) * own 66 2 c (psS t).rows.length (flat (psS t).rows) * gO t (psS t) * rO t (psS t)) (by omega) (row_in (e := 66) (B := A * own 66 2 b (psS t).rows.length (flat (psS t).rows) * own 66 2 c (psS t).rows.length (flat (psS t).rows) * gO t (psS t) * rO t (psS t)) s4 (by ac_rfl)) (row_in (e := 66) (B := A * own 66 2 a (psS t).rows.length (flat (psS t).rows) * own 66 2 b (psS t).rows.length (flat (psS t).rows) * gO t (psS t) * rO t (psS t)) s4 (by ac_rfl)) s4).mono ?_)
  rintro r w5 ⟨rfl, s5⟩
  simp
  refine eff_call ((rows_spec (psS t).rows (psS t).rows b c w0 w5 (A * own 66 2 a (psS t).rows.length (flat (psS t).rows) * own 66 2 b (psS t).rows.length (flat (psS t).rows) * own 66 2 c (psS t).rows.length (flat (psS t).rows) * gO t (psS t) * rO t (psS t)) (by omega) (row_in (e := 66) (B := A * own 66 2 a (psS t).rows.length (flat (psS t).rows) * own 66 2 c (psS t).rows.length (flat (psS t).rows) * gO t (psS t) * rO t (psS t)) s5 (by ac_rfl)) (row_in (e := 66) (B := A * own 66 2 a (psS t).rows.length (flat (psS t).rows) * own 66 2 b (psS t).rows.length (flat (psS t).rows) * gO t (psS t) * rO t (psS t)) s5 (by ac_rfl)) s5).mono ?_)
  rintro r w6 ⟨rfl, s6⟩
  simp
  clear s3 s4 s5
  generalize hF : A * own 66 2 a (psS t).rows.length (flat (psS t).rows) * own 66 2 b (psS t).rows.length (flat (psS t).rows) * own 66 2 c (psS t).rows.length (flat (psS t).rows) = X at s6
  refine eff_call ((hSupply t w0 w6 (X * rO t (psS t)) ht (s6.to (by ac_rfl))).mono ?_)
  rintro r w7 ⟨rfl, s7⟩
  simp
  refine eff_call ((hrSupply t w0 w7 (X * gO t (psS t)) ht (s7.to (by ac_rfl))).mono ?_)
  rintro r w8 ⟨rfl, s8⟩
  simp
  refine eff_call ((hHeld t w0 w8 (X * rO t (psS t)) ht (s8.to (by ac_rfl))).mono ?_)
  rintro r w9 ⟨rfl, s9⟩
  simp
  refine eff_call ((hrHeld t w0 w9 (X * gO t (psS t)) ht (s9.to (by ac_rfl))).mono ?_)
  rintro r w10 ⟨rfl, s10⟩
  simp
  refine eff_call ((hLimit t w0 w10 (X * rO t (psS t)) ht (s10.to (by ac_rfl))).mono ?_)
  rintro r w11 ⟨rfl, s11⟩
  simp
  refine eff_call ((hrLimit t w0 w11 (X * gO t (psS t)) ht (s11.to (by ac_rfl))).mono ?_)
  rintro r w12 ⟨rfl, s12⟩
  simp
  refine eff_call ((hLen t w0 w12 (X * rO t (psS t)) ht (s12.to (by ac_rfl))).mono ?_)
  rintro r w13 ⟨rfl, s13⟩
  simp
  refine eff_call ((hrLen t w0 w13 (X * gO t (psS t)) ht (s13.to (by ac_rfl))).mono ?_)
  rintro r w14 ⟨rfl, s14⟩
  simp
  have s20 := s14.to (B := X * (gO t (psS t) * rO t (psS t))) (by ac_rfl)
  rw [← hF] at s20
  refine eff_call ((spoil_spec (psS t).rows a w0 w14 (A * own 66 2 b (psS t).rows.length (flat (psS t).rows) * own 66 2 c (psS t).rows.length (flat (psS t).rows) * (gO t (psS t) * rO t (psS t))) (by omega) (s20.to (by ac_rfl))).mono ?_)
  intro r w21 s21
  simp
  refine eff_call ((rows_spec (psS t).rows (psS t).rows b c w0 w21 (A * own 66 2 b (psS t).rows.length (flat (psS t).rows) * own 66 2 c (psS t).rows.length (flat (psS t).rows) * (gO t (psS t) * rO t (psS t))) (by omega) (row_in (e := 66) (B := A * own 66 2 c (psS t).rows.length (flat (psS t).rows) * (gO t (psS t) * rO t (psS t))) s21 (by ac_rfl)) (row_in (e := 66) (B := A * own 66 2 b (psS t).rows.length (flat (psS t).rows) * (gO t (psS t) * rO t (psS t))) s21 (by ac_rfl)) s21).mono ?_)
  rintro r w22 ⟨rfl, s22⟩
  simp
  exact St.cut (own 66 2 b (psS t).rows.length (flat (psS t).rows) * own 66 2 c (psS t).rows.length (flat (psS t).rows)) s22 (by ac_rfl)
theorem plays_spec (t : Slot) (o : Sp) (w0 w : World) (A : Asn) (ht : slotOK t) (ho : o.ok) (s : St w0 (A * slotA t) w) :
    CallW Try.prog 31 [gp t, mp t, .agg o.cs.toArray] (fun r w' => r = .bool true ∧ St w0 (A * slotA (setS t (doesF (psS t) o).2)) w') w := by
  obtain ⟨hc, hx⟩ := ho
  have hl := ps_len ht
  have hsl : slotA t = gO t (psS t) * rO t (psS t) := rfl
  rw [hsl] at s
  rw [slot_set]
  refine callW_of_lift l31_ok (by simp [l31]) ?_
  simp [l31]
  refine eff_box s ?_
  intro b w1 s1
  have s1 : St w0 (A * pt b (.cells o.cs.toArray 53 (0, 0)) * gO t (psS t) * rO t (psS t)) w1 := by
    have : St w0 (A * (gO t (psS t) * rO t (psS t)) * pt b (.cells o.cs.toArray 53 (0, 0))) w1 := by simpa using s1
    exact this.to (by ac_rfl)
  have L : ∀ {w : World} {X Y : Asn}, St w0 (A * pt b (.cells o.cs.toArray 53 (0, 0)) * X * Y) w → ∀ j u, o.cs[j]? = some u → w.cell? ⟨b, j, none⟩ = some u := fun h j u hu => by
    have := h.drop.drop.row_cells j u hu
    simpa using this
  simp
  refine eff_ldc (v := .int .i64 o.kind) (L s1 1 _ rfl) ?_
  simp
  refine cndI (fun k1 => ?_) (fun k1 => ?_)
  · simp at k1
    simp
    refine eff_ldc (v := .string (mk o.name)) (L s1 5 _ rfl) ?_
    simp
    refine eff_call ((hrOpen t o.name w0 w1 (A * pt b (.cells o.cs.toArray 53 (0, 0)) * gO t (psS t)) ht hx s1).mono ?_)
    rintro r w2 ⟨rfl, s2⟩
    simp
    refine eff_ldc (v := .string (mk o.name)) (L s2 5 _ rfl) ?_
    simp
    refine eff_call ((hOpen t o.name w0 w2 (A * pt b (.cells o.cs.toArray 53 (0, 0)) * rO t (openS t o.name).2.2) ht hx (s2.to (by ac_rfl))).mono ?_)
    rintro r w3 ⟨rfl, s3⟩
    simp
    have e := two_eq (t := t) (P := (openS t o.name).2.2) (P' := (doesF (psS t) o).2) (fun y hy => by subst hy; simp [doesF, k1, psS, openS])
    rw [e.1, e.2] at s3
    exact St.cut (pt b (.cells o.cs.toArray 53 (0, 0))) s3 (by ac_rfl)
  simp at k1
  simp
  refine cndI (fun k2 => ?_) (fun k2 => ?_)
  · simp at k2
    simp
    refine eff_ldc (v := .int .i64 o.a) (L s1 2 _ rfl) ?_
    simp
    refine eff_ldc (v := .int .u64 o.coins) (L s1 4 _ rfl) ?_
    simp
    refine eff_call ((hrMint t o.a o.coins w0 w1 (A * pt b (.cells o.cs.toArray 53 (0, 0)) * gO t (psS t)) ht hc s1).mono ?_)
    rintro r w2 ⟨rfl, s2⟩
    simp
    refine eff_ldc (v := .int .i64 o.a) (L s2 2 _ rfl) ?_
    simp
    refine eff_ldc (v := .int .u64 o.coins) (L s2 4 _ rfl) ?_
    simp
    refine eff_call ((hMint t o.a o.coins w0 w2 (A * pt b (.cells o.cs.toArray 53 (0, 0)) * rO t (rS t fun P => mintF P o.a o.coins).2) ht hc (s2.to (by ac_rfl))).mono ?_)
    rintro r w3 ⟨rfl, s3⟩
    simp
    have e := two_eq (t := t) (P := (rS t fun P => mintF P o.a o.coins).2) (P' := (doesF (psS t) o).2) (fun y hy => by subst hy; simp [doesF, k2, psS, rS])
    rw [e.1, e.2] at s3
    exact St.cut (pt b (.cells o.cs.toArray 53 (0, 0))) s3 (by ac_rfl)
  simp at k2
  simp
  refine cndI (fun k3 => ?_) (fun k3 => ?_)
  · simp at k3
    simp
    refine eff_ldc (v := .int .i64 o.a) (L s1 2 _ rfl) ?_
    simp
    refine eff_ldc (v := .int .i64 o.b) (L s1 3 _ rfl) ?_
    simp
    refine eff_ldc (v := .int .u64 o.coins) (L s1 4 _ rfl) ?_
    simp
    refine eff_call ((hrPay t o.a o.b o.coins w0 w1 (A * pt b (.cells o.cs.toArray 53 (0, 0)) * gO t (psS t)) ht hc s1).mono ?_)
    rintro r w2 ⟨rfl, s2⟩
    simp
    refine eff_ldc (v := .int .i64 o.a) (L s2 2 _ rfl) ?_
    simp
    refine eff_ldc (v := .int .i64 o.b) (L s2 3 _ rfl) ?_
    simp
    refine eff_ldc (v := .int .u64 o.coins) (L s2 4 _ rfl) ?_
    simp
    refine eff_call ((hPay t o.a o.b o.coins w0 w2 (A * pt b (.cells o.cs.toArray 53 (0, 0)) * rO t (rS t fun P => payF P o.a o.b o.coins).2) ht hc (s2.to (by ac_rfl))).mono ?_)
    rintro r w3 ⟨rfl, s3⟩
    simp
    have e := two_eq (t := t) (P := (rS t fun P => payF P o.a o.b o.coins).2) (P' := (doesF (psS t) o).2) (fun y hy => by subst hy; simp [doesF, k3, psS, rS])
    rw [e.1, e.2] at s3
    exact St.cut (pt b (.cells o.cs.toArray 53 (0, 0))) s3 (by ac_rfl)
  simp at k3
  simp
  refine cndI (fun k4 => ?_) (fun k4 => ?_)
  · simp at k4
    simp
    refine eff_ldc (v := .int .i64 o.a) (L s1 2 _ rfl) ?_
    simp
    refine eff_ldc (v := .int .u64 o.coins) (L s1 4 _ rfl) ?_
    simp
    refine eff_call ((hrTake t o.a o.coins w0 w1 (A * pt b (.cells o.cs.toArray 53 (0, 0)) * gO t (psS t)) ht hc s1).mono ?_)
    rintro r w2 ⟨rfl, s2⟩
    simp
    refine eff_ldc (v := .int .i64 o.a) (L s2 2 _ rfl) ?_
    simp
    refine eff_ldc (v := .int .u64 o.coins) (L s2 4 _ rfl) ?_
    simp
    refine eff_call ((hTake t o.a o.coins w0 w2 (A * pt b (.cells o.cs.toArray 53 (0, 0)) * rO t (rS t fun P => takeF P o.a o.coins).2) ht hc (s2.to (by ac_rfl))).mono ?_)
    rintro r w3 ⟨rfl, s3⟩
    simp
    have e := two_eq (t := t) (P := (rS t fun P => takeF P o.a o.coins).2) (P' := (doesF (psS t) o).2) (fun y hy => by subst hy; simp [doesF, k4, psS, rS])
    rw [e.1, e.2] at s3
    exact St.cut (pt b (.cells o.cs.toArray 53 (0, 0))) s3 (by ac_rfl)
  simp at k4
  simp
  refine cndI (fun k5 => ?_) (fun k5 => ?_)
  · simp at k5
    simp
    refine eff_ldc (v := .int .i64 o.a) (L s1 2 _ rfl) ?_
    simp
    refine eff_ldc (v := .int .u64 o.coins) (L s1 4 _ rfl) ?_
    simp
    refine eff_call ((hrPut t o.a o.coins w0 w1 (A * pt b (.cells o.cs.toArray 53 (0, 0)) * gO t (psS t)) ht hc s1).mono ?_)
    rintro r w2 ⟨rfl, s2⟩
    simp
    refine eff_ldc (v := .int .i64 o.a) (L s2 2 _ rfl) ?_
    simp
    refine eff_ldc (v := .int .u64 o.coins) (L s2 4 _ rfl) ?_
    simp
    refine eff_call ((hPut t o.a o.coins w0 w2 (A * pt b (.cells o.cs.toArray 53 (0, 0)) * rO t (rS t fun P => putF P o.a o.coins).2) ht hc (s2.to (by ac_rfl))).mono ?_)
    rintro r w3 ⟨rfl, s3⟩
    simp
    have e := two_eq (t := t) (P := (rS t fun P => putF P o.a o.coins).2) (P' := (doesF (psS t) o).2) (fun y hy => by subst hy; simp [doesF, k5, psS, rS])
    rw [e.1, e.2] at s3
    exact St.cut (pt b (.cells o.cs.toArray 53 (0, 0))) s3 (by ac_rfl)
  simp at k5
  simp
  have hd : (doesF (psS t) o).2 = psS t := by
    unfold doesF
    rw [if_neg k1, if_neg k2, if_neg k3, if_neg k4, if_neg k5]
    split <;> rfl
  rw [hd]
  refine cndI (fun k6 => ?_) (fun k6 => ?_)
  · simp
    refine eff_ldc (v := .int .i64 o.a) (L s1 2 _ rfl) ?_
    simp
    refine eff_call ((hrGet t o.a w0 w1 (A * pt b (.cells o.cs.toArray 53 (0, 0)) * gO t (psS t)) ht s1).mono ?_)
    rintro r w2 ⟨rfl, s2⟩
    simp
    refine eff_new s2 ?_
    intro c1 w3 s3
    simp
    refine eff_stA (vs := (getS t o.a).1.cs) s3 rfl rfl (cs_one _) (by simp) ?_
    intro w4 s4
    have s4 : St w0 (A * pt b (.cells o.cs.toArray 53 (0, 0)) * (gO t (psS t) * rO t (psS t)) * pt c1 (.cells (getS t o.a).1.cs.toArray 66 (0, 0))) w4 := by
      have : St w0 (A * pt b (.cells o.cs.toArray 53 (0, 0)) * gO t (psS t) * rO t (psS t) * pt c1 (.cells (getS t o.a).1.cs.toArray 66 (0, 0))) w4 := by simpa using s4
      exact this.to (by ac_rfl)
    simp
    refine eff_ldc (v := .int .i64 o.a) (L s4 2 _ rfl) ?_
    simp
    refine eff_call ((hGet t o.a w0 w4 (A * pt b (.cells o.cs.toArray 53 (0, 0)) * rO t (psS t) * pt c1 (.cells (getS t o.a).1.cs.toArray 66 (0, 0))) ht (s4.to (by ac_rfl))).mono ?_)
    rintro r w5 ⟨rfl, s5⟩
    simp
    refine eff_new s5 ?_
    intro c2 w6 s6
    simp
    refine eff_stA (vs := (getS t o.a).1.cs) s6 rfl rfl (cs_one _) (by simp) ?_
    intro w7 s7
    have s7 : St w0 (A * pt b (.cells o.cs.toArray 53 (0, 0)) * rO t (psS t) * gO t (psS t) * pt c1 (.cells (getS t o.a).1.cs.toArray 66 (0, 0)) * pt c2 (.cells (getS t o.a).1.cs.toArray 66 (0, 0))) w7 := by
      have : St w0 (A * pt b (.cells o.cs.toArray 53 (0, 0)) * rO t (psS t) * pt c1 (.cells (getS t o.a).1.cs.toArray 66 (0, 0)) * gO t (psS t) * pt c2 (.cells (getS t o.a).1.cs.toArray 66 (0, 0))) w7 := by simpa using s7
      exact this.to (by ac_rfl)
    simp
    refine eff_ldcs (vs := (getS t o.a).1.cs) (fun j u hu => s7.drop.row_cells j u hu) rfl ?_
    simp
    refine eff_ldcs (vs := (getS t o.a).1.cs) (fun j u hu => s7.row_cells j u hu) rfl ?_
    simp
    refine eff_eqlP accT (getS t o.a).1.pv (getS t o.a).1.pv rfl rfl ?_
    simp
    exact St.cut (pt b (.cells o.cs.toArray 53 (0, 0)) * pt c1 (.cells (getS t o.a).1.cs.toArray 66 (0, 0)) * pt c2 (.cells (getS t o.a).1.cs.toArray 66 (0, 0))) s7 (by ac_rfl)
  simp
  refine cndI (fun k7 => ?_) (fun k7 => ?_)
  · simp
    refine eff_ldc (v := .string (mk o.name)) (L s1 5 _ rfl) ?_
    simp
    refine eff_call ((hrFind t o.name w0 w1 (A * pt b (.cells o.cs.toArray 53 (0, 0)) * gO t (psS t)) ht hx s1).mono ?_)
    rintro r w2 ⟨rfl, s2⟩
    simp
    refine eff_ldc (v := .string (mk o.name)) (L s2 5 _ rfl) ?_
    simp
    refine eff_call ((hFind t o.name w0 w2 (A * pt b (.cells o.cs.toArray 53 (0, 0)) * rO t (psS t)) ht hx (s2.to (by ac_rfl))).mono ?_)
    rintro r w3 ⟨rfl, s3⟩
    simp
    refine eff_ldc (v := .string (mk o.name)) (L s3 5 _ rfl) ?_
    simp
    refine eff_call ((hrNear t o.name w0 w3 (A * pt b (.cells o.cs.toArray 53 (0, 0)) * gO t (psS t)) ht hx (s3.to (by ac_rfl))).mono ?_)
    intro l1 w4 s4
    have hnl := nearF_len (psS t).rows o.name 0
    obtain ⟨N, hN⟩ : ∃ N, nearF (psS t).rows o.name 0 = N := ⟨_, rfl⟩
    rw [hN] at s4 hnl
    simp
    have t4 := s4.to (B := A * pt b (.cells o.cs.toArray 53 (0, 0)) * (gO t (psS t) * rO t (psS t)) * own 3 1 l1 N.length (ints N)) (by ac_rfl)
    refine eff_ldc (v := .string (mk o.name)) (L t4 5 _ rfl) ?_
    simp
    refine eff_call ((hNear t o.name w0 w4 (A * pt b (.cells o.cs.toArray 53 (0, 0)) * rO t (psS t) * own 3 1 l1 N.length (ints N)) ht hx (t4.to (by ac_rfl))).mono ?_)
    intro l2 w5 s5
    rw [hN] at s5
    simp
    have t5 := s5.to (B := A * pt b (.cells o.cs.toArray 53 (0, 0)) * (gO t (psS t) * rO t (psS t)) * (own 3 1 l1 N.length (ints N) * own 3 1 l2 N.length (ints N))) (by ac_rfl)
    refine eff_ldc (v := .string (mk o.name)) (L t5 5 _ rfl) ?_
    simp
    refine eff_call ((hNear t o.name w0 w5 (A * pt b (.cells o.cs.toArray 53 (0, 0)) * rO t (psS t) * own 3 1 l1 N.length (ints N) * own 3 1 l2 N.length (ints N)) ht hx (t5.to (by ac_rfl))).mono ?_)
    intro l3 w6 s6
    rw [hN] at s6
    simp
    have t6 := s6.to (B := A * (pt b (.cells o.cs.toArray 53 (0, 0)) * gO t (psS t) * rO t (psS t)) * own 3 1 l1 N.length (ints N) * own 3 1 l2 N.length (ints N) * own 3 1 l3 N.length (ints N)) (by ac_rfl)
    clear s s1 s2 s3 s4 s5 s6 t4 t5
    generalize hX : pt b (.cells o.cs.toArray 53 (0, 0)) * gO t (psS t) * rO t (psS t) = X at t6
    refine eff_call ((ints_spec N N l2 l1 w0 w6 (A * X * own 3 1 l1 N.length (ints N) * own 3 1 l2 N.length (ints N) * own 3 1 l3 N.length (ints N)) (by omega) (row_in (e := 3) (B := A * X * own 3 1 l1 N.length (ints N) * own 3 1 l3 N.length (ints N)) t6 (by ac_rfl)) (row_in (e := 3) (B := A * X * own 3 1 l2 N.length (ints N) * own 3 1 l3 N.length (ints N)) t6 (by ac_rfl)) t6).mono ?_)
    rintro r w7 ⟨rfl, t7⟩
    simp
    refine eff_call ((ints_spec N N l3 l1 w0 w7 (A * X * own 3 1 l1 N.length (ints N) * own 3 1 l2 N.length (ints N) * own 3 1 l3 N.length (ints N)) (by omega) (row_own t7) (row_in (e := 3) (B := A * X * own 3 1 l2 N.length (ints N) * own 3 1 l3 N.length (ints N)) t7 (by ac_rfl)) t7).mono ?_)
    rintro r w8 ⟨rfl, t8⟩
    simp
    refine eff_call ((spoilInts_spec N l2 w0 w8 (A * X * own 3 1 l1 N.length (ints N) * own 3 1 l3 N.length (ints N)) (by omega) (t8.to (by ac_rfl))).mono ?_)
    intro r w9 t9
    simp
    refine eff_call ((ints_spec N N l3 l1 w0 w9 (A * X * own 3 1 l1 N.length (ints N) * own 3 1 l3 N.length (ints N)) (by omega) (row_own t9) (row_in (e := 3) (B := A * X * own 3 1 l3 N.length (ints N)) t9 (by ac_rfl)) t9).mono ?_)
    rintro r w10 ⟨rfl, t10⟩
    simp
    rw [← hX] at t10
    exact St.cut (pt b (.cells o.cs.toArray 53 (0, 0)) * own 3 1 l1 N.length (ints N) * own 3 1 l3 N.length (ints N)) t10 (by ac_rfl)
  simp
  refine cndI (fun k8 => ?_) (fun k8 => ?_)
  · simp
    refine eff_call ((told_spec t w0 w1 (A * pt b (.cells o.cs.toArray 53 (0, 0))) ht (s1.to (by rw [hsl]; ac_rfl))).mono ?_)
    rintro r w2 ⟨rfl, s2⟩
    simp
    rw [hsl] at s2
    exact St.cut (pt b (.cells o.cs.toArray 53 (0, 0))) s2 (by ac_rfl)
  simp
  exact St.cut (pt b (.cells o.cs.toArray 53 (0, 0))) s1 (by ac_rfl)
end Go.HL.Pu

namespace Go.HL.Pu
open Go.HL Go.HL.Nm Go.Proofs
set_option maxRecDepth 4000
set_option linter.unusedSimpArgs false
set_option linter.unusedVariables false
-- bazaar/bazaarlaw14.PursePlays
def h4_0 : HC := (.seq (.reg (.done [(4, (.cst (.bool true)))] none)) .ret)
@[simp] theorem h4_0_wp {P : Program} {F : PF P} {Q : EX → List Value → World → Prop} {env : List Value} {w : World} : h4_0.wp F Q env w = HC.wp F (.seq (.reg (.done [(4, (.cst (.bool true)))] none)) .ret) Q env w := rfl
def h4_1 : HC := (.reg (.chk none (.bin .add) (.cons (.inp 26) (.cons (.cst (.int .i64 1)) .nil)) (.done [(26, (.op (.bin .add) (.cons (.inp 26) (.cons (.cst (.int .i64 1)) .nil))))] none)))
@[simp] theorem h4_1_wp {P : Program} {F : PF P} {Q : EX → List Value → World → Prop} {env : List Value} {w : World} : h4_1.wp F Q env w = HC.wp F (.reg (.chk none (.bin .add) (.cons (.inp 26) (.cons (.cst (.int .i64 1)) .nil)) (.done [(26, (.op (.bin .add) (.cons (.inp 26) (.cons (.cst (.int .i64 1)) .nil))))] none))) Q env w := rfl
def h4_2 : HC := (.seq (.reg (.done [(4, (.cst (.bool false)))] none)) .ret)
@[simp] theorem h4_2_wp {P : Program} {F : PF P} {Q : EX → List Value → World → Prop} {env : List Value} {w : World} : h4_2.wp F Q env w = HC.wp F (.seq (.reg (.done [(4, (.cst (.bool false)))] none)) .ret) Q env w := rfl
def h4_3 : HC := (.brq (some 1) (.chk none (.idxL 1) (.cons (.inp 18) (.cons (.inp 26) .nil)) (.eff (.ld false 1) (.cons (.op (.idxL 1) (.cons (.inp 18) (.cons (.inp 26) .nil))) .nil) (.chk none (.idxL 1) (.cons (.inp 19) (.cons (.inp 26) .nil)) (.eff (.ld false 1) (.cons (.op (.idxL 1) (.cons (.inp 19) (.cons (.inp 26) .nil))) .nil) (.eff (.call 32) (.cons (.bv 0) (.cons (.bv 1) .nil)) (.chk none (.un .not) (.cons (.bv 2) .nil) (.done [] (some (.op (.un .not) (.cons (.bv 2) .nil)))))))))) h4_2 .skip)
@[simp] theorem h4_3_wp {P : Program} {F : PF P} {Q : EX → List Value → World → Prop} {env : List Value} {w : World} : h4_3.wp F Q env w = HC.wp F (.brq (some 1) (.chk none (.idxL 1) (.cons (.inp 18) (.cons (.inp 26) .nil)) (.eff (.ld false 1) (.cons (.op (.idxL 1) (.cons (.inp 18) (.cons (.inp 26) .nil))) .nil) (.chk none (.idxL 1) (.cons (.inp 19) (.cons (.inp 26) .nil)) (.eff (.ld false 1) (.cons (.op (.idxL 1) (.cons (.inp 19) (.cons (.inp 26) .nil))) .nil) (.eff (.call 32) (.cons (.bv 0) (.cons (.bv 1) .nil)) (.chk none (.un .not) (.cons (.bv 2) .nil) (.done [] (some (.op (.un .not) (.cons (.bv 2) .nil)))))))))) h4_2 .skip) Q env w := rfl
def h4_4 : HC := (.seq (.block 4 h4_3) h4_1)
@[simp] theorem h4_4_wp {P : Program} {F : PF P} {Q : EX → List Value → World → Prop} {env : List Value} {w : World} : h4_4.wp F Q env w = HC.wp F (.seq (.block 4 h4_3) h4_1) Q env w := rfl
def h4_5 : HC := (.seq (.br (.chk none (.bin .lss) (.cons (.inp 26) (.cons (.cst (.int .i64 4)) .nil)) (.done [] (some (.op (.bin .lss) (.cons (.inp 26) (.cons (.cst (.int .i64 4)) .nil)))))) .skip (.exit 3)) h4_4)
@[simp] theorem h4_5_wp {P : Program} {F : PF P} {Q : EX → List Value → World → Prop} {env : List Value} {w : World} : h4_5.wp F Q env w = HC.wp F (.seq (.br (.chk none (.bin .lss) (.cons (.inp 26) (.cons (.cst (.int .i64 4)) .nil)) (.done [] (some (.op (.bin .lss) (.cons (.inp 26) (.cons (.cst (.int .i64 4)) .nil)))))) .skip (.exit 3)) h4_4) Q env w := rfl
def h4_6 : HC := (.loop h4_5)
@[simp] theorem h4_6_wp {P : Program} {F : PF P} {Q : EX → List Value → World → Prop} {env : List Value} {w : World} : h4_6.wp F Q env w = HC.wp F (.loop h4_5) Q env w := rfl
def h4_7 : HC := (.seq (.block 3 h4_6) h4_0)
@[simp] theorem h4_7_wp {P : Program} {F : PF P} {Q : EX → List Value → World → Prop} {env : List Value} {w : World} : h4_7.wp F Q env w = HC.wp F (.seq (.block 3 h4_6) h4_0) Q env w := rfl
def h4_8 : HC := (.seq (.reg (.done [(26, (.cst (.int .i64 0)))] none)) h4_7)
@[simp] theorem h4_8_wp {P : Program} {F : PF P} {Q : EX → List Value → World → Prop} {env : List Value} {w : World} : h4_8.wp F Q env w = HC.wp F (.seq (.reg (.done [(26, (.cst (.int .i64 0)))] none)) h4_7) Q env w := rfl
def h4_9 : HC := (.reg (.chk none (.bin .add) (.cons (.inp 20) (.cons (.cst (.int .i64 1)) .nil)) (.done [(20, (.op (.bin .add) (.cons (.inp 20) (.cons (.cst (.int .i64 1)) .nil))))] none)))
@[simp] theorem h4_9_wp {P : Program} {F : PF P} {Q : EX → List Value → World → Prop} {env : List Value} {w : World} : h4_9.wp F Q env w = HC.wp F (.reg (.chk none (.bin .add) (.cons (.inp 20) (.cons (.cst (.int .i64 1)) .nil)) (.done [(20, (.op (.bin .add) (.cons (.inp 20) (.cons (.cst (.int .i64 1)) .nil))))] none))) Q env w := rfl
def h4_10 : HC := (.seq (.reg (.done [(4, (.cst (.bool false)))] none)) .ret)
@[simp] theorem h4_10_wp {P : Program} {F : PF P} {Q : EX → List Value → World → Prop} {env : List Value} {w : World} : h4_10.wp F Q env w = HC.wp F (.seq (.reg (.done [(4, (.cst (.bool false)))] none)) .ret) Q env w := rfl
def h4_11 : HC := (.brq (some 0) (.chk none (.idxL 1) (.cons (.inp 18) (.cons (.inp 22) .nil)) (.eff (.ld false 1) (.cons (.op (.idxL 1) (.cons (.inp 18) (.cons (.inp 22) .nil))) .nil) (.chk none (.eqNil false (.pointer 81) (.pointer none)) (.cons (.bv 0) .nil) (.chk none (.idxL 1) (.cons (.inp 19) (.cons (.inp 22) .nil)) (.eff (.ld false 1) (.cons (.op (.idxL 1) (.cons (.inp 19) (.cons (.inp 22) .nil))) .nil) (.chk none (.eqNil false (.pointer 90) (.pointer none)) (.cons (.bv 1) .nil) (.chk none (.eqB true) (.cons (.op (.eqNil false (.pointer 81) (.pointer none)) (.cons (.bv 0) .nil)) (.cons (.op (.eqNil false (.pointer 90) (.pointer none)) (.cons (.bv 1) .nil)) .nil)) (.done [] (some (.op (.eqB true) (.cons (.op (.eqNil false (.pointer 81) (.pointer none)) (.cons (.bv 0) .nil)) (.cons (.op (.eqNil false (.pointer 90) (.pointer none)) (.cons (.bv 1) .nil)) .nil)))))))))))) h4_10 .skip)
@[simp] theorem h4_11_wp {P : Program} {F : PF P} {Q : EX → List Value → World → Prop} {env : List Value} {w : World} : h4_11.wp F Q env w = HC.wp F (.brq (some 0) (.chk none (.idxL 1) (.cons (.inp 18) (.cons (.inp 22) .nil)) (.eff (.ld false 1) (.cons (.op (.idxL 1) (.cons (.inp 18) (.cons (.inp 22) .nil))) .nil) (.chk none (.eqNil false (.pointer 81) (.pointer none)) (.cons (.bv 0) .nil) (.chk none (.idxL 1) (.cons (.inp 19) (.cons (.inp 22) .nil)) (.eff (.ld false 1) (.cons (.op (.idxL 1) (.cons (.inp 19) (.cons (.inp 22) .nil))) .nil) (.chk none (.eqNil false (.pointer 90) (.pointer none)) (.cons (.bv 1) .nil) (.chk none (.eqB true) (.cons (.op (.eqNil false (.pointer 81) (.pointer none)) (.cons (.bv 0) .nil)) (.cons (.op (.eqNil false (.pointer 90) (.pointer none)) (.cons (.bv 1) .nil)) .nil)) (.done [] (some (.op (.eqB true) (.cons (.op (.eqNil false (.pointer 81) (.pointer none)) (.cons (.bv 0) .nil)) (.cons (.op (.eqNil false (.pointer 90) (.pointer none)) (.cons (.bv 1) .nil)) .nil)))))))))))) h4_10 .skip) Q env w := rfl
def h4_12 : HC := (.seq (.regq (some 2) (.chk none (.idxL 1) (.cons (.inp 18) (.cons (.inp 23) .nil)) (.eff (.ld false 1) (.cons (.op (.idxL 1) (.cons (.inp 18) (.cons (.inp 23) .nil))) .nil) (.eff (.call 26) (.cons (.bv 0) .nil) (.chk none (.idxL 1) (.cons (.inp 19) (.cons (.inp 23) .nil)) (.eff (.ld false 1) (.cons (.op (.idxL 1) (.cons (.inp 19) (.cons (.inp 23) .nil))) .nil) (.eff (.call 27) (.cons (.bv 2) .nil) (.chk none (.idxL 1) (.cons (.inp 18) (.cons (.inp 22) .nil)) (.eff (.st 1) (.cons (.op (.idxL 1) (.cons (.inp 18) (.cons (.inp 22) .nil))) (.cons (.bv 1) .nil)) (.chk none (.idxL 1) (.cons (.inp 19) (.cons (.inp 22) .nil)) (.eff (.st 1) (.cons (.op (.idxL 1) (.cons (.inp 19) (.cons (.inp 22) .nil))) (.cons (.bv 3) .nil)) (.done [] none)))))))))))) h4_11)
@[simp] theorem h4_12_wp {P : Program} {F : PF P} {Q : EX → List Value → World → Prop} {env : List Value} {w : World} : h4_12.wp F Q env w = HC.wp F (.seq (.regq (some 2) (.chk none (.idxL 1) (.cons (.inp 18) (.cons (.inp 23) .nil)) (.eff (.ld false 1) (.cons (.op (.idxL 1) (.cons (.inp 18) (.cons (.inp 23) .nil))) .nil) (.eff (.call 26) (.cons (.bv 0) .nil) (.chk none (.idxL 1) (.cons (.inp 19) (.cons (.inp 23) .nil)) (.eff (.ld false 1) (.cons (.op (.idxL 1) (.cons (.inp 19) (.cons (.inp 23) .nil))) .nil) (.eff (.call 27) (.cons (.bv 2) .nil) (.chk none (.idxL 1) (.cons (.inp 18) (.cons (.inp 22) .nil)) (.eff (.st 1) (.cons (.op (.idxL 1) (.cons (.inp 18) (.cons (.inp 22) .nil))) (.cons (.bv 1) .nil)) (.chk none (.idxL 1) (.cons (.inp 19) (.cons (.inp 22) .nil)) (.eff (.st 1) (.cons (.op (.idxL 1) (.cons (.inp 19) (.cons (.inp 22) .nil))) (.cons (.bv 3) .nil)) (.done [] none)))))))))))) h4_11) Q env w := rfl
def h4_13 : HC := (.reg (.chk none (.idxL 1) (.cons (.inp 19) (.cons (.inp 23) .nil)) (.eff (.ld false 1) (.cons (.op (.idxL 1) (.cons (.inp 19) (.cons (.inp 23) .nil))) .nil) (.eff (.call 27) (.cons (.bv 0) .nil) (.chk none (.idxL 1) (.cons (.inp 18) (.cons (.inp 22) .nil)) (.eff (.st 1) (.cons (.op (.idxL 1) (.cons (.inp 18) (.cons (.inp 22) .nil))) (.cons (.inp 24) .nil)) (.chk none (.idxL 1) (.cons (.inp 19) (.cons (.inp 22) .nil)) (.eff (.st 1) (.cons (.op (.idxL 1) (.cons (.inp 19) (.cons (.inp 22) .nil))) (.cons (.bv 1) .nil)) (.done [] none)))))))))
@[simp] theorem h4_13_wp {P : Program} {F : PF P} {Q : EX → List Value → World → Prop} {env : List Value} {w : World} : h4_13.wp F Q env w = HC.wp F (.reg (.chk none (.idxL 1) (.cons (.inp 19) (.cons (.inp 23) .nil)) (.eff (.ld false 1) (.cons (.op (.idxL 1) (.cons (.inp 19) (.cons (.inp 23) .nil))) .nil) (.eff (.call 27) (.cons (.bv 0) .nil) (.chk none (.idxL 1) (.cons (.inp 18) (.cons (.inp 22) .nil)) (.eff (.st 1) (.cons (.op (.idxL 1) (.cons (.inp 18) (.cons (.inp 22) .nil))) (.cons (.inp 24) .nil)) (.chk none (.idxL 1) (.cons (.inp 19) (.cons (.inp 22) .nil)) (.eff (.st 1) (.cons (.op (.idxL 1) (.cons (.inp 19) (.cons (.inp 22) .nil))) (.cons (.bv 1) .nil)) (.done [] none))))))))) Q env w := rfl
def h4_14 : HC := (.seq (.reg (.done [(4, (.cst (.bool false)))] none)) .ret)
@[simp] theorem h4_14_wp {P : Program} {F : PF P} {Q : EX → List Value → World → Prop} {env : List Value} {w : World} : h4_14.wp F Q env w = HC.wp F (.seq (.reg (.done [(4, (.cst (.bool false)))] none)) .ret) Q env w := rfl
def h4_15 : HC := (.seq (.br (.chk none (.cal 10) (.cons (.inp 25) .nil) (.chk none (.bin .neq) (.cons (.op (.cal 10) (.cons (.inp 25) .nil)) (.cons (.cst (.int .i64 0)) .nil)) (.bnd (.op (.bin .neq) (.cons (.op (.cal 10) (.cons (.inp 25) .nil)) (.cons (.cst (.int .i64 0)) .nil))) (.chk (some ((.bv 0), false)) (.eqNil false (.pointer 81) (.pointer none)) (.cons (.inp 24) .nil) (.isb none (.bv 0) (.done [] (some (.ite (.bv 0) true (.cst (.bool true)) (.op (.eqNil false (.pointer 81) (.pointer none)) (.cons (.inp 24) .nil)))))))))) h4_14 .skip) h4_13)
@[simp] theorem h4_15_wp {P : Program} {F : PF P} {Q : EX → List Value → World → Prop} {env : List Value} {w : World} : h4_15.wp F Q env w = HC.wp F (.seq (.br (.chk none (.cal 10) (.cons (.inp 25) .nil) (.chk none (.bin .neq) (.cons (.op (.cal 10) (.cons (.inp 25) .nil)) (.cons (.cst (.int .i64 0)) .nil)) (.bnd (.op (.bin .neq) (.cons (.op (.cal 10) (.cons (.inp 25) .nil)) (.cons (.cst (.int .i64 0)) .nil))) (.chk (some ((.bv 0), false)) (.eqNil false (.pointer 81) (.pointer none)) (.cons (.inp 24) .nil) (.isb none (.bv 0) (.done [] (some (.ite (.bv 0) true (.cst (.bool true)) (.op (.eqNil false (.pointer 81) (.pointer none)) (.cons (.inp 24) .nil)))))))))) h4_14 .skip) h4_13) Q env w := rfl
def h4_16 : HC := (.seq (.regq (some 3) (.chk none (.idxL 1) (.cons (.inp 18) (.cons (.inp 23) .nil)) (.eff (.ld false 1) (.cons (.op (.idxL 1) (.cons (.inp 18) (.cons (.inp 23) .nil))) .nil) (.eff (.call 28) (.cons (.bv 0) .nil) (.chk none (.idxL 1) (.cons (.inp 18) (.cons (.inp 23) .nil)) (.eff (.ld false 1) (.cons (.op (.idxL 1) (.cons (.inp 18) (.cons (.inp 23) .nil))) .nil) (.eff (.call 29) (.cons (.bv 2) .nil) (.chk none (.idxL 1) (.cons (.inp 18) (.cons (.inp 23) .nil)) (.eff (.ld false 1) (.cons (.op (.idxL 1) (.cons (.inp 18) (.cons (.inp 23) .nil))) .nil) (.eff (.call 30) (.cons (.bv 4) .nil) (.eff (.call 20) (.cons (.bv 1) (.cons (.bv 3) (.cons (.bv 5) .nil))) (.chk none (.ext 0) (.cons (.bv 6) .nil) (.chk none (.ext 1) (.cons (.bv 6) .nil) (.done [(24, (.op (.ext 0) (.cons (.bv 6) .nil))), (25, (.op (.ext 1) (.cons (.bv 6) .nil)))] none)))))))))))))) h4_15)
@[simp] theorem h4_16_wp {P : Program} {F : PF P} {Q : EX → List Value → World → Prop} {env : List Value} {w : World} : h4_16.wp F Q env w = HC.wp F (.seq (.regq (some 3) (.chk none (.idxL 1) (.cons (.inp 18) (.cons (.inp 23) .nil)) (.eff (.ld false 1) (.cons (.op (.idxL 1) (.cons (.inp 18) (.cons (.inp 23) .nil))) .nil) (.eff (.call 28) (.cons (.bv 0) .nil) (.chk none (.idxL 1) (.cons (.inp 18) (.cons (.inp 23) .nil)) (.eff (.ld false 1) (.cons (.op (.idxL 1) (.cons (.inp 18) (.cons (.inp 23) .nil))) .nil) (.eff (.call 29) (.cons (.bv 2) .nil) (.chk none (.idxL 1) (.cons (.inp 18) (.cons (.inp 23) .nil)) (.eff (.ld false 1) (.cons (.op (.idxL 1) (.cons (.inp 18) (.cons (.inp 23) .nil))) .nil) (.eff (.call 30) (.cons (.bv 4) .nil) (.eff (.call 20) (.cons (.bv 1) (.cons (.bv 3) (.cons (.bv 5) .nil))) (.chk none (.ext 0) (.cons (.bv 6) .nil) (.chk none (.ext 1) (.cons (.bv 6) .nil) (.done [(24, (.op (.ext 0) (.cons (.bv 6) .nil))), (25, (.op (.ext 1) (.cons (.bv 6) .nil)))] none)))))))))))))) h4_15) Q env w := rfl
def h4_17 : HC := (.seq (.br (.chk none (.idxL 1) (.cons (.inp 19) (.cons (.inp 23) .nil)) (.eff (.ld false 1) (.cons (.op (.idxL 1) (.cons (.inp 19) (.cons (.inp 23) .nil))) .nil) (.chk none (.eqNil false (.pointer 90) (.pointer none)) (.cons (.bv 0) .nil) (.done [] (some (.op (.eqNil false (.pointer 90) (.pointer none)) (.cons (.bv 0) .nil))))))) (.exit 1) .skip) h4_16)
@[simp] theorem h4_17_wp {P : Program} {F : PF P} {Q : EX → List Value → World → Prop} {env : List Value} {w : World} : h4_17.wp F Q env w = HC.wp F (.seq (.br (.chk none (.idxL 1) (.cons (.inp 19) (.cons (.inp 23) .nil)) (.eff (.ld false 1) (.cons (.op (.idxL 1) (.cons (.inp 19) (.cons (.inp 23) .nil))) .nil) (.chk none (.eqNil false (.pointer 90) (.pointer none)) (.cons (.bv 0) .nil) (.done [] (some (.op (.eqNil false (.pointer 90) (.pointer none)) (.cons (.bv 0) .nil))))))) (.exit 1) .skip) h4_16) Q env w := rfl
def h4_18 : HC := (.seq (.reg (.done [(4, (.cst (.bool false)))] none)) .ret)
@[simp] theorem h4_18_wp {P : Program} {F : PF P} {Q : EX → List Value → World → Prop} {env : List Value} {w : World} : h4_18.wp F Q env w = HC.wp F (.seq (.reg (.done [(4, (.cst (.bool false)))] none)) .ret) Q env w := rfl
def h4_19 : HC := (.brq (some 1) (.chk none (.idxL 1) (.cons (.inp 18) (.cons (.inp 22) .nil)) (.eff (.ld false 1) (.cons (.op (.idxL 1) (.cons (.inp 18) (.cons (.inp 22) .nil))) .nil) (.chk none (.idxL 1) (.cons (.inp 19) (.cons (.inp 22) .nil)) (.eff (.ld false 1) (.cons (.op (.idxL 1) (.cons (.inp 19) (.cons (.inp 22) .nil))) .nil) (.eff (.ld true 6) (.cons (.inp 21) .nil) (.eff (.call 31) (.cons (.bv 0) (.cons (.bv 1) (.cons (.bv 2) .nil))) (.chk none (.un .not) (.cons (.bv 3) .nil) (.done [] (some (.op (.un .not) (.cons (.bv 3) .nil))))))))))) h4_18 .skip)
@[simp] theorem h4_19_wp {P : Program} {F : PF P} {Q : EX → List Value → World → Prop} {env : List Value} {w : World} : h4_19.wp F Q env w = HC.wp F (.brq (some 1) (.chk none (.idxL 1) (.cons (.inp 18) (.cons (.inp 22) .nil)) (.eff (.ld false 1) (.cons (.op (.idxL 1) (.cons (.inp 18) (.cons (.inp 22) .nil))) .nil) (.chk none (.idxL 1) (.cons (.inp 19) (.cons (.inp 22) .nil)) (.eff (.ld false 1) (.cons (.op (.idxL 1) (.cons (.inp 19) (.cons (.inp 22) .nil))) .nil) (.eff (.ld true 6) (.cons (.inp 21) .nil) (.eff (.call 31) (.cons (.bv 0) (.cons (.bv 1) (.cons (.bv 2) .nil))) (.chk none (.un .not) (.cons (.bv 3) .nil) (.done [] (some (.op (.un .not) (.cons (.bv 3) .nil))))))))))) h4_18 .skip) Q env w := rfl
def h4_20 : HC := (.br (.chk none (.bin .eql) (.cons (.inp 27) (.cons (.cst (.int .i64 10)) .nil)) (.done [] (some (.op (.bin .eql) (.cons (.inp 27) (.cons (.cst (.int .i64 10)) .nil)))))) h4_17 h4_19)
@[simp] theorem h4_20_wp {P : Program} {F : PF P} {Q : EX → List Value → World → Prop} {env : List Value} {w : World} : h4_20.wp F Q env w = HC.wp F (.br (.chk none (.bin .eql) (.cons (.inp 27) (.cons (.cst (.int .i64 10)) .nil)) (.done [] (some (.op (.bin .eql) (.cons (.inp 27) (.cons (.cst (.int .i64 10)) .nil)))))) h4_17 h4_19) Q env w := rfl
def h4_21 : HC := (.br (.chk none (.bin .eql) (.cons (.inp 27) (.cons (.cst (.int .i64 9)) .nil)) (.done [] (some (.op (.bin .eql) (.cons (.inp 27) (.cons (.cst (.int .i64 9)) .nil)))))) h4_12 h4_20)
@[simp] theorem h4_21_wp {P : Program} {F : PF P} {Q : EX → List Value → World → Prop} {env : List Value} {w : World} : h4_21.wp F Q env w = HC.wp F (.br (.chk none (.bin .eql) (.cons (.inp 27) (.cons (.cst (.int .i64 9)) .nil)) (.done [] (some (.op (.bin .eql) (.cons (.inp 27) (.cons (.cst (.int .i64 9)) .nil)))))) h4_12 h4_20) Q env w := rfl
def h4_22 : HC := (.block 2 h4_21)
@[simp] theorem h4_22_wp {P : Program} {F : PF P} {Q : EX → List Value → World → Prop} {env : List Value} {w : World} : h4_22.wp F Q env w = HC.wp F (.block 2 h4_21) Q env w := rfl
def h4_23 : HC := (.seq (.reg (.chk none (.fld 1) (.cons (.inp 21) .nil) (.eff (.ld false 1) (.cons (.op (.fld 1) (.cons (.inp 21) .nil)) .nil) (.done [(27, (.bv 0))] none)))) h4_22)
@[simp] theorem h4_23_wp {P : Program} {F : PF P} {Q : EX → List Value → World → Prop} {env : List Value} {w : World} : h4_23.wp F Q env w = HC.wp F (.seq (.reg (.chk none (.fld 1) (.cons (.inp 21) .nil) (.eff (.ld false 1) (.cons (.op (.fld 1) (.cons (.inp 21) .nil)) .nil) (.done [(27, (.bv 0))] none)))) h4_22) Q env w := rfl
def h4_24 : HC := (.seq (.reg (.chk none (.fld 2) (.cons (.inp 21) .nil) (.eff (.ld false 1) (.cons (.op (.fld 2) (.cons (.inp 21) .nil)) .nil) (.eff (.call 25) (.cons (.bv 0) (.cons (.cst (.int .i64 4)) .nil)) (.done [(23, (.bv 1))] none))))) h4_23)
@[simp] theorem h4_24_wp {P : Program} {F : PF P} {Q : EX → List Value → World → Prop} {env : List Value} {w : World} : h4_24.wp F Q env w = HC.wp F (.seq (.reg (.chk none (.fld 2) (.cons (.inp 21) .nil) (.eff (.ld false 1) (.cons (.op (.fld 2) (.cons (.inp 21) .nil)) .nil) (.eff (.call 25) (.cons (.bv 0) (.cons (.cst (.int .i64 4)) .nil)) (.done [(23, (.bv 1))] none))))) h4_23) Q env w := rfl
def h4_25 : HC := (.seq (.reg (.chk none (.fld 0) (.cons (.inp 21) .nil) (.eff (.ld false 1) (.cons (.op (.fld 0) (.cons (.inp 21) .nil)) .nil) (.eff (.call 25) (.cons (.bv 0) (.cons (.cst (.int .i64 4)) .nil)) (.done [(22, (.bv 1))] none))))) h4_24)
@[simp] theorem h4_25_wp {P : Program} {F : PF P} {Q : EX → List Value → World → Prop} {env : List Value} {w : World} : h4_25.wp F Q env w = HC.wp F (.seq (.reg (.chk none (.fld 0) (.cons (.inp 21) .nil) (.eff (.ld false 1) (.cons (.op (.fld 0) (.cons (.inp 21) .nil)) .nil) (.eff (.call 25) (.cons (.bv 0) (.cons (.cst (.int .i64 4)) .nil)) (.done [(22, (.bv 1))] none))))) h4_24) Q env w := rfl
def h4_26 : HC := (.seq (.reg (.chk none (.idxL 6) (.cons (.inp 3) (.cons (.inp 20) .nil)) (.eff (.ld true 6) (.cons (.op (.idxL 6) (.cons (.inp 3) (.cons (.inp 20) .nil))) .nil) (.eff (.new 53 (.agg #[(.int .i64 0), (.int .i64 0), (.int .i64 0), (.int .i64 0), (.int .u64 0), (.string ⟨#[]⟩)])) .nil (.eff (.st 6) (.cons (.bv 1) (.cons (.bv 0) .nil)) (.done [(21, (.bv 1))] none)))))) h4_25)
@[simp] theorem h4_26_wp {P : Program} {F : PF P} {Q : EX → List Value → World → Prop} {env : List Value} {w : World} : h4_26.wp F Q env w = HC.wp F (.seq (.reg (.chk none (.idxL 6) (.cons (.inp 3) (.cons (.inp 20) .nil)) (.eff (.ld true 6) (.cons (.op (.idxL 6) (.cons (.inp 3) (.cons (.inp 20) .nil))) .nil) (.eff (.new 53 (.agg #[(.int .i64 0), (.int .i64 0), (.int .i64 0), (.int .i64 0), (.int .u64 0), (.string ⟨#[]⟩)])) .nil (.eff (.st 6) (.cons (.bv 1) (.cons (.bv 0) .nil)) (.done [(21, (.bv 1))] none)))))) h4_25) Q env w := rfl
def h4_27 : HC := (.seq (.block 1 h4_26) h4_9)
@[simp] theorem h4_27_wp {P : Program} {F : PF P} {Q : EX → List Value → World → Prop} {env : List Value} {w : World} : h4_27.wp F Q env w = HC.wp F (.seq (.block 1 h4_26) h4_9) Q env w := rfl
def h4_28 : HC := (.seq (.br (.chk none .lenL (.cons (.inp 3) .nil) (.chk none (.bin .lss) (.cons (.inp 20) (.cons (.op .lenL (.cons (.inp 3) .nil)) .nil)) (.done [] (some (.op (.bin .lss) (.cons (.inp 20) (.cons (.op .lenL (.cons (.inp 3) .nil)) .nil))))))) .skip (.exit 0)) h4_27)
@[simp] theorem h4_28_wp {P : Program} {F : PF P} {Q : EX → List Value → World → Prop} {env : List Value} {w : World} : h4_28.wp F Q env w = HC.wp F (.seq (.br (.chk none .lenL (.cons (.inp 3) .nil) (.chk none (.bin .lss) (.cons (.inp 20) (.cons (.op .lenL (.cons (.inp 3) .nil)) .nil)) (.done [] (some (.op (.bin .lss) (.cons (.inp 20) (.cons (.op .lenL (.cons (.inp 3) .nil)) .nil))))))) .skip (.exit 0)) h4_27) Q env w := rfl
def h4_29 : HC := (.loop h4_28)
@[simp] theorem h4_29_wp {P : Program} {F : PF P} {Q : EX → List Value → World → Prop} {env : List Value} {w : World} : h4_29.wp F Q env w = HC.wp F (.loop h4_28) Q env w := rfl
def h4_30 : HC := (.seq (.block 0 h4_29) h4_8)
@[simp] theorem h4_30_wp {P : Program} {F : PF P} {Q : EX → List Value → World → Prop} {env : List Value} {w : World} : h4_30.wp F Q env w = HC.wp F (.seq (.block 0 h4_29) h4_8) Q env w := rfl
def h4_31 : HC := (.seq (.reg (.done [(20, (.cst (.int .i64 0)))] none)) h4_30)
@[simp] theorem h4_31_wp {P : Program} {F : PF P} {Q : EX → List Value → World → Prop} {env : List Value} {w : World} : h4_31.wp F Q env w = HC.wp F (.seq (.reg (.done [(20, (.cst (.int .i64 0)))] none)) h4_30) Q env w := rfl
def h4_32 : HC := (.seq (.reg (.eff (.bsl 44 4 1 #[(.pointer none)] [0, 1, 2, 3]) (.cons (.inp 12) (.cons (.inp 14) (.cons (.inp 16) (.cons (.cst (.pointer none)) .nil)))) (.done [(19, (.bv 0))] none))) h4_31)
@[simp] theorem h4_32_wp {P : Program} {F : PF P} {Q : EX → List Value → World → Prop} {env : List Value} {w : World} : h4_32.wp F Q env w = HC.wp F (.seq (.reg (.eff (.bsl 44 4 1 #[(.pointer none)] [0, 1, 2, 3]) (.cons (.inp 12) (.cons (.inp 14) (.cons (.inp 16) (.cons (.cst (.pointer none)) .nil)))) (.done [(19, (.bv 0))] none))) h4_31) Q env w := rfl
def h4_33 : HC := (.seq (.reg (.eff (.bsl 24 4 1 #[(.pointer none)] [0, 1, 2, 3]) (.cons (.inp 6) (.cons (.inp 8) (.cons (.inp 10) (.cons (.cst (.pointer none)) .nil)))) (.done [(18, (.bv 0))] none))) h4_32)
@[simp] theorem h4_33_wp {P : Program} {F : PF P} {Q : EX → List Value → World → Prop} {env : List Value} {w : World} : h4_33.wp F Q env w = HC.wp F (.seq (.reg (.eff (.bsl 24 4 1 #[(.pointer none)] [0, 1, 2, 3]) (.cons (.inp 6) (.cons (.inp 8) (.cons (.inp 10) (.cons (.cst (.pointer none)) .nil)))) (.done [(18, (.bv 0))] none))) h4_32) Q env w := rfl
def h4_34 : HC := (.seq (.reg (.eff (.call 24) (.cons (.inp 5) .nil) (.done [] none))) h4_33)
@[simp] theorem h4_34_wp {P : Program} {F : PF P} {Q : EX → List Value → World → Prop} {env : List Value} {w : World} : h4_34.wp F Q env w = HC.wp F (.seq (.reg (.eff (.call 24) (.cons (.inp 5) .nil) (.done [] none))) h4_33) Q env w := rfl
def h4_35 : HC := (.seq (.reg (.done [(4, (.cst (.bool false)))] none)) .ret)
@[simp] theorem h4_35_wp {P : Program} {F : PF P} {Q : EX → List Value → World → Prop} {env : List Value} {w : World} : h4_35.wp F Q env w = HC.wp F (.seq (.reg (.done [(4, (.cst (.bool false)))] none)) .ret) Q env w := rfl
def h4_36 : HC := (.seq (.br (.chk none (.cal 10) (.cons (.inp 7) .nil) (.chk none (.bin .neq) (.cons (.op (.cal 10) (.cons (.inp 7) .nil)) (.cons (.inp 13) .nil)) (.bnd (.op (.bin .neq) (.cons (.op (.cal 10) (.cons (.inp 7) .nil)) (.cons (.inp 13) .nil))) (.chk (some ((.bv 0), false)) (.cal 10) (.cons (.inp 9) .nil) (.chk (some ((.bv 0), false)) (.bin .neq) (.cons (.op (.cal 10) (.cons (.inp 9) .nil)) (.cons (.inp 15) .nil)) (.isb none (.bv 0) (.bnd (.ite (.bv 0) true (.cst (.bool true)) (.op (.bin .neq) (.cons (.op (.cal 10) (.cons (.inp 9) .nil)) (.cons (.inp 15) .nil)))) (.chk (some ((.bv 1), false)) (.cal 10) (.cons (.inp 11) .nil) (.chk (some ((.bv 1), false)) (.bin .neq) (.cons (.op (.cal 10) (.cons (.inp 11) .nil)) (.cons (.inp 17) .nil)) (.isb none (.bv 1) (.bnd (.ite (.bv 1) true (.cst (.bool true)) (.op (.bin .neq) (.cons (.op (.cal 10) (.cons (.inp 11) .nil)) (.cons (.inp 17) .nil)))) (.chk (some ((.bv 2), false)) (.eqNil false (.pointer 81) (.pointer none)) (.cons (.inp 6) .nil) (.chk (some ((.bv 2), false)) (.eqNil false (.pointer 90) (.pointer none)) (.cons (.inp 12) .nil) (.chk (some ((.bv 2), false)) (.eqB true) (.cons (.op (.eqNil false (.pointer 81) (.pointer none)) (.cons (.inp 6) .nil)) (.cons (.op (.eqNil false (.pointer 90) (.pointer none)) (.cons (.inp 12) .nil)) .nil)) (.isb none (.bv 2) (.bnd (.ite (.bv 2) true (.cst (.bool true)) (.op (.eqB true) (.cons (.op (.eqNil false (.pointer 81) (.pointer none)) (.cons (.inp 6) .nil)) (.cons (.op (.eqNil false (.pointer 90) (.pointer none)) (.cons (.inp 12) .nil)) .nil)))) (.chk (some ((.bv 3), false)) (.eqNil false (.pointer 81) (.pointer none)) (.cons (.inp 8) .nil) (.chk (some ((.bv 3), false)) (.eqNil false (.pointer 90) (.pointer none)) (.cons (.inp 14) .nil) (.chk (some ((.bv 3), false)) (.eqB true) (.cons (.op (.eqNil false (.pointer 81) (.pointer none)) (.cons (.inp 8) .nil)) (.cons (.op (.eqNil false (.pointer 90) (.pointer none)) (.cons (.inp 14) .nil)) .nil)) (.isb none (.bv 3) (.bnd (.ite (.bv 3) true (.cst (.bool true)) (.op (.eqB true) (.cons (.op (.eqNil false (.pointer 81) (.pointer none)) (.cons (.inp 8) .nil)) (.cons (.op (.eqNil false (.pointer 90) (.pointer none)) (.cons (.inp 14) .nil)) .nil)))) (.chk (some ((.bv 4), false)) (.eqNil false (.pointer 81) (.pointer none)) (.cons (.inp 10) .nil) (.chk (some ((.bv 4), false)) (.eqNil false (.pointer 90) (.pointer none)) (.cons (.inp 16) .nil) (.chk (some ((.bv 4), false)) (.eqB true) (.cons (.op (.eqNil false (.pointer 81) (.pointer none)) (.cons (.inp 10) .nil)) (.cons (.op (.eqNil false (.pointer 90) (.pointer none)) (.cons (.inp 16) .nil)) .nil)) (.isb none (.bv 4) (.bnd (.ite (.bv 4) true (.cst (.bool true)) (.op (.eqB true) (.cons (.op (.eqNil false (.pointer 81) (.pointer none)) (.cons (.inp 10) .nil)) (.cons (.op (.eqNil false (.pointer 90) (.pointer none)) (.cons (.inp 16) .nil)) .nil)))) (.ite (.bv 5) false (.eff (.call 23) (.cons (.ite (.bv 5) false (.inp 5) (.cst (.tuple #[]))) (.cons (.ite (.bv 5) false (.inp 1) (.cst (.tuple #[]))) .nil)) (.chk none (.un .not) (.cons (.bv 6) .nil) (.isb none (.bv 5) (.done [] (some (.op (.un .not) (.cons (.bv 6) .nil))))))) (.isb none (.bv 5) (.done [] (some (.cst (.bool true)))))))))))))))))))))))))))))))) h4_35 .skip) h4_34)
@[simp] theorem h4_36_wp {P : Program} {F : PF P} {Q : EX → List Value → World → Prop} {env : List Value} {w : World} : h4_36.wp F Q env w = HC.wp F (.seq (.br (.chk none (.cal 10) (.cons (.inp 7) .nil) (.chk none (.bin .neq) (.cons (.op (.cal 10) (.cons (.inp 7) .nil)) (.cons (.inp 13) .nil)) (.bnd (.op (.bin .neq) (.cons (.op (.cal 10) (.cons (.inp 7) .nil)) (.cons (.inp 13) .nil))) (.chk (some ((.bv 0), false)) (.cal 10) (.cons (.inp 9) .nil) (.chk (some ((.bv 0), false)) (.bin .neq) (.cons (.op (.cal 10) (.cons (.inp 9) .nil)) (.cons (.inp 15) .nil)) (.isb none (.bv 0) (.bnd (.ite (.bv 0) true (.cst (.bool true)) (.op (.bin .neq) (.cons (.op (.cal 10) (.cons (.inp 9) .nil)) (.cons (.inp 15) .nil)))) (.chk (some ((.bv 1), false)) (.cal 10) (.cons (.inp 11) .nil) (.chk (some ((.bv 1), false)) (.bin .neq) (.cons (.op (.cal 10) (.cons (.inp 11) .nil)) (.cons (.inp 17) .nil)) (.isb none (.bv 1) (.bnd (.ite (.bv 1) true (.cst (.bool true)) (.op (.bin .neq) (.cons (.op (.cal 10) (.cons (.inp 11) .nil)) (.cons (.inp 17) .nil)))) (.chk (some ((.bv 2), false)) (.eqNil false (.pointer 81) (.pointer none)) (.cons (.inp 6) .nil) (.chk (some ((.bv 2), false)) (.eqNil false (.pointer 90) (.pointer none)) (.cons (.inp 12) .nil) (.chk (some ((.bv 2), false)) (.eqB true) (.cons (.op (.eqNil false (.pointer 81) (.pointer none)) (.cons (.inp 6) .nil)) (.cons (.op (.eqNil false (.pointer 90) (.pointer none)) (.cons (.inp 12) .nil)) .nil)) (.isb none (.bv 2) (.bnd (.ite (.bv 2) true (.cst (.bool true)) (.op (.eqB true) (.cons (.op (.eqNil false (.pointer 81) (.pointer none)) (.cons (.inp 6) .nil)) (.cons (.op (.eqNil false (.pointer 90) (.pointer none)) (.cons (.inp 12) .nil)) .nil)))) (.chk (some ((.bv 3), false)) (.eqNil false (.pointer 81) (.pointer none)) (.cons (.inp 8) .nil) (.chk (some ((.bv 3), false)) (.eqNil false (.pointer 90) (.pointer none)) (.cons (.inp 14) .nil) (.chk (some ((.bv 3), false)) (.eqB true) (.cons (.op (.eqNil false (.pointer 81) (.pointer none)) (.cons (.inp 8) .nil)) (.cons (.op (.eqNil false (.pointer 90) (.pointer none)) (.cons (.inp 14) .nil)) .nil)) (.isb none (.bv 3) (.bnd (.ite (.bv 3) true (.cst (.bool true)) (.op (.eqB true) (.cons (.op (.eqNil false (.pointer 81) (.pointer none)) (.cons (.inp 8) .nil)) (.cons (.op (.eqNil false (.pointer 90) (.pointer none)) (.cons (.inp 14) .nil)) .nil)))) (.chk (some ((.bv 4), false)) (.eqNil false (.pointer 81) (.pointer none)) (.cons (.inp 10) .nil) (.chk (some ((.bv 4), false)) (.eqNil false (.pointer 90) (.pointer none)) (.cons (.inp 16) .nil) (.chk (some ((.bv 4), false)) (.eqB true) (.cons (.op (.eqNil false (.pointer 81) (.pointer none)) (.cons (.inp 10) .nil)) (.cons (.op (.eqNil false (.pointer 90) (.pointer none)) (.cons (.inp 16) .nil)) .nil)) (.isb none (.bv 4) (.bnd (.ite (.bv 4) true (.cst (.bool true)) (.op (.eqB true) (.cons (.op (.eqNil false (.pointer 81) (.pointer none)) (.cons (.inp 10) .nil)) (.cons (.op (.eqNil false (.pointer 90) (.pointer none)) (.cons (.inp 16) .nil)) .nil)))) (.ite (.bv 5) false (.eff (.call 23) (.cons (.ite (.bv 5) false (.inp 5) (.cst (.tuple #[]))) (.cons (.ite (.bv 5) false (.inp 1) (.cst (.tuple #[]))) .nil)) (.chk none (.un .not) (.cons (.bv 6) .nil) (.isb none (.bv 5) (.done [] (some (.op (.un .not) (.cons (.bv 6) .nil))))))) (.isb none (.bv 5) (.done [] (some (.cst (.bool true)))))))))))))))))))))))))))))))) h4_35 .skip) h4_34) Q env w := rfl
def h4_37 : HC := (.seq (.reg (.eff (.call 21) (.cons (.inp 0) .nil) (.chk none (.ext 0) (.cons (.bv 0) .nil) (.chk none (.ext 1) (.cons (.bv 0) .nil) (.done [(16, (.op (.ext 0) (.cons (.bv 0) .nil))), (17, (.op (.ext 1) (.cons (.bv 0) .nil)))] none))))) h4_36)
@[simp] theorem h4_37_wp {P : Program} {F : PF P} {Q : EX → List Value → World → Prop} {env : List Value} {w : World} : h4_37.wp F Q env w = HC.wp F (.seq (.reg (.eff (.call 21) (.cons (.inp 0) .nil) (.chk none (.ext 0) (.cons (.bv 0) .nil) (.chk none (.ext 1) (.cons (.bv 0) .nil) (.done [(16, (.op (.ext 0) (.cons (.bv 0) .nil))), (17, (.op (.ext 1) (.cons (.bv 0) .nil)))] none))))) h4_36) Q env w := rfl
def h4_38 : HC := (.seq (.reg (.eff (.call 22) (.cons (.inp 0) (.cons (.inp 1) (.cons (.inp 2) .nil))) (.chk none (.ext 0) (.cons (.bv 0) .nil) (.chk none (.ext 1) (.cons (.bv 0) .nil) (.done [(14, (.op (.ext 0) (.cons (.bv 0) .nil))), (15, (.op (.ext 1) (.cons (.bv 0) .nil)))] none))))) h4_37)
@[simp] theorem h4_38_wp {P : Program} {F : PF P} {Q : EX → List Value → World → Prop} {env : List Value} {w : World} : h4_38.wp F Q env w = HC.wp F (.seq (.reg (.eff (.call 22) (.cons (.inp 0) (.cons (.inp 1) (.cons (.inp 2) .nil))) (.chk none (.ext 0) (.cons (.bv 0) .nil) (.chk none (.ext 1) (.cons (.bv 0) .nil) (.done [(14, (.op (.ext 0) (.cons (.bv 0) .nil))), (15, (.op (.ext 1) (.cons (.bv 0) .nil)))] none))))) h4_37) Q env w := rfl
def h4_39 : HC := (.seq (.reg (.eff (.call 21) (.cons (.inp 0) .nil) (.chk none (.ext 0) (.cons (.bv 0) .nil) (.chk none (.ext 1) (.cons (.bv 0) .nil) (.done [(12, (.op (.ext 0) (.cons (.bv 0) .nil))), (13, (.op (.ext 1) (.cons (.bv 0) .nil)))] none))))) h4_38)
@[simp] theorem h4_39_wp {P : Program} {F : PF P} {Q : EX → List Value → World → Prop} {env : List Value} {w : World} : h4_39.wp F Q env w = HC.wp F (.seq (.reg (.eff (.call 21) (.cons (.inp 0) .nil) (.chk none (.ext 0) (.cons (.bv 0) .nil) (.chk none (.ext 1) (.cons (.bv 0) .nil) (.done [(12, (.op (.ext 0) (.cons (.bv 0) .nil))), (13, (.op (.ext 1) (.cons (.bv 0) .nil)))] none))))) h4_38) Q env w := rfl
def h4_40 : HC := (.seq (.reg (.eff (.call 9) (.cons (.inp 0) .nil) (.chk none (.ext 0) (.cons (.bv 0) .nil) (.chk none (.ext 1) (.cons (.bv 0) .nil) (.done [(10, (.op (.ext 0) (.cons (.bv 0) .nil))), (11, (.op (.ext 1) (.cons (.bv 0) .nil)))] none))))) h4_39)
@[simp] theorem h4_40_wp {P : Program} {F : PF P} {Q : EX → List Value → World → Prop} {env : List Value} {w : World} : h4_40.wp F Q env w = HC.wp F (.seq (.reg (.eff (.call 9) (.cons (.inp 0) .nil) (.chk none (.ext 0) (.cons (.bv 0) .nil) (.chk none (.ext 1) (.cons (.bv 0) .nil) (.done [(10, (.op (.ext 0) (.cons (.bv 0) .nil))), (11, (.op (.ext 1) (.cons (.bv 0) .nil)))] none))))) h4_39) Q env w := rfl
def h4_41 : HC := (.seq (.reg (.eff (.call 20) (.cons (.inp 0) (.cons (.inp 5) (.cons (.inp 2) .nil))) (.chk none (.ext 0) (.cons (.bv 0) .nil) (.chk none (.ext 1) (.cons (.bv 0) .nil) (.done [(8, (.op (.ext 0) (.cons (.bv 0) .nil))), (9, (.op (.ext 1) (.cons (.bv 0) .nil)))] none))))) h4_40)
@[simp] theorem h4_41_wp {P : Program} {F : PF P} {Q : EX → List Value → World → Prop} {env : List Value} {w : World} : h4_41.wp F Q env w = HC.wp F (.seq (.reg (.eff (.call 20) (.cons (.inp 0) (.cons (.inp 5) (.cons (.inp 2) .nil))) (.chk none (.ext 0) (.cons (.bv 0) .nil) (.chk none (.ext 1) (.cons (.bv 0) .nil) (.done [(8, (.op (.ext 0) (.cons (.bv 0) .nil))), (9, (.op (.ext 1) (.cons (.bv 0) .nil)))] none))))) h4_40) Q env w := rfl
def h4_42 : HC := (.seq (.reg (.eff (.call 9) (.cons (.inp 0) .nil) (.chk none (.ext 0) (.cons (.bv 0) .nil) (.chk none (.ext 1) (.cons (.bv 0) .nil) (.done [(6, (.op (.ext 0) (.cons (.bv 0) .nil))), (7, (.op (.ext 1) (.cons (.bv 0) .nil)))] none))))) h4_41)
@[simp] theorem h4_42_wp {P : Program} {F : PF P} {Q : EX → List Value → World → Prop} {env : List Value} {w : World} : h4_42.wp F Q env w = HC.wp F (.seq (.reg (.eff (.call 9) (.cons (.inp 0) .nil) (.chk none (.ext 0) (.cons (.bv 0) .nil) (.chk none (.ext 1) (.cons (.bv 0) .nil) (.done [(6, (.op (.ext 0) (.cons (.bv 0) .nil))), (7, (.op (.ext 1) (.cons (.bv 0) .nil)))] none))))) h4_41) Q env w := rfl
def h4_43 : HC := (.seq (.reg (.eff (.call 19) (.cons (.inp 1) .nil) (.done [(5, (.bv 0))] none))) h4_42)
@[simp] theorem h4_43_wp {P : Program} {F : PF P} {Q : EX → List Value → World → Prop} {env : List Value} {w : World} : h4_43.wp F Q env w = HC.wp F (.seq (.reg (.eff (.call 19) (.cons (.inp 1) .nil) (.done [(5, (.bv 0))] none))) h4_42) Q env w := rfl
def l4 : Lifted := ⟨[0, 1, 2, 3, 8, 9, 10, 11, 12, 13, 14, 15, 16, 17, 18, 19, 20, 21, 22, 23, 24, 25, 26, 27, 28, 29, 30, 137], 237, [.slot 4], (.seq (.reg (.done [(4, (.cst (.bool false)))] none)) h4_43)⟩
theorem l4_ok : liftFn U1 4 400 = some l4 := by kernel_rfl


abbrev Desk := Nat → Slot
def pvs (T : Desk) : List Value := (List.range 4).map fun k => gp (T k)
def rvs (T : Desk) : List Value := (List.range 4).map fun k => mp (T k)
def slF : Nat → Slot → Asn := fun _ t => slotA t
theorem pvs_at (T : Desk) {k : Nat} (h : k < 4) : (pvs T)[k]? = some (gp (T k)) := by simp [pvs, h]
theorem rvs_at (T : Desk) {k : Nat} (h : k < 4) : (rvs T)[k]? = some (mp (T k)) := by simp [rvs, h]
theorem range_set {α : Type} (f : Nat → α) (k n : Nat) (v : α) (h : k < n) : ((List.range n).map f).set k v = (List.range n).map fun j => if j = k then v else f j := by
  apply List.ext_getElem?
  intro i
  by_cases hi : i < n
  · by_cases e : i = k
    · subst e
      rw [List.getElem?_set_self (by simpa using hi)]
      simp [hi]
    · rw [List.getElem?_set_ne (Ne.symm e)]
      simp [hi, e]
  · rw [List.getElem?_eq_none (by simp; omega), List.getElem?_eq_none (by simp; omega)]
theorem pvs_set (T : Desk) {k : Nat} (h : k < 4) (t : Slot) : (pvs T).set k (gp t) = pvs (upF T k t) := by
  unfold pvs
  rw [range_set _ _ _ _ h]
  refine List.map_congr_left fun j _ => ?_
  by_cases e : j = k
  · subst e; rw [if_pos rfl, upF_at]
  · rw [if_neg e, upF_ne _ _ e]
theorem rvs_set (T : Desk) {k : Nat} (h : k < 4) (t : Slot) : (rvs T).set k (mp t) = rvs (upF T k t) := by
  unfold rvs
  rw [range_set _ _ _ _ h]
  refine List.map_congr_left fun j _ => ?_
  by_cases e : j = k
  · subst e; rw [if_pos rfl, upF_at]
  · rw [if_neg e, upF_ne _ _ e]
theorem up_ok {T : Desk} (hT : ∀ k, slotOK (T k)) (k : Nat) {t : Slot} (ht : slotOK t) : ∀ j, slotOK (upF T k t j) := fun j => by
  by_cases e : j = k
  · subst e; rw [upF_at]; exact ht
  · rw [upF_ne _ _ e]; exact hT j
/-- by their pointers alone -/
def gV : Value → Ps → Asn
  | .pointer (some ⟨p, _, _⟩), P => pur p P
  | _, _ => emp
def rV : Value → Ps → Asn
  | .pointer (some ⟨p, _, _⟩), P => rpur p P
  | _, _ => emp
def okV (t : Slot) (r : Value) : Prop := match t with
  | none => r = .pointer none
  | some _ => ∃ k, r = .pointer (some ⟨k, 0, none⟩)
def blk : Value → Nat
  | .pointer (some a) => a.block
  | _ => 0
def newS (t : Slot) (r1 r2 : Value) : Slot := t.map fun x => ⟨blk r1, blk r2, x.lim, x.P⟩
theorem newS_facts {t : Slot} {r1 r2 : Value} (h1 : okV t r1) (h2 : okV t r2) (ht : slotOK t) : gp (newS t r1 r2) = r1 ∧ mp (newS t r1 r2) = r2 ∧ slotA (newS t r1 r2) = gV r1 (psS t) * rV r2 (psS t) ∧ slotOK (newS t r1 r2) := by
  cases t with
  | none =>
    simp only [okV] at h1 h2
    subst h1 h2
    exact ⟨rfl, rfl, rfl, trivial⟩
  | some x =>
    obtain ⟨k1, rfl⟩ := h1
    obtain ⟨k2, rfl⟩ := h2
    exact ⟨rfl, rfl, rfl, ht⟩
theorem okV_one {t : Slot} {r : Value} (h : okV t r) : r.oneCell' = true := by
  cases t with
  | none => simp only [okV] at h; subst h; rfl
  | some x => obtain ⟨k, rfl⟩ := h; rfl
theorem vCopy (t : Slot) (w0 w : World) (A : Asn) (ht : slotOK t) (s : St w0 (A * gO t (psS t)) w) :
    CallW Try.prog 26 [gp t] (fun r w' => okV t r ∧ St w0 (A * gO t (psS t) * gV r (psS t)) w') w := by
  refine (hCopy t w0 w A ht s).mono fun r w' ⟨k, h1, h2⟩ => ?_
  subst h1
  cases t with
  | none => exact ⟨rfl, h2⟩
  | some x => exact ⟨⟨k, rfl⟩, h2⟩
theorem vrCopy (t : Slot) (w0 w : World) (A : Asn) (ht : slotOK t) (s : St w0 (A * rO t (psS t)) w) :
    CallW Try.prog 27 [mp t] (fun r w' => okV t r ∧ St w0 (A * rO t (psS t) * rV r (psS t)) w') w := by
  refine (hrCopy t w0 w A ht s).mono fun r w' ⟨k, h1, h2⟩ => ?_
  subst h1
  cases t with
  | none => exact ⟨rfl, h2⟩
  | some x => exact ⟨⟨k, rfl⟩, h2⟩
def noChk (t : Slot) : Bool := t.isNone
theorem plays_end (lim sup : Int) (v1 v3 v5 v6 v7 v8 v9 v10 v11 v12 v13 v14 v15 v16 v17 v20 v21 v22 v23 v24 v25 v26 v27 pv rv : Value) (T : Desk) (w0 w : World) (A : Asn) (hT : ∀ k, slotOK (T k))
    (s : St w0 (A * own 24 1 pv 4 (pvs T) * own 44 1 rv 4 (rvs T) * bigA slF T 4) w) :
    HC.wp U1 h4_8 (endQ Try.prog [RV.slot 4] fun r w' => r = Value.bool true ∧ St w0 A w')
      [.int .i64 lim, v1, .int .u64 sup, v3, .bool false, v5, v6, v7, v8, v9, v10, v11, v12, v13, v14, v15, v16, v17, pv, rv, v20, v21, v22, v23, v24, v25, v26, v27] w := by
  obtain ⟨pg, pcap, rfl, _, _⟩ := s.drop.drop.own_at (by decide)
  obtain ⟨rg, rcap, rfl, _, _⟩ := s.drop.own_at (by decide)
  simp
  refine loopI (fun env w' => ∃ (k : Nat), env = [.int .i64 lim, v1, .int .u64 sup, v3, .bool false, v5, v6, v7, v8, v9, v10, v11, v12, v13, v14, v15, v16, v17, .slice (some ⟨pg, 0, none⟩) 4 pcap, .slice (some ⟨rg, 0, none⟩) 4 rcap, v20, v21, v22, v23, v24, v25, .int .i64 k, v27] ∧ k ≤ 4 ∧
      St w0 (A * own 24 1 (.slice (some ⟨pg, 0, none⟩) 4 pcap) 4 (pvs T) * own 44 1 (.slice (some ⟨rg, 0, none⟩) 4 rcap) 4 (rvs T) * bigA slF T 4) w')
    (fun env _ => 4 - slotN env 26) ⟨0, rfl, by omega, s⟩ ?_
  clear s
  rintro LQ env w' ⟨k, rfl, hk, s⟩ hN hE hR
  simp
  refine cndI (fun h => ?_) (fun h => ?_)
  · have h0 := h
    simp at h0
    simp at h
    have h : k < 4 := by omega
    rw [big_at h] at s
    have hfl : slF k (T k) = slotA (T k) := rfl
    rw [hfl] at s
    simp
    generalize hS : A * own 24 1 (.slice (some ⟨pg, 0, none⟩) 4 pcap) 4 (pvs T) * own 44 1 (.slice (some ⟨rg, 0, none⟩) 4 rcap) 4 (rvs T) * (bigH slF T k 4 * slotA (T k)) = S at s
    have hp : ∀ {w}, St w0 S w → w.cell? ⟨pg, k, none⟩ = some (gp (T k)) := fun h' => by
      rw [← hS] at h'
      obtain ⟨_, _, hv, _, hc⟩ := h'.drop.drop.own_at (by decide)
      cases hv; exact hc k _ (pvs_at T h)
    have hr : ∀ {w}, St w0 S w → w.cell? ⟨rg, k, none⟩ = some (mp (T k)) := fun h' => by
      rw [← hS] at h'
      obtain ⟨_, _, hv, _, hc⟩ := h'.drop.own_at (by decide)
      cases hv; exact hc k _ (rvs_at T h)
    refine brmI (clsT (St w0 S)) s.drew ?_
    simp [h0]
    refine effm_ldc (v := gp (T k)) (fun vs' w he hw => hp (clsT_low hw)) ?_
    simp [h0]
    refine effm_ldc (v := mp (T k)) (fun vs' w he hw => hr (clsT_low hw)) ?_
    simp
    refine effm_mv rfl (fun w hw => eff_call ((told_spec (T k) w0 w (A * own 24 1 (.slice (some ⟨pg, 0, none⟩) 4 pcap) 4 (pvs T) * own 44 1 (.slice (some ⟨rg, 0, none⟩) 4 rcap) 4 (rvs T) * bigH slF T k 4) (hT k) (St.to hw (by rw [← hS]; ac_rfl))).mono fun r w' h => ?_)) (fun r hr => ?_)
    · exact ⟨h.1, h.2.to (by rw [← hS]; ac_rfl)⟩
    obtain ⟨_, rfl, _⟩ := hr
    simp
    intro w9 s9
    try simp (disch := omega) only [wrap64]
    refine hN _ _ ⟨k + 1, by simp, by omega, ?_⟩ (by simp [slotN]; omega)
    rw [big_at h, hfl, hS]
    exact s9
  simp at h
  simp
  refine hE _ _ _ ?_
  simp
  exact s.drop.drop.drop
end Go.HL.Pu

namespace Go.HL.Pu
open Go.HL Go.HL.Nm Go.Proofs
set_option maxRecDepth 4000
set_option linter.unusedSimpArgs false
set_option linter.unusedVariables false
abbrev PO (g cap : Nat) (X : List Value) : Asn := own 24 1 (.slice (some ⟨g, 0, none⟩) 4 cap) 4 X
abbrev RO (g cap : Nat) (X : List Value) : Asn := own 44 1 (.slice (some ⟨g, 0, none⟩) 4 cap) 4 X
theorem po_cell {w0 w : World} {A : Asn} {g cap : Nat} {X : List Value} (s : St w0 (A * PO g cap X) w) : ∀ j u, X[j]? = some u → w.cell? ⟨g, j, none⟩ = some u := by
  obtain ⟨_, _, hv, _, hc⟩ := s.own_at (by decide)
  cases hv; exact hc
theorem ro_cell {w0 w : World} {A : Asn} {g cap : Nat} {X : List Value} (s : St w0 (A * RO g cap X) w) : ∀ j u, X[j]? = some u → w.cell? ⟨g, j, none⟩ = some u := by
  obtain ⟨_, _, hv, _, hc⟩ := s.own_at (by decide)
  cases hv; exact hc
/-- while copies are made and put in their place -/
def cpS (w0 : World) (t : Slot) (A : Asn) (pg pcap rg rcap : Nat) (X Y : List Value) (E : Asn) (w : World) : Prop := St w0 (A * (gO t (psS t) * rO t (psS t)) * E * PO pg pcap X * RO rg rcap Y) w
def cpC (w0 : World) (t : Slot) (A : Asn) (pg pcap rg rcap : Nat) (X Y : List Value) (n : Nat) : List Value → World → Prop
  | [], w => cpS w0 t A pg pcap rg rcap X Y emp w
  | [r1], w => okV t r1 ∧ cpS w0 t A pg pcap rg rcap X Y (gV r1 (psS t)) w
  | [r1, r2], w => (okV t r1 ∧ okV t r2) ∧ cpS w0 t A pg pcap rg rcap X Y (gV r1 (psS t) * rV r2 (psS t)) w
  | [r1, r2, _], w => (okV t r1 ∧ okV t r2) ∧ cpS w0 t A pg pcap rg rcap (X.set n r1) Y (gV r1 (psS t) * rV r2 (psS t)) w
  | r1 :: r2 :: _ :: _ :: _, w => (okV t r1 ∧ okV t r2) ∧ cpS w0 t A pg pcap rg rcap (X.set n r1) (Y.set n r2) (gV r1 (psS t) * rV r2 (psS t)) w
theorem cpC_low {w0 : World} {t : Slot} {A : Asn} {pg pcap rg rcap : Nat} {X Y : List Value} {n : Nat} {vs : List Value} {w : World} (hl : vs.length < 3) (h : cpC w0 t A pg pcap rg rcap X Y n vs w) : ∃ E, cpS w0 t A pg pcap rg rcap X Y E w := by
  match vs, h with
  | [], h => exact ⟨_, h⟩
  | [_], h => exact ⟨_, h.2⟩
  | [_, _], h => exact ⟨_, h.2⟩
  | _ :: _ :: _ :: _, h => simp at hl; omega
def ldC (w0 : World) (x : Sl) (S : Asn) : List Value → World → Prop
  | [], w => St w0 S w
  | [r], w => r = .int .i64 x.P.lim ∧ St w0 S w
  | [_, r], w => St w0 (S * own 66 2 r x.P.rows.length (flat x.P.rows)) w
  | [_, r, r2], w => r2 = .int .u64 x.P.sup ∧ St w0 (S * own 66 2 r x.P.rows.length (flat x.P.rows)) w
  | _ :: _ :: _ :: r :: _, w => ∃ k, r = .tuple #[.pointer (some ⟨k, 0, none⟩), .int .i64 0] ∧ St w0 (S * pur k x.P) w
theorem ldC_low {w0 : World} {x : Sl} {S : Asn} {vs : List Value} {w : World} (h : ldC w0 x S vs w) : St w0 S w := by
  match vs, h with
  | [], h => exact h
  | [_], h => exact h.2
  | [_, _], h => exact St.drop h
  | [_, _, _], h => exact St.drop h.2
  | _ :: _ :: _ :: _ :: _, h =>
    obtain ⟨_, _, h⟩ := h
    exact St.drop h
def plC (S S' : World → Prop) : List Value → World → Prop
  | [], w => S w
  | r :: _, w => r = .bool true ∧ S' w
theorem pvs_same {T T' : Desk} (h : ∀ k, gp (T' k) = gp (T k)) : pvs T' = pvs T := List.map_congr_left fun k _ => h k
theorem rvs_same {T T' : Desk} (h : ∀ k, mp (T' k) = mp (T k)) : rvs T' = rvs T := List.map_congr_left fun k _ => h k
theorem ps_bds {lim : Int} {P : Ps} (hP : PI lim P) : P.rows.length ≤ 64 ∧ (0 ≤ P.sup ∧ P.sup < 18446744073709551616) ∧ (∀ x ∈ P.rows, 0 ≤ x.coins ∧ x.coins < 18446744073709551616) ∧ (∀ x ∈ P.rows, x.name.length ≤ 1048576) := by
  have hb := hP.bd
  have hsup := hb.sup
  refine ⟨hb.len, by omega, fun x hx => ?_, fun x hx => ?_⟩
  · obtain ⟨k, hk, rfl⟩ := List.getElem_of_mem hx
    have := coin_bd hb hk
    rw [coin_at hk] at this
    omega
  · obtain ⟨k, hk, rfl⟩ := List.getElem_of_mem hx
    exact hP.names k hk
theorem plays_loop (lim sup : Int) (ops : List Sp) (v1 v3 v5 v6 v7 v8 v9 v10 v11 v12 v13 v14 v15 v16 v17 pv rv : Value) (T : Desk) (w0 w : World) (A : Asn) (hl : ops.length ≤ 1048576) (hrow : Row w0 A v3 ops.length 6 (sps ops))
    (hx : ∀ x ∈ ops, x.name.length ≤ 1048576 ∧ 0 ≤ x.coins ∧ x.coins ≤ 18446744073709551615) (hT : ∀ k, slotOK (T k))
    (s : St w0 (A * own 24 1 pv 4 (pvs T) * own 44 1 rv 4 (rvs T) * bigA slF T 4) w) :
    HC.wp U1 h4_31 (endQ Try.prog [RV.slot 4] fun r w' => r = Value.bool true ∧ St w0 A w')
      [.int .i64 lim, v1, .int .u64 sup, v3, .bool false, v5, v6, v7, v8, v9, v10, v11, v12, v13, v14, v15, v16, v17, pv, rv, undef, undef, undef, undef, undef, undef, undef, undef] w := by
  obtain ⟨pg, pcap, rfl, _, _⟩ := s.drop.drop.own_at (by decide)
  obtain ⟨rg, rcap, rfl, _, _⟩ := s.drop.own_at (by decide)
  obtain ⟨sa, scap, rfl⟩ := hrow.val
  simp
  have s0 : St w0 (A * bigA slF T 4 * PO pg pcap (pvs T) * RO rg rcap (rvs T)) w := by
    have s : St w0 (A * PO pg pcap (pvs T) * RO rg rcap (rvs T) * bigA slF T 4) w := s
    exact s.to (by ac_rfl)
  refine loopI (fun env w' => ∃ (i : Nat) (T : Desk) (o21 o22 o23 o24 o25 o27 : Value), env = [.int .i64 lim, v1, .int .u64 sup, .slice sa ops.length scap, .bool false, v5, v6, v7, v8, v9, v10, v11, v12, v13, v14, v15, v16, v17, .slice (some ⟨pg, 0, none⟩) 4 pcap, .slice (some ⟨rg, 0, none⟩) 4 rcap, .int .i64 i, o21, o22, o23, o24, o25, undef, o27] ∧ i ≤ ops.length ∧ (∀ k, slotOK (T k)) ∧
      St w0 (A * bigA slF T 4 * PO pg pcap (pvs T) * RO rg rcap (rvs T)) w')
    (fun env _ => ops.length - slotN env 20) ⟨0, T, _, _, _, _, _, _, rfl, by omega, hT, s0⟩ ?_
  clear s s0 hT
  rintro LQ env w' ⟨i, T, o21, o22, o23, o24, o25, o27, rfl, hi, hT, s⟩ hN hE hR
  simp
  refine cndI (fun h => ?_) (fun h => ?_)
  · simp at h
    obtain ⟨g, o, gcap, hv, hcell⟩ := hrow.at (by omega)
    cases hv
    have hok : ops[i].ok := by have := hx _ (List.getElem_mem h); exact ⟨by omega, this.1⟩
    have hopn : ∀ {w}, St w0 A w → ∀ j u, (ops[i].cs)[j]? = some u → w.cell? ⟨g, o + (i * 6 + j), none⟩ = some u := fun s j u hu => hcell _ s _ _ (sps_at h j u hu)
    obtain ⟨x, hxe⟩ : ∃ x, ops[i] = x := ⟨_, rfl⟩
    rw [hxe] at hok hopn
    simp [h]
    refine eff_ldcs (vs := x.cs) (fun j u hu => by rw [Nat.add_assoc]; exact hopn s.drop.drop.drop j u hu) rfl ?_
    simp
    refine eff_new s ?_
    intro c w3 s3
    simp
    refine eff_stA (vs := x.cs) s3 rfl rfl (sp_one x) (by simp) ?_
    intro w4 s4
    have s4 : St w0 (A * pt c (.cells x.cs.toArray 53 (0, 0)) * bigA slF T 4 * PO pg pcap (pvs T) * RO rg rcap (rvs T)) w4 := by
      have : St w0 (A * bigA slF T 4 * PO pg pcap (pvs T) * RO rg rcap (rvs T) * pt c (.cells x.cs.toArray 53 (0, 0))) w4 := by simpa using s4
      exact this.to (by ac_rfl)
    simp
    obtain ⟨n, hn⟩ : ∃ n : Nat, roundF x.who 4 = n := ⟨(roundF x.who 4).toNat, by have := round_bd x.who 4 (by decide); omega⟩
    obtain ⟨m, hm⟩ : ∃ m : Nat, roundF x.a 4 = m := ⟨(roundF x.a 4).toNat, by have := round_bd x.a 4 (by decide); omega⟩
    have hn4 : n < 4 := by have := round_bd x.who 4 (by decide); omega
    have hm4 : m < 4 := by have := round_bd x.a 4 (by decide); omega
    have hn4i : (n : Int) < 4 := by omega
    have hm4i : (m : Int) < 4 := by omega
    have cl : ∀ {w}, St w0 (A * pt c (.cells x.cs.toArray 53 (0, 0)) * bigA slF T 4 * PO pg pcap (pvs T) * RO rg rcap (rvs T)) w → ∀ j u, x.cs[j]? = some u → w.cell? ⟨c, j, none⟩ = some u := fun h j u hu => by
      have := h.drop.drop.drop.row_cells j u hu
      simpa using this
    refine eff_ldc (v := .int .i64 x.who) (cl s4 0 _ rfl) ?_
    simp
    refine eff_call ((round_spec x.who 4 w4 (by decide) (by decide)).mono ?_)
    rintro r w5 ⟨rfl, rfl⟩
    rw [hn]
    simp
    refine eff_ldc (v := .int .i64 x.a) (cl s4 2 _ rfl) ?_
    simp
    refine eff_call ((round_spec x.a 4 w5 (by decide) (by decide)).mono ?_)
    rintro r w6 ⟨rfl, rfl⟩
    rw [hm]
    simp
    refine eff_ldc (v := .int .i64 x.kind) (cl s4 1 _ rfl) ?_
    simp
    clear s s3
    have next : ∀ (T' : Desk) (o24 o25 : Value) w, (∀ k, slotOK (T' k)) → St w0 (A * bigA slF T' 4 * PO pg pcap (pvs T') * RO rg rcap (rvs T')) w →
        LQ .nrm [.int .i64 lim, v1, .int .u64 sup, .slice (some ⟨g, o, none⟩) ops.length scap, .bool false, v5, v6, v7, v8, v9, v10, v11, v12, v13, v14, v15, v16, v17, .slice (some ⟨pg, 0, none⟩) 4 pcap, .slice (some ⟨rg, 0, none⟩) 4 rcap, .int .i64 (i + 1), .pointer (some ⟨c, 0, none⟩), .int .i64 n, .int .i64 m, o24, o25, undef, .int .i64 x.kind] w := by
      intro T' o24 o25 w hT' s
      exact hN _ _ ⟨i + 1, T', _, _, _, _, _, _, by simp; exact ⟨rfl, rfl, rfl, rfl, rfl, rfl⟩, by omega, hT', s⟩ (by simp [slotN]; omega)
    refine cndI (fun k9 => ?_) (fun k9 => ?_)
    · -- a copy
      simp
      have tm := hT m
      have b0 : cpS w0 (T m) (A * pt c (.cells x.cs.toArray 53 (0, 0)) * bigH slF T m 4) pg pcap rg rcap (pvs T) (rvs T) emp w6 := by
        rw [big_at hm4] at s4
        show St w0 (A * pt c (.cells x.cs.toArray 53 (0, 0)) * bigH slF T m 4 * (gO (T m) (psS (T m)) * rO (T m) (psS (T m))) * emp * PO pg pcap (pvs T) * RO rg rcap (rvs T)) w6
        rw [sep_emp]
        have hsl : slF m (T m) = gO (T m) (psS (T m)) * rO (T m) (psS (T m)) := rfl
        rw [hsl] at s4
        exact s4.to (by ac_rfl)
      obtain ⟨X, hX⟩ : ∃ X, A * pt c (.cells x.cs.toArray 53 (0, 0)) * bigH slF T m 4 = X := ⟨_, rfl⟩
      rw [hX] at b0
      refine regmI (cpC w0 (T m) X pg pcap rg rcap (pvs T) (rvs T) n) b0.drew ?_
      have lp : ∀ {vs' : List Value} {w : World}, vs'.length < 3 → cpC w0 (T m) X pg pcap rg rcap (pvs T) (rvs T) n vs' w → w.cell? ⟨pg, m, none⟩ = some (gp (T m)) := fun hl h => by
        obtain ⟨E, h⟩ := cpC_low hl h
        exact po_cell (St.drop h) m _ (pvs_at T hm4)
      have lr : ∀ {vs' : List Value} {w : World}, vs'.length < 3 → cpC w0 (T m) X pg pcap rg rcap (pvs T) (rvs T) n vs' w → w.cell? ⟨rg, m, none⟩ = some (mp (T m)) := fun hl h => by
        obtain ⟨E, h⟩ := cpC_low hl h
        exact ro_cell h m _ (rvs_at T hm4)
      simp [hm4i]
      refine effm_ldc (v := gp (T m)) (fun vs' w he hw => lp (by simp [era] at he; omega) hw) ?_
      simp
      refine effm_mv rfl (fun w hw => ?_) (fun r1 hr1 => ?_)
      · have hw : St w0 (X * (gO (T m) (psS (T m)) * rO (T m) (psS (T m))) * emp * PO pg pcap (pvs T) * RO rg rcap (rvs T)) w := hw
        rw [sep_emp] at hw
        refine eff_call ((vCopy (T m) w0 w (X * rO (T m) (psS (T m)) * PO pg pcap (pvs T) * RO rg rcap (rvs T)) tm (hw.to (by ac_rfl))).mono fun r w' h => ?_)
        show okV (T m) r ∧ St w0 (X * (gO (T m) (psS (T m)) * rO (T m) (psS (T m))) * gV r (psS (T m)) * PO pg pcap (pvs T) * RO rg rcap (rvs T)) w'
        exact ⟨h.1, h.2.to (by ac_rfl)⟩
      obtain ⟨_, ok1, _⟩ : ∃ w, okV (T m) r1 ∧ cpS w0 (T m) X pg pcap rg rcap (pvs T) (rvs T) (gV r1 (psS (T m))) w := hr1
      simp [hm4i]
      refine effm_ldc (v := mp (T m)) (fun vs' w he hw => lr (by simp [era] at he; omega) hw) ?_
      simp
      refine effm_mv rfl (fun w hw => ?_) (fun r2 hr2 => ?_)
      · have hw : okV (T m) r1 ∧ St w0 (X * (gO (T m) (psS (T m)) * rO (T m) (psS (T m))) * gV r1 (psS (T m)) * PO pg pcap (pvs T) * RO rg rcap (rvs T)) w := hw
        refine eff_call ((vrCopy (T m) w0 w (X * gO (T m) (psS (T m)) * gV r1 (psS (T m)) * PO pg pcap (pvs T) * RO rg rcap (rvs T)) tm (hw.2.to (by ac_rfl))).mono fun r w' h => ?_)
        show (okV (T m) r1 ∧ okV (T m) r) ∧ St w0 (X * (gO (T m) (psS (T m)) * rO (T m) (psS (T m))) * (gV r1 (psS (T m)) * rV r (psS (T m))) * PO pg pcap (pvs T) * RO rg rcap (rvs T)) w'
        exact ⟨⟨ok1, h.1⟩, h.2.to (by ac_rfl)⟩
      obtain ⟨_, ⟨_, ok2⟩, _⟩ : ∃ w, (okV (T m) r1 ∧ okV (T m) r2) ∧ cpS w0 (T m) X pg pcap rg rcap (pvs T) (rvs T) (gV r1 (psS (T m)) * rV r2 (psS (T m))) w := hr2
      simp [hn4i]
      refine effm_mv rfl (fun w hw => ?_) (fun u3 _ => ?_)
      · have hw : (okV (T m) r1 ∧ okV (T m) r2) ∧ St w0 (X * (gO (T m) (psS (T m)) * rO (T m) (psS (T m))) * (gV r1 (psS (T m)) * rV r2 (psS (T m))) * PO pg pcap (pvs T) * RO rg rcap (rvs T)) w := hw
        refine eff_stC hw.2.swap (by simp [pvs]; omega) (okV_one ok1) fun w' h => ?_
        show (okV (T m) r1 ∧ okV (T m) r2) ∧ St w0 (X * (gO (T m) (psS (T m)) * rO (T m) (psS (T m))) * (gV r1 (psS (T m)) * rV r2 (psS (T m))) * PO pg pcap ((pvs T).set n r1) * RO rg rcap (rvs T)) w'
        exact ⟨⟨ok1, ok2⟩, St.swap h⟩
      simp [hn4i]
      refine effm_mv rfl (fun w hw => ?_) (fun u4 _ => ?_)
      · have hw : (okV (T m) r1 ∧ okV (T m) r2) ∧ St w0 (X * (gO (T m) (psS (T m)) * rO (T m) (psS (T m))) * (gV r1 (psS (T m)) * rV r2 (psS (T m))) * PO pg pcap ((pvs T).set n r1) * RO rg rcap (rvs T)) w := hw
        refine eff_stC hw.2 (by simp [rvs]; omega) (okV_one ok2) fun w' h => ?_
        show (okV (T m) r1 ∧ okV (T m) r2) ∧ St w0 (X * (gO (T m) (psS (T m)) * rO (T m) (psS (T m))) * (gV r1 (psS (T m)) * rV r2 (psS (T m))) * PO pg pcap ((pvs T).set n r1) * RO rg rcap ((rvs T).set n r2)) w'
        exact ⟨⟨ok1, ok2⟩, h⟩
      simp
      intro w9 hw9
      have s9 : St w0 (X * (gO (T m) (psS (T m)) * rO (T m) (psS (T m))) * (gV r1 (psS (T m)) * rV r2 (psS (T m))) * PO pg pcap ((pvs T).set n r1) * RO rg rcap ((rvs T).set n r2)) w9 := And.right (a := okV (T m) r1 ∧ okV (T m) r2) hw9
      clear hw9 b0 lp lr
      obtain ⟨n1, n2, n3, n4⟩ := newS_facts ok1 ok2 tm
      have e1 := pvs_set T hn4 (newS (T m) r1 r2)
      rw [n1] at e1
      have e2 := rvs_set T hn4 (newS (T m) r1 r2)
      rw [n2] at e2
      rw [e1, e2, ← n3, ← hX] at s9
      have eb : bigH slF T m 4 * (gO (T m) (psS (T m)) * rO (T m) (psS (T m))) = bigH slF T n 4 * slotA (T n) := by
        rw [show (gO (T m) (psS (T m)) * rO (T m) (psS (T m))) = slF m (T m) from rfl, ← big_at hm4, big_at hn4]
        rfl
      have s10 := s9.to (B := A * pt c (.cells x.cs.toArray 53 (0, 0)) * (bigH slF T m 4 * (gO (T m) (psS (T m)) * rO (T m) (psS (T m)))) * slotA (newS (T m) r1 r2) * PO pg pcap (pvs (upF T n (newS (T m) r1 r2))) * RO rg rcap (rvs (upF T n (newS (T m) r1 r2)))) (by ac_rfl)
      rw [eb] at s10
      have s11 : St w0 (A * bigA slF (upF T n (newS (T m) r1 r2)) 4 * PO pg pcap (pvs (upF T n (newS (T m) r1 r2))) * RO rg rcap (rvs (upF T n (newS (T m) r1 r2)))) w9 := by
        rw [big_set hn4, show slF n (newS (T m) r1 r2) = slotA (newS (T m) r1 r2) from rfl]
        exact St.cut (pt c (.cells x.cs.toArray 53 (0, 0)) * slotA (T n)) s10 (by ac_rfl)
      have hT' := up_ok hT n n4
      obtain ⟨T', hT'e⟩ : ∃ T', upF T n (newS (T m) r1 r2) = T' := ⟨_, rfl⟩
      have t1 : gp (T' n) = r1 := by rw [← hT'e, upF_at, n1]
      have t2 : mp (T' n) = r2 := by rw [← hT'e, upF_at, n2]
      rw [hT'e] at s11 hT'
      have hb : (r1 = .pointer none ∧ r2 = .pointer none) ∨ ∃ a b : Nat, r1 = .pointer (some ⟨a, 0, none⟩) ∧ r2 = .pointer (some ⟨b, 0, none⟩) := by
        cases hTm : T m with
        | none => rw [hTm] at ok1 ok2; exact .inl ⟨ok1, ok2⟩
        | some y =>
          rw [hTm] at ok1 ok2
          obtain ⟨a, ha⟩ := ok1
          obtain ⟨b, hb⟩ := ok2
          exact .inr ⟨a, b, ha, hb⟩
      refine brqI s11 ?_
      simp [hn4i]
      refine effq_ldc (v := r1) (fun w h => by rw [← t1]; exact po_cell (St.drop h) n _ (pvs_at T' hn4)) ?_
      rcases hb with ⟨f1, f2⟩ | ⟨a, b, f1, f2⟩
      · rw [f1]
        simp [hn4i]
        refine effq_ldc (v := r2) (fun w h => by rw [← t2]; exact ro_cell h n _ (rvs_at T' hn4)) ?_
        rw [f2]
        simp
        intro w12 s12
        try simp (disch := omega) only [wrap64]
        exact next T' _ _ _ hT' s12
      · rw [f1]
        simp [hn4i]
        refine effq_ldc (v := r2) (fun w h => by rw [← t2]; exact ro_cell h n _ (rvs_at T' hn4)) ?_
        rw [f2]
        simp
        intro w12 s12
        try simp (disch := omega) only [wrap64]
        exact next T' _ _ _ hT' s12
    simp
    refine cndI (fun k10 => ?_) (fun k10 => ?_)
    · -- it goes on with what Load makes of it
      have rl : ∀ {w}, St w0 (A * pt c (.cells x.cs.toArray 53 (0, 0)) * bigA slF T 4 * PO pg pcap (pvs T) * RO rg rcap (rvs T)) w → w.cell? ⟨rg, m, none⟩ = some (mp (T m)) := fun h => ro_cell h m _ (rvs_at T hm4)
      have pl : ∀ {w}, St w0 (A * pt c (.cells x.cs.toArray 53 (0, 0)) * bigA slF T 4 * PO pg pcap (pvs T) * RO rg rcap (rvs T)) w → w.cell? ⟨pg, m, none⟩ = some (gp (T m)) := fun h => po_cell (St.drop h) m _ (pvs_at T hm4)
      simp [hm4i]
      refine eff_ldc (v := mp (T m)) (rl s4) ?_
      have tm := hT m
      have slm : slF m (T m) = slotA (T m) := rfl
      have bm : bigA slF T 4 = bigH slF T m 4 * slotA (T m) := by rw [big_at hm4]; rfl
      cases hTm : T m with
      | none =>
        simp [mp]
        try simp (disch := omega) only [wrap64]
        exact next T _ _ _ hT (St.cut (pt c (.cells x.cs.toArray 53 (0, 0))) s4 (by ac_rfl))
      | some y =>
        simp [mp, hm4i]
        rw [hTm] at tm bm rl pl
        rw [bm] at s4 rl pl
        have hs : slotA (some y) = pur y.p y.P * rpur y.q y.P := rfl
        rw [hs] at s4 rl pl bm
        obtain ⟨b1, b2, b3, b4⟩ := ps_bds tm.1
        obtain ⟨S, hS⟩ : ∃ S, A * pt c (.cells x.cs.toArray 53 (0, 0)) * (bigH slF T m 4 * (pur y.p y.P * rpur y.q y.P)) * PO pg pcap (pvs T) * RO rg rcap (rvs T) = S := ⟨_, rfl⟩
        rw [hS] at s4 rl pl
        refine regmI (ldC w0 y S) s4.drew ?_
        simp [hm4i]
        refine effm_ldc (v := gp (some y)) (fun vs' w he hw => pl (ldC_low hw)) ?_
        simp [gp, hm4i]
        refine effm_mv rfl (fun w hw => ?_) (fun r1 hr1 => ?_)
        · have hw : St w0 S w := hw
          rw [← hS] at hw
          refine eff_call ((Limit_spec y.p y.P w0 w (A * pt c (.cells x.cs.toArray 53 (0, 0)) * (bigH slF T m 4 * rpur y.q y.P) * PO pg pcap (pvs T) * RO rg rcap (rvs T)) (hw.to (by ac_rfl))).mono fun r w' h => ?_)
          refine And.intro h.1 ?_
          rw [← hS]
          exact h.2.to (by ac_rfl)
        obtain ⟨_, rfl, _⟩ : ∃ w, r1 = .int .i64 y.P.lim ∧ St w0 S w := hr1
        simp [hm4i]
        refine effm_ldc (v := gp (some y)) (fun vs' w he hw => pl (ldC_low hw)) ?_
        simp [gp, hm4i]
        refine effm_mv rfl (fun w hw => ?_) (fun r2 hr2 => ?_)
        · have hw : _ ∧ St w0 S w := hw
          have hw := hw.2
          rw [← hS] at hw
          refine eff_call ((Rows_spec y.p y.P w0 w (A * pt c (.cells x.cs.toArray 53 (0, 0)) * (bigH slF T m 4 * rpur y.q y.P) * PO pg pcap (pvs T) * RO rg rcap (rvs T)) (by omega) (hw.to (by ac_rfl))).mono fun r w' h => ?_)
          show St w0 (S * own 66 2 r y.P.rows.length (flat y.P.rows)) w'
          rw [← hS]
          exact h.to (by ac_rfl)
        simp [hm4i]
        refine effm_ldc (v := gp (some y)) (fun vs' w he hw => pl (ldC_low hw)) ?_
        simp [gp, hm4i]
        refine effm_mv rfl (fun w hw => ?_) (fun r3 hr3 => ?_)
        · have hw : St w0 (S * own 66 2 r2 y.P.rows.length (flat y.P.rows)) w := hw
          rw [← hS] at hw
          refine eff_call ((Supply_spec y.p y.P w0 w (A * pt c (.cells x.cs.toArray 53 (0, 0)) * (bigH slF T m 4 * rpur y.q y.P) * PO pg pcap (pvs T) * RO rg rcap (rvs T) * own 66 2 r2 y.P.rows.length (flat y.P.rows)) (hw.to (by ac_rfl))).mono fun r w' h => ?_)
          refine And.intro h.1 ?_
          rw [← hS]
          exact h.2.to (by ac_rfl)
        obtain ⟨_, rfl, _⟩ : ∃ w, r3 = .int .u64 y.P.sup ∧ St w0 (S * own 66 2 r2 y.P.rows.length (flat y.P.rows)) w := hr3
        simp
        refine effm_mv rfl (fun w hw => ?_) (fun r4 hr4 => ?_)
        · have hw : _ ∧ St w0 (S * own 66 2 r2 y.P.rows.length (flat y.P.rows)) w := hw
          have hw := hw.2
          refine eff_call ((Load_spec y.P.lim y.P.rows y.P.sup r2 w0 w _ (by omega) b2 b4 b3 (row_in (e := 66) (B := S) hw rfl) hw).mono fun r w' h => ?_)
          have hld : loadF y.P.lim y.P.rows y.P.sup = (0, y.P) := by rw [tm.1.eqlim]; exact load_same tm.1 tm.2
          rw [hld] at h
          simp only [if_true] at h
          obtain ⟨k, hk, h⟩ := h
          exact ⟨k, hk, St.cut (own 66 2 r2 y.P.rows.length (flat y.P.rows)) h (by ac_rfl)⟩
        obtain ⟨_, kq, rfl, _⟩ : ∃ w, ∃ k, r4 = .tuple #[.pointer (some ⟨k, 0, none⟩), .int .i64 0] ∧ St w0 (S * pur k y.P) w := hr4
        simp
        intro w9 s9
        obtain ⟨k2, hk2, s9⟩ : ∃ k : Nat, Value.tuple #[.pointer (some ⟨kq, 0, none⟩), .int .i64 0] = .tuple #[.pointer (some ⟨k, 0, none⟩), .int .i64 0] ∧ St w0 (S * pur k y.P) w9 := s9
        have hkk : kq = k2 := by simpa using hk2
        subst hkk
        simp [hm4i]
        refine eff_ldc (v := mp (some y)) (rl (St.drop s9)) ?_
        simp [mp]
        rw [← hS] at s9
        refine eff_call ((rCopy_spec y.q y.P w0 w9 (A * pt c (.cells x.cs.toArray 53 (0, 0)) * (bigH slF T m 4 * pur y.p y.P) * PO pg pcap (pvs T) * RO rg rcap (rvs T) * pur kq y.P) (by omega) (s9.to (by ac_rfl))).mono ?_)
        rintro r w10 ⟨kr, rfl, s10⟩
        simp [hn4i]
        have t10 := s10.to (B := A * pt c (.cells x.cs.toArray 53 (0, 0)) * (bigH slF T m 4 * (pur y.p y.P * rpur y.q y.P)) * (pur kq y.P * rpur kr y.P) * RO rg rcap (rvs T) * PO pg pcap (pvs T)) (by ac_rfl)
        refine eff_stC t10 (by simp [pvs]; omega) rfl ?_
        intro w11 s11
        simp [hn4i]
        refine eff_stC s11.swap (by simp [rvs]; omega) rfl ?_
        intro w12 s12
        simp
        have e1 : (pvs T).set n (.pointer (some ⟨kq, 0, none⟩)) = _ := pvs_set T hn4 (some ⟨kq, kr, y.lim, y.P⟩)
        have e2 : (rvs T).set n (.pointer (some ⟨kr, 0, none⟩)) = _ := rvs_set T hn4 (some ⟨kq, kr, y.lim, y.P⟩)
        have s12 : St w0 (A * pt c (.cells x.cs.toArray 53 (0, 0)) * (bigH slF T m 4 * (pur y.p y.P * rpur y.q y.P)) * (pur kq y.P * rpur kr y.P) * PO pg pcap ((pvs T).set n (.pointer (some ⟨kq, 0, none⟩))) * RO rg rcap ((rvs T).set n (.pointer (some ⟨kr, 0, none⟩)))) w12 := s12
        rw [e1, e2, ← bm, big_at hn4] at s12
        try simp (disch := omega) only [wrap64]
        refine next (upF T n (some ⟨kq, kr, y.lim, y.P⟩)) _ _ _ (up_ok hT n tm) ?_
        rw [big_set hn4, show slF n (some ⟨kq, kr, y.lim, y.P⟩) = pur kq y.P * rpur kr y.P from rfl]
        exact St.cut (pt c (.cells x.cs.toArray 53 (0, 0)) * slF n (T n)) s12 (by ac_rfl)
    -- a step
    simp
    have sl : slF n (T n) = slotA (T n) := rfl
    obtain ⟨t', ht'⟩ : ∃ t', setS (T n) (doesF (psS (T n)) x).2 = t' := ⟨_, rfl⟩
    have g1 : gp t' = gp (T n) := by rw [← ht', gp_set]
    have g2 : mp t' = mp (T n) := by rw [← ht', mp_set]
    have p1 : pvs (upF T n t') = pvs T := pvs_same fun k => by
      by_cases e : k = n
      · subst e; rw [upF_at, g1]
      · rw [upF_ne _ _ e]
    have p2 : rvs (upF T n t') = rvs T := rvs_same fun k => by
      by_cases e : k = n
      · subst e; rw [upF_at, g2]
      · rw [upF_ne _ _ e]
    have ho' : slotOK t' := by rw [← ht']; exact step_ok (hT n) x hok
    refine brmI (plC (St w0 (A * pt c (.cells x.cs.toArray 53 (0, 0)) * bigA slF T 4 * PO pg pcap (pvs T) * RO rg rcap (rvs T))) (St w0 (A * pt c (.cells x.cs.toArray 53 (0, 0)) * bigA slF (upF T n t') 4 * PO pg pcap (pvs T) * RO rg rcap (rvs T)))) s4.drew ?_
    simp [hn4i]
    refine effm_ldc (v := gp (T n)) (fun vs' w he hw => ?_) ?_
    · match vs', hw with
      | [], hw => exact po_cell (St.drop hw) n _ (pvs_at T hn4)
      | _ :: _, hw => simp [era] at he
    simp [hn4i]
    refine effm_ldc (v := mp (T n)) (fun vs' w he hw => ?_) ?_
    · match vs', hw with
      | [], hw => exact ro_cell (show St w0 _ w from hw) n _ (rvs_at T hn4)
      | _ :: _, hw => simp [era] at he
    simp
    refine effm_ldcs (us := x.cs) (fun vs' w he hw j u hu => ?_) rfl ?_
    · match vs', hw with
      | [], hw => rw [Nat.zero_add]; exact cl hw j u hu
      | _ :: _, hw => simp [era] at he
    simp
    refine effm_mv rfl (fun w hw => ?_) (fun r hr => ?_)
    · have hw : St w0 (A * pt c (.cells x.cs.toArray 53 (0, 0)) * bigA slF T 4 * PO pg pcap (pvs T) * RO rg rcap (rvs T)) w := hw
      rw [big_at hn4, sl] at hw
      refine eff_call ((plays_spec (T n) x w0 w (A * pt c (.cells x.cs.toArray 53 (0, 0)) * bigH slF T n 4 * PO pg pcap (pvs T) * RO rg rcap (rvs T)) (hT n) hok (hw.to (by ac_rfl))).mono fun r w' h => ?_)
      refine And.intro h.1 ?_
      rw [big_set hn4, show slF n t' = slotA t' from rfl, ← ht']
      exact h.2.to (by ac_rfl)
    obtain ⟨_, rfl, _⟩ : ∃ w, r = .bool true ∧ _ := hr
    simp
    intro w9 s9
    have s9 : St w0 (A * pt c (.cells x.cs.toArray 53 (0, 0)) * bigA slF (upF T n t') 4 * PO pg pcap (pvs T) * RO rg rcap (rvs T)) w9 := And.right (a := Value.bool true = .bool true) s9
    try simp (disch := omega) only [wrap64]
    refine next (upF T n t') _ _ _ (up_ok hT n ho') ?_
    rw [p1, p2]
    exact St.cut (pt c (.cells x.cs.toArray 53 (0, 0))) s9 (by ac_rfl)
  simp at h
  simp
  refine hE _ _ _ ?_
  have s1 := s.to (B := A * PO pg pcap (pvs T) * RO rg rcap (rvs T) * bigA slF T 4) (by ac_rfl)
  have key := plays_end lim sup v1 (.slice sa ops.length scap) v5 v6 v7 v8 v9 v10 v11 v12 v13 v14 v15 v16 v17 (.int .i64 i) o21 o22 o23 o24 o25 undef o27 (.slice (some ⟨pg, 0, none⟩) 4 pcap) (.slice (some ⟨rg, 0, none⟩) 4 rcap) T w0 w' A hT s1
  simpa using key
end Go.HL.Pu

namespace Go.HL.Pu
open Go.HL Go.HL.Nm Go.Proofs
set_option maxRecDepth 4000
set_option linter.unusedSimpArgs false
set_option linter.unusedVariables false
theorem loadL_NI : ∀ (l : List Ac) (P : Ps), (loadL P l).1 = 0 → (∀ n ∈ nms P.rows, (checkF n).2 = 0) → ((nms P.rows).map keyF).Nodup →
    (∀ n ∈ nms (P.rows ++ l), (checkF n).2 = 0) ∧ ((nms (P.rows ++ l)).map keyF).Nodup
  | [], P, _, h1, h2 => by rw [List.append_nil]; exact ⟨h1, h2⟩
  | a :: l, P, h, h1, h2 => by
    simp only [loadL] at h
    by_cases hs : stepE P a = 0
    · rw [if_pos hs] at h
      have ho : (openF P a.name).2.1 = 0 := by
        unfold stepE at hs
        split at hs
        · assumption
        · rename_i hne; exact absurd hs hne
      obtain ⟨_, hask, _, hck⟩ := open_ok ho
      have e : P.rows ++ a :: l = (P.rows ++ [a]) ++ l := by simp
      rw [e]
      refine loadL_NI l (stepP P a) h ?_ ?_
      · intro n hn
        have hn : n ∈ nms P.rows ++ [a.name] := by simpa [stepP, nms] using hn
        rcases List.mem_append.1 hn with hn | hn
        · exact h1 n hn
        · have : n = a.name := by simpa using hn
          rw [this]; exact hck
      · have e2 : (nms (stepP P a).rows).map keyF = (nms P.rows).map keyF ++ [keyF a.name] := by simp [stepP, nms]
        rw [e2, List.nodup_append]
        refine ⟨h2, by simp, fun x hx y hy => ?_⟩
        have : y = keyF a.name := by simpa using hy
        subst this
        rintro rfl
        rw [← keys_nms] at hx
        have := (askB_iff _ _).2 hx
        rw [hask] at this
        cases this
    · rw [if_neg hs] at h
      exact absurd h hs
theorem load_NI {lim : Int} {rows : List Ac} {sup : Int} (h : (loadF lim rows sup).1 = 0) : NI (nms rows) := by
  unfold loadF at h
  split at h
  · split at h
    · cases h
    · split at h
      · cases h
      · split at h
        · rename_i hb
          obtain ⟨h1, h2⟩ := loadL_NI rows _ h (by simp [nms]) (by simp [nms])
          rw [List.nil_append] at h1 h2
          refine ⟨h1, h2, ?_⟩
          cases rows with
          | nil => revert hb; decide
          | cons a l =>
            have : a.name = bankB := by simpa using hb
            simp [nms, this]
        · cases h
  · cases h
def gpN (o : Option Ps) (k : Nat) : Value := .pointer (o.map fun _ => (⟨k, 0, none⟩ : Addr))
def gN (o : Option Ps) (k : Nat) : Asn := match o with
  | none => emp
  | some P => pur k P
def rN (o : Option Ps) (k : Nat) : Asn := match o with
  | none => emp
  | some P => rpur k P
def mkS (o : Option Ps) (lim : Int) (p q : Nat) : Slot := o.map fun P => ⟨p, q, lim, P⟩
theorem gp_mk (o : Option Ps) (lim : Int) (p q : Nat) : gp (mkS o lim p q) = gpN o p := by cases o <;> rfl
theorem mp_mk (o : Option Ps) (lim : Int) (p q : Nat) : mp (mkS o lim p q) = gpN o q := by cases o <;> rfl
theorem slot_mk (o : Option Ps) (lim : Int) (p q : Nat) : slotA (mkS o lim p q) = gN o p * rN o q := by cases o <;> rfl
def newO (lim : Int) : Option Ps := if 1 ≤ lim ∧ lim ≤ 64 then some ⟨lim, [⟨bankB, 0⟩], 0, 0⟩ else none
def newE (lim : Int) : Int := if 1 ≤ lim ∧ lim ≤ 64 then 0 else 2
def loO (lim : Int) (rows : List Ac) (sup : Int) : Option Ps := if (loadF lim rows sup).1 = 0 then some (loadF lim rows sup).2 else none
theorem nNew (lim : Int) (w0 w : World) (A : Asn) (s : St w0 A w) : CallW Try.prog 9 [.int .i64 lim] (fun r w' => ∃ k, r = .tuple #[gpN (newO lim) k, .int .i64 (newE lim)] ∧ St w0 (A * gN (newO lim) k) w') w := by
  refine (New_spec lim w0 w A s).mono fun r w' h => ?_
  by_cases hl : 1 ≤ lim ∧ lim ≤ 64
  · rw [if_pos hl] at h
    simp only [newO, newE, if_pos hl]
    exact h
  · rw [if_neg hl] at h
    simp only [newO, newE, if_neg hl]
    exact ⟨0, h.1, by rw [show gN none 0 = emp from rfl, sep_emp]; exact h.2⟩
theorem nrNew (lim : Int) (w0 w : World) (A : Asn) (s : St w0 A w) : CallW Try.prog 21 [.int .i64 lim] (fun r w' => ∃ k, r = .tuple #[gpN (newO lim) k, .int .i64 (newE lim)] ∧ St w0 (A * rN (newO lim) k) w') w := by
  refine (rNew_spec lim w0 w A s).mono fun r w' h => ?_
  by_cases hl : 1 ≤ lim ∧ lim ≤ 64
  · rw [if_pos hl] at h
    simp only [newO, newE, if_pos hl]
    exact h
  · rw [if_neg hl] at h
    simp only [newO, newE, if_neg hl]
    exact ⟨0, h.1, by rw [show rN none 0 = emp from rfl, sep_emp]; exact h.2⟩
theorem nLoad (lim : Int) (rows : List Ac) (sup : Int) (v : Value) (w0 w : World) (A : Asn) (hl : rows.length ≤ 1048576) (hsup : 0 ≤ sup ∧ sup < 18446744073709551616) (hn : ∀ x ∈ rows, x.name.length ≤ 1048576) (hc : ∀ x ∈ rows, 0 ≤ x.coins ∧ x.coins < 18446744073709551616)
    (hrow : Row w0 A v rows.length 2 (flat rows)) (s : St w0 A w) : CallW Try.prog 20 [.int .i64 lim, v, .int .u64 sup] (fun r w' => ∃ k, r = .tuple #[gpN (loO lim rows sup) k, .int .i64 (loadF lim rows sup).1] ∧ St w0 (A * gN (loO lim rows sup) k) w') w := by
  refine (Load_spec lim rows sup v w0 w A hl hsup hn hc hrow s).mono fun r w' h => ?_
  by_cases h0 : (loadF lim rows sup).1 = 0
  · rw [if_pos h0] at h
    simp only [loO, if_pos h0, h0]
    exact h
  · rw [if_neg h0] at h
    simp only [loO, if_neg h0]
    exact ⟨0, h.1, by rw [show gN none 0 = emp from rfl, sep_emp]; exact h.2⟩
theorem nrLoad (lim : Int) (rows : List Ac) (sup : Int) (v : Value) (w0 w : World) (A : Asn) (hl : rows.length ≤ 1048576) (hsup : 0 ≤ sup ∧ sup < 18446744073709551616) (hn : ∀ x ∈ rows, x.name.length ≤ 1048576) (hc : ∀ x ∈ rows, 0 ≤ x.coins ∧ x.coins < 18446744073709551616)
    (hrow : Row w0 A v rows.length 2 (flat rows)) (s : St w0 A w) : CallW Try.prog 22 [.int .i64 lim, v, .int .u64 sup] (fun r w' => ∃ k, r = .tuple #[gpN (loO lim rows sup) k, .int .i64 (loadF lim rows sup).1] ∧ St w0 (A * rN (loO lim rows sup) k) w') w := by
  refine (rLoad_spec lim rows sup v w0 w A hl hsup hn hc hrow s).mono fun r w' h => ?_
  by_cases h0 : (loadF lim rows sup).1 = 0
  · rw [if_pos h0] at h
    simp only [loO, if_pos h0, h0]
    exact h
  · rw [if_neg h0] at h
    simp only [loO, if_neg h0]
    exact ⟨0, h.1, by rw [show rN none 0 = emp from rfl, sep_emp]; exact h.2⟩
def T3 (a b c : Slot) : Desk
  | 0 => a
  | 1 => b
  | 2 => c
  | _ => none
theorem big4 {α : Type} (F : Nat → α → Asn) (Y : Nat → α) : bigA F Y 4 = F 0 (Y 0) * F 1 (Y 1) * F 2 (Y 2) * F 3 (Y 3) := by
  show emp * F 0 (Y 0) * F 1 (Y 1) * F 2 (Y 2) * F 3 (Y 3) = _
  rw [emp_sep]
theorem plays_walk (lim : Int) (rows : List Ac) (sup : Int) (ops : List Sp) (v1 v3 : Value) (w0 w : World) (A : Asn) (hlim : -9223372036854775808 ≤ lim ∧ lim ≤ 9223372036854775807) (hsup : 0 ≤ sup ∧ sup ≤ 18446744073709551615) (hl1 : rows.length ≤ 1048576) (hl2 : ops.length ≤ 1048576)
    (hr1 : Row w0 A v1 rows.length 2 (flat rows)) (hr2 : Row w0 A v3 ops.length 6 (sps ops)) (hx1 : ∀ x ∈ rows, x.name.length ≤ 1048576 ∧ 0 ≤ x.coins ∧ x.coins ≤ 18446744073709551615) (hx2 : ∀ x ∈ ops, x.name.length ≤ 1048576 ∧ 0 ≤ x.coins ∧ x.coins ≤ 18446744073709551615) (s : St w0 A w) :
    CallW Try.prog 4 [.int .i64 lim, v1, .int .u64 sup, v3] (fun r w' => r = .bool true ∧ St w0 A w') w := by
  have hn1 : ∀ x ∈ rows, x.name.length ≤ 1048576 := fun x hx => (hx1 x hx).1
  have hc1 : ∀ x ∈ rows, 0 ≤ x.coins ∧ x.coins < 18446744073709551616 := fun x hx => by have := hx1 x hx; omega
  refine callW_of_lift l4_ok (by simp [l4]) ?_
  simp [l4]
  refine eff_call ((lent_spec rows v1 w0 w A hl1 hr1 s).mono ?_)
  intro iv w1 s1
  simp
  refine eff_call ((nNew lim w0 w1 _ s1).mono ?_)
  rintro r w2 ⟨ka, rfl, s2⟩
  simp
  have t2 := s2.to (B := A * gN (newO lim) ka * lentA iv rows) (by ac_rfl)
  refine eff_call ((nLoad lim rows sup iv w0 w2 _ hl1 (by omega) hn1 hc1 (lent_row t2) t2).mono ?_)
  rintro r w3 ⟨kb, rfl, s3⟩
  simp
  refine eff_call ((nNew lim w0 w3 _ s3).mono ?_)
  rintro r w4 ⟨kc, rfl, s4⟩
  simp
  refine eff_call ((nrNew lim w0 w4 _ s4).mono ?_)
  rintro r w5 ⟨qa, rfl, s5⟩
  simp
  refine eff_call ((nrLoad lim rows sup v1 w0 w5 _ hl1 (by omega) hn1 hc1 (hr1.mono fun w s => s.drop.drop.drop.drop.drop) s5).mono ?_)
  rintro r w6 ⟨qb, rfl, s6⟩
  simp
  refine eff_call ((nrNew lim w0 w6 _ s6).mono ?_)
  rintro r w7 ⟨qc, rfl, s7⟩
  simp
  clear s s1 s2 t2 s3 s4 s5 s6
  simp [gpN, nilPair]
  have t7 := s7.to (B := A * gN (newO lim) ka * gN (loO lim rows sup) kb * gN (newO lim) kc * rN (newO lim) qa * rN (loO lim rows sup) qb * rN (newO lim) qc * lentA iv rows) (by ac_rfl)
  refine eff_call ((kept_spec rows iv v1 w0 w7 (A * gN (newO lim) ka * gN (loO lim rows sup) kb * gN (newO lim) kc * rN (newO lim) qa * rN (loO lim rows sup) qb * rN (newO lim) qc) hl1 (hr1.mono fun w s => s.drop.drop.drop.drop.drop.drop) t7).mono ?_)
  rintro r w8 ⟨rfl, s8⟩
  simp
  refine eff_call ((spoil_spec rows iv w0 w8 _ hl1 (lent_own s8)).mono ?_)
  intro r w9 s9
  simp
  refine eff_bslO s9 (by simp [Value.oneCell']) rfl rfl (by decide) ?_
  intro pv w10 s10
  simp
  refine eff_bslO s10 (by simp [Value.oneCell']) rfl rfl (by decide) ?_
  intro rv w11 s11
  simp
  obtain ⟨T, hTe⟩ : ∃ T, T3 (mkS (newO lim) lim ka qa) (mkS (loO lim rows sup) lim kb qb) (mkS (newO lim) lim kc qc) = T := ⟨_, rfl⟩
  have hN : ∀ p q, slotOK (mkS (newO lim) lim p q) := fun p q => by
    unfold newO
    split
    · rename_i h; exact ⟨new_PI h, new_NI⟩
    · trivial
  have hL : ∀ p q, slotOK (mkS (loO lim rows sup) lim p q) := fun p q => by
    unfold loO
    split
    · rename_i h
      obtain ⟨h1, h2⟩ := load_PI h hsup.1 (fun x hx => (hc1 x hx).1) (fun i hi => hn1 _ (List.getElem_mem hi))
      refine ⟨h2, ?_⟩
      show NI (nms (loadF lim rows sup).2.rows)
      rw [h1]
      exact load_NI h
    · trivial
  have hT : ∀ k, slotOK (T k) := fun k => by
    rw [← hTe]
    match k with
    | 0 => exact hN _ _
    | 1 => exact hL _ _
    | 2 => exact hN _ _
    | _ + 3 => trivial
  have e1 : [Value.pointer ((newO lim).map fun _ => (⟨ka, 0, none⟩ : Addr)), .pointer ((loO lim rows sup).map fun _ => (⟨kb, 0, none⟩ : Addr)), .pointer ((newO lim).map fun _ => (⟨kc, 0, none⟩ : Addr)), .pointer none] = pvs T := by
    rw [← hTe]
    simp only [pvs, List.range, List.range.loop, List.map_cons, List.map_nil, T3, gp_mk, gpN]
    rfl
  have e2 : [Value.pointer ((newO lim).map fun _ => (⟨qa, 0, none⟩ : Addr)), .pointer ((loO lim rows sup).map fun _ => (⟨qb, 0, none⟩ : Addr)), .pointer ((newO lim).map fun _ => (⟨qc, 0, none⟩ : Addr)), .pointer none] = rvs T := by
    rw [← hTe]
    simp only [rvs, List.range, List.range.loop, List.map_cons, List.map_nil, T3, mp_mk, gpN]
    rfl
  rw [e1, e2] at s11
  have s12 : St w0 (A * own 24 1 pv 4 (pvs T) * own 44 1 rv 4 (rvs T) * bigA slF T 4) w11 := by
    have e3 : bigA slF T 4 = gN (newO lim) ka * rN (newO lim) qa * (gN (loO lim rows sup) kb * rN (loO lim rows sup) qb) * (gN (newO lim) kc * rN (newO lim) qc) := by
      rw [big4, ← hTe]
      show slotA (mkS (newO lim) lim ka qa) * slotA (mkS (loO lim rows sup) lim kb qb) * slotA (mkS (newO lim) lim kc qc) * slotA none = _
      rw [slot_mk, slot_mk, slot_mk, show slotA none = emp * emp from rfl, sep_emp, sep_emp]
    rw [e3]
    exact s11.to (by ac_rfl)
  have key := plays_loop lim sup ops v1 v3 iv (.pointer ((newO lim).map fun _ => (⟨ka, 0, none⟩ : Addr))) (.int .i64 (newE lim)) (.pointer ((loO lim rows sup).map fun _ => (⟨kb, 0, none⟩ : Addr))) (.int .i64 (loadF lim rows sup).1) (.pointer ((newO lim).map fun _ => (⟨kc, 0, none⟩ : Addr))) (.int .i64 (newE lim)) (.pointer ((newO lim).map fun _ => (⟨qa, 0, none⟩ : Addr))) (.int .i64 (newE lim)) (.pointer ((loO lim rows sup).map fun _ => (⟨qb, 0, none⟩ : Addr))) (.int .i64 (loadF lim rows sup).1) (.pointer ((newO lim).map fun _ => (⟨qc, 0, none⟩ : Addr))) (.int .i64 (newE lim)) pv rv T w0 w11 A hl2 hr2 hx2 hT s12
  simpa using key
end Go.HL.Pu

namespace Go.Proofs.Ytliofpihaemglaa.pursePlays
open Go.ChangeShapes Go.WideShapes Go.ChangeAt Go.RowKit Go.WideMaps Go.WideElems
open Go.ChangeMaps (open_string shut_string)
set_option linter.unusedVariables false

theorem own : ownKnob Try.prog.godebug = none := by kernel_rfl

theorem keeps : Go.HL.keepB Try.prog [3, 40, 39, 66, 9, 41, 53] = true := by kernel_rfl

set_option maxRecDepth 10000 in
theorem contract (H : Type) (enc : TypeId × Value → H) (W : World) (base : Nat) (args : Array Value) (ds gs : List (DataW H)) (before : List MemPlace)
    (hval : ∀ (j : Nat) t v, Try.f4.params[j]? = some t → args[j]? = some v → Value.okWide Try.prog W .any base t v)
    (hW : DataW.Whole enc Try.prog Try.f4.params.toList Rows.pursePlaysSpec.vars false W args.toList ds gs before) (hk : Rows.uptoSmall H (ds ++ gs) = true) :
    Calls Try.prog 4 args W fun e W' => ∃ v, e = .returned v ∧ Rows.pursePlaysSpec.post enc Try.prog Try.f4 false true false false W args v W' := by
  have hW' := hW
  have hlt := hW.lt
  obtain ⟨p, q, hA0, hV, rfl, hfz, hnd⟩ := hW
  have hA : DataW.TrodAll enc Try.prog W 0 (fun _ => true) true Try.f4.params.toList args.toList ds p := hA0
  have hA1 := hA
  rw [Try.params4] at hA hval
  obtain ⟨v0, vs0, d0, ds0, p0, q0, hargs, rfl, rfl, h0, r0⟩ := trodAll_cons hA
  obtain ⟨v1, vs1, d1, ds1, p1, q1, rfl, rfl, rfl, h1, r1⟩ := trodAll_cons r0
  obtain ⟨v2, vs2, d2, ds2, p2, q2, rfl, rfl, rfl, h2, r2⟩ := trodAll_cons r1
  obtain ⟨v3, vs3, d3, ds3, p3, q3, rfl, rfl, rfl, h3, r3⟩ := trodAll_cons r2
  obtain ⟨rfl, rfl, rfl⟩ := trodAll_nil r3
  obtain rfl : args = #[v0, v1, v2, v3] := by cases args; simp_all
  obtain ⟨rfl, rfl⟩ := trodVars_none hV
  obtain ⟨a0, rfl, rfl, rfl, w0⟩ := open_int Try.underlying3 (hval 0 3 v0 rfl rfl) h0
  obtain ⟨a1, row1, bl1, ex1⟩ := Go.HL.Pu.open_accs h1 (hval 1 39 v1 rfl rfl)
  obtain ⟨a2, rfl, rfl, rfl, w2⟩ := open_int Try.underlying40 (hval 2 40 v2 rfl rfl) h2
  obtain ⟨a3, row3, bl3, ex3⟩ := Go.HL.Pu.open_script h3 (hval 3 41 v3 rfl rfl)
  simp only [List.append_nil, List.nil_append] at hW' hlt hA1
  have hb := Go.HL.bulk_bound hk
  simp only [List.append_nil, Rows.uptoBulkAll, Go.HL.bulk_string, Go.HL.bulk_int] at hb
  have b0 : -9223372036854775808 ≤ a0 ∧ a0 ≤ 9223372036854775807 := by simpa [Lit.wf, IntKind.min, IntKind.max, IntKind.signed, IntKind.bits] using w0
  have b2 : 0 ≤ a2 ∧ a2 ≤ 18446744073709551615 := by simpa [Lit.wf, IntKind.min, IntKind.max, IntKind.signed, IntKind.bits] using w2
  have hwalk := Go.HL.Pu.plays_walk a0 a1 a2 a3 v1 v3 W W (Go.HL.old W) b0 b2 (by omega) (by omega) row1 row3 (fun x hx => ⟨by have := (ex1 x hx).1; omega, (ex1 x hx).2⟩) (fun x hx => ⟨by have := (ex3 x hx).1; omega, (ex3 x hx).2⟩) (Go.HL.St.start W)
  refine Calls.mono hwalk fun e W' ⟨v, he, hv, hst⟩ => ?_
  subst hv
  have hg := hst.grown
  refine ⟨_, he, post_of_same (pv := []) hW' (fun _ _ _ => (trodAll_cons_mk (shut_bool Try.underlying4 _) trodAll_mk0))
    (fun sp hsp => Go.HL.trodAll_keep keeps (by decide) hA1 (fun x hx => hst.same (hlt x hx)) hsp) (fun _ _ => rfl) (by simp)
    (hg.frame _) hg.2.1 (ok_one (by kernel_rfl) rfl (okWide_bool_mk Try.underlying4 _))⟩

set_option maxRecDepth 100000 in
theorem lifted (os : Os) (started : os.Started) (H : Type) (enc : TypeId × Value → H) (F : Stop.Interp) :
    ReturnsInHanded {} Try.checked os 4 .any ((Rows.OpenSpec.upto Rows.pursePlaysSpec).pre6 enc Try.prog Try.f4 Rows.pursePlaysUptoRow.domain false) (((Rows.OpenSpec.upto Rows.pursePlaysSpec).at F).post enc Try.prog Try.f4 false true false false) := by
  refine returnsInHanded_of_cond (C := Try.checked) (s := Rows.OpenSpec.upto Rows.pursePlaysSpec) (k := Rows.uptoSmall) rfl own started (by kernel_rfl) Try.func4
    (OpenSpec.witness (enc := enc) (C := Try.checked) (s := Rows.OpenSpec.upto Rows.pursePlaysSpec) (k := Rows.uptoSmall) rfl false ⟨#[], #[.int .i64 0, .slice none 0 0, .int .u64 0, .slice none 0 0], []⟩ 8 (by kernel_rfl) (by kernel_rfl) (by kernel_rfl)
      (x := ([.lit (.int .i64 0), .nil, .lit (.int .u64 0), .nil], [], [])) (by kernel_rfl) rfl (by kernel_rfl)) ?_
  intro W base args ds gs before hval hW _ hk _
  exact contract H enc W base args ds gs before hval hW hk

theorem over : Rows.pursePlaysUptoRow.holds Try.pinned (Rows.OpenSpec.upto Rows.pursePlaysSpec) :=
  OpenClaim.holds_of_cond 4 Try.f4 rfl rfl rfl rfl rfl rfl rfl ⟨rfl, rfl, rfl, rfl, rfl⟩ rfl rfl rfl rfl rfl (by kernel_rfl) Try.func4 (by kernel_rfl)
    (of_decide_eq_true (by kernel_rfl)) (by unfold Func.isWrapper; first | (rw [if_pos (by decide +kernel)]; kernel_rfl) | (rw [if_neg (by decide +kernel)]; exact ⟨rfl, rfl⟩))
    (fun os started H enc _ F => lifted os started H enc F)

theorem proved : Rows.PursePlaysUptoSaid :=
  over
end Go.Proofs.Ytliofpihaemglaa.pursePlays
