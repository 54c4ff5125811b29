/-
  Purse: the law PurseKnown: the walk. No condition.
-/
import Derived.Test.YtliofpihaemglaaPuT
import Derived.Test.YtliofpihaemglaaFin
import Derived.Test.YtliofpihaemglaaKeep
namespace Go.HL.Pu
open Go.HL Go.HL.Nm Go.Proofs
set_option maxRecDepth 4000
set_option linter.unusedSimpArgs false
set_option linter.unusedVariables false
-- bazaar/bazaarlaw14.PurseKnown
def h5_0 : HC := (.seq (.reg (.eff (.call 39) .nil (.done [(0, (.bv 0))] none))) .ret)
@[simp] theorem h5_0_wp {P : Program} {F : PF P} {Q : EX → List Value → World → Prop} {env : List Value} {w : World} : h5_0.wp F Q env w = HC.wp F (.seq (.reg (.eff (.call 39) .nil (.done [(0, (.bv 0))] none))) .ret) Q env w := rfl
def h5_1 : HC := (.seq (.reg (.done [(0, (.cst (.bool false)))] none)) .ret)
@[simp] theorem h5_1_wp {P : Program} {F : PF P} {Q : EX → List Value → World → Prop} {env : List Value} {w : World} : h5_1.wp F Q env w = HC.wp F (.seq (.reg (.done [(0, (.cst (.bool false)))] none)) .ret) Q env w := rfl
def h5_2 : HC := (.seq (.br (.eff (.bsl 3 6 1 #[(.int .i64 0)] [0, 1, 2, 3, 4, 5]) (.cons (.cst (.int .i64 142)) (.cons (.cst (.int .i64 144)) (.cons (.cst (.int .i64 142)) (.cons (.cst (.int .i64 140)) (.cons (.cst (.int .i64 141)) (.cons (.cst (.int .i64 144)) .nil)))))) (.eff (.call 38) (.cons (.inp 14) (.cons (.bv 0) .nil)) (.chk none (.un .not) (.cons (.bv 1) .nil) (.bnd (.op (.un .not) (.cons (.bv 1) .nil)) (.chk (some ((.bv 2), false)) (.eqNil true (.pointer 81) (.pointer none)) (.cons (.inp 18) .nil) (.isb none (.bv 2) (.bnd (.ite (.bv 2) true (.cst (.bool true)) (.op (.eqNil true (.pointer 81) (.pointer none)) (.cons (.inp 18) .nil))) (.chk (some ((.bv 3), false)) (.eqNil true (.pointer 81) (.pointer none)) (.cons (.inp 20) .nil) (.isb none (.bv 3) (.bnd (.ite (.bv 3) true (.cst (.bool true)) (.op (.eqNil true (.pointer 81) (.pointer none)) (.cons (.inp 20) .nil))) (.chk (some ((.bv 4), false)) (.cal 10) (.cons (.inp 19) .nil) (.chk (some ((.bv 4), false)) (.bin .neq) (.cons (.op (.cal 10) (.cons (.inp 19) .nil)) (.cons (.cst (.int .i64 2)) .nil)) (.isb none (.bv 4) (.bnd (.ite (.bv 4) true (.cst (.bool true)) (.op (.bin .neq) (.cons (.op (.cal 10) (.cons (.inp 19) .nil)) (.cons (.cst (.int .i64 2)) .nil)))) (.chk (some ((.bv 5), false)) (.cal 10) (.cons (.inp 21) .nil) (.chk (some ((.bv 5), false)) (.bin .neq) (.cons (.op (.cal 10) (.cons (.inp 21) .nil)) (.cons (.cst (.int .i64 2)) .nil)) (.isb none (.bv 5) (.done [] (some (.ite (.bv 5) true (.cst (.bool true)) (.op (.bin .neq) (.cons (.op (.cal 10) (.cons (.inp 21) .nil)) (.cons (.cst (.int .i64 2)) .nil))))))))))))))))))))))) h5_1 .skip) h5_0)
@[simp] theorem h5_2_wp {P : Program} {F : PF P} {Q : EX → List Value → World → Prop} {env : List Value} {w : World} : h5_2.wp F Q env w = HC.wp F (.seq (.br (.eff (.bsl 3 6 1 #[(.int .i64 0)] [0, 1, 2, 3, 4, 5]) (.cons (.cst (.int .i64 142)) (.cons (.cst (.int .i64 144)) (.cons (.cst (.int .i64 142)) (.cons (.cst (.int .i64 140)) (.cons (.cst (.int .i64 141)) (.cons (.cst (.int .i64 144)) .nil)))))) (.eff (.call 38) (.cons (.inp 14) (.cons (.bv 0) .nil)) (.chk none (.un .not) (.cons (.bv 1) .nil) (.bnd (.op (.un .not) (.cons (.bv 1) .nil)) (.chk (some ((.bv 2), false)) (.eqNil true (.pointer 81) (.pointer none)) (.cons (.inp 18) .nil) (.isb none (.bv 2) (.bnd (.ite (.bv 2) true (.cst (.bool true)) (.op (.eqNil true (.pointer 81) (.pointer none)) (.cons (.inp 18) .nil))) (.chk (some ((.bv 3), false)) (.eqNil true (.pointer 81) (.pointer none)) (.cons (.inp 20) .nil) (.isb none (.bv 3) (.bnd (.ite (.bv 3) true (.cst (.bool true)) (.op (.eqNil true (.pointer 81) (.pointer none)) (.cons (.inp 20) .nil))) (.chk (some ((.bv 4), false)) (.cal 10) (.cons (.inp 19) .nil) (.chk (some ((.bv 4), false)) (.bin .neq) (.cons (.op (.cal 10) (.cons (.inp 19) .nil)) (.cons (.cst (.int .i64 2)) .nil)) (.isb none (.bv 4) (.bnd (.ite (.bv 4) true (.cst (.bool true)) (.op (.bin .neq) (.cons (.op (.cal 10) (.cons (.inp 19) .nil)) (.cons (.cst (.int .i64 2)) .nil)))) (.chk (some ((.bv 5), false)) (.cal 10) (.cons (.inp 21) .nil) (.chk (some ((.bv 5), false)) (.bin .neq) (.cons (.op (.cal 10) (.cons (.inp 21) .nil)) (.cons (.cst (.int .i64 2)) .nil)) (.isb none (.bv 5) (.done [] (some (.ite (.bv 5) true (.cst (.bool true)) (.op (.bin .neq) (.cons (.op (.cal 10) (.cons (.inp 21) .nil)) (.cons (.cst (.int .i64 2)) .nil))))))))))))))))))))))) h5_1 .skip) h5_0) Q env w := rfl
def h5_3 : HC := (.seq (.reg (.eff (.call 9) (.cons (.cst (.int .i64 65)) .nil) (.chk none (.ext 0) (.cons (.bv 0) .nil) (.chk none (.ext 1) (.cons (.bv 0) .nil) (.done [(20, (.op (.ext 0) (.cons (.bv 0) .nil))), (21, (.op (.ext 1) (.cons (.bv 0) .nil)))] none))))) h5_2)
@[simp] theorem h5_3_wp {P : Program} {F : PF P} {Q : EX → List Value → World → Prop} {env : List Value} {w : World} : h5_3.wp F Q env w = HC.wp F (.seq (.reg (.eff (.call 9) (.cons (.cst (.int .i64 65)) .nil) (.chk none (.ext 0) (.cons (.bv 0) .nil) (.chk none (.ext 1) (.cons (.bv 0) .nil) (.done [(20, (.op (.ext 0) (.cons (.bv 0) .nil))), (21, (.op (.ext 1) (.cons (.bv 0) .nil)))] none))))) h5_2) Q env w := rfl
def h5_4 : HC := (.seq (.reg (.eff (.call 9) (.cons (.cst (.int .i64 0)) .nil) (.chk none (.ext 0) (.cons (.bv 0) .nil) (.chk none (.ext 1) (.cons (.bv 0) .nil) (.done [(18, (.op (.ext 0) (.cons (.bv 0) .nil))), (19, (.op (.ext 1) (.cons (.bv 0) .nil)))] none))))) h5_3)
@[simp] theorem h5_4_wp {P : Program} {F : PF P} {Q : EX → List Value → World → Prop} {env : List Value} {w : World} : h5_4.wp F Q env w = HC.wp F (.seq (.reg (.eff (.call 9) (.cons (.cst (.int .i64 0)) .nil) (.chk none (.ext 0) (.cons (.bv 0) .nil) (.chk none (.ext 1) (.cons (.bv 0) .nil) (.done [(18, (.op (.ext 0) (.cons (.bv 0) .nil))), (19, (.op (.ext 1) (.cons (.bv 0) .nil)))] none))))) h5_3) Q env w := rfl
def h5_5 : HC := (.reg (.chk none (.bin .add) (.cons (.inp 15) (.cons (.cst (.int .i64 1)) .nil)) (.done [(15, (.op (.bin .add) (.cons (.inp 15) (.cons (.cst (.int .i64 1)) .nil))))] none)))
@[simp] theorem h5_5_wp {P : Program} {F : PF P} {Q : EX → List Value → World → Prop} {env : List Value} {w : World} : h5_5.wp F Q env w = HC.wp F (.reg (.chk none (.bin .add) (.cons (.inp 15) (.cons (.cst (.int .i64 1)) .nil)) (.done [(15, (.op (.bin .add) (.cons (.inp 15) (.cons (.cst (.int .i64 1)) .nil))))] none))) Q env w := rfl
def h5_6 : HC := (.reg (.chk none (.cal 10) (.cons (.inp 17) .nil) (.eff (.bsl 3 1 1 #[(.int .i64 0)] [0]) (.cons (.op (.cal 10) (.cons (.inp 17) .nil)) .nil) (.eff (.app 35 35 3 1 8 (.int .i64 0)) (.cons (.inp 14) (.cons (.bv 0) .nil)) (.done [(14, (.bv 1))] none)))))
@[simp] theorem h5_6_wp {P : Program} {F : PF P} {Q : EX → List Value → World → Prop} {env : List Value} {w : World} : h5_6.wp F Q env w = HC.wp F (.reg (.chk none (.cal 10) (.cons (.inp 17) .nil) (.eff (.bsl 3 1 1 #[(.int .i64 0)] [0]) (.cons (.op (.cal 10) (.cons (.inp 17) .nil)) .nil) (.eff (.app 35 35 3 1 8 (.int .i64 0)) (.cons (.inp 14) (.cons (.bv 0) .nil)) (.done [(14, (.bv 1))] none))))) Q env w := rfl
def h5_7 : HC := (.seq (.reg (.done [(0, (.cst (.bool false)))] none)) .ret)
@[simp] theorem h5_7_wp {P : Program} {F : PF P} {Q : EX → List Value → World → Prop} {env : List Value} {w : World} : h5_7.wp F Q env w = HC.wp F (.seq (.reg (.done [(0, (.cst (.bool false)))] none)) .ret) Q env w := rfl
def h5_8 : HC := (.seq (.br (.chk none (.eqNil true (.pointer 81) (.pointer none)) (.cons (.inp 16) .nil) (.done [] (some (.op (.eqNil true (.pointer 81) (.pointer none)) (.cons (.inp 16) .nil))))) h5_7 .skip) h5_6)
@[simp] theorem h5_8_wp {P : Program} {F : PF P} {Q : EX → List Value → World → Prop} {env : List Value} {w : World} : h5_8.wp F Q env w = HC.wp F (.seq (.br (.chk none (.eqNil true (.pointer 81) (.pointer none)) (.cons (.inp 16) .nil) (.done [] (some (.op (.eqNil true (.pointer 81) (.pointer none)) (.cons (.inp 16) .nil))))) h5_7 .skip) h5_6) Q env w := rfl
def h5_9 : HC := (.reg (.eff (.call 20) (.cons (.cst (.int .i64 2)) (.cons (.cst (.slice none 0 0)) (.cons (.cst (.int .u64 0)) .nil))) (.chk none (.ext 0) (.cons (.bv 0) .nil) (.chk none (.ext 1) (.cons (.bv 0) .nil) (.done [(16, (.op (.ext 0) (.cons (.bv 0) .nil))), (17, (.op (.ext 1) (.cons (.bv 0) .nil)))] none)))))
@[simp] theorem h5_9_wp {P : Program} {F : PF P} {Q : EX → List Value → World → Prop} {env : List Value} {w : World} : h5_9.wp F Q env w = HC.wp F (.reg (.eff (.call 20) (.cons (.cst (.int .i64 2)) (.cons (.cst (.slice none 0 0)) (.cons (.cst (.int .u64 0)) .nil))) (.chk none (.ext 0) (.cons (.bv 0) .nil) (.chk none (.ext 1) (.cons (.bv 0) .nil) (.done [(16, (.op (.ext 0) (.cons (.bv 0) .nil))), (17, (.op (.ext 1) (.cons (.bv 0) .nil)))] none))))) Q env w := rfl
def h5_10 : HC := (.reg (.chk none (.build #[(.string ⟨#[]⟩), (.int .u64 0)] [(0, 1), (1, 1)] [0, 1]) (.cons (.cst (.string ⟨#[98, 97, 110, 107]⟩)) (.cons (.cst (.int .u64 5)) .nil)) (.eff (.bsl 66 1 2 #[(.string ⟨#[]⟩), (.int .u64 0)] [0]) (.cons (.op (.build #[(.string ⟨#[]⟩), (.int .u64 0)] [(0, 1), (1, 1)] [0, 1]) (.cons (.cst (.string ⟨#[98, 97, 110, 107]⟩)) (.cons (.cst (.int .u64 5)) .nil))) .nil) (.eff (.call 20) (.cons (.cst (.int .i64 2)) (.cons (.bv 0) (.cons (.cst (.int .u64 4)) .nil))) (.chk none (.ext 0) (.cons (.bv 1) .nil) (.chk none (.ext 1) (.cons (.bv 1) .nil) (.done [(16, (.op (.ext 0) (.cons (.bv 1) .nil))), (17, (.op (.ext 1) (.cons (.bv 1) .nil)))] none)))))))
@[simp] theorem h5_10_wp {P : Program} {F : PF P} {Q : EX → List Value → World → Prop} {env : List Value} {w : World} : h5_10.wp F Q env w = HC.wp F (.reg (.chk none (.build #[(.string ⟨#[]⟩), (.int .u64 0)] [(0, 1), (1, 1)] [0, 1]) (.cons (.cst (.string ⟨#[98, 97, 110, 107]⟩)) (.cons (.cst (.int .u64 5)) .nil)) (.eff (.bsl 66 1 2 #[(.string ⟨#[]⟩), (.int .u64 0)] [0]) (.cons (.op (.build #[(.string ⟨#[]⟩), (.int .u64 0)] [(0, 1), (1, 1)] [0, 1]) (.cons (.cst (.string ⟨#[98, 97, 110, 107]⟩)) (.cons (.cst (.int .u64 5)) .nil))) .nil) (.eff (.call 20) (.cons (.cst (.int .i64 2)) (.cons (.bv 0) (.cons (.cst (.int .u64 4)) .nil))) (.chk none (.ext 0) (.cons (.bv 1) .nil) (.chk none (.ext 1) (.cons (.bv 1) .nil) (.done [(16, (.op (.ext 0) (.cons (.bv 1) .nil))), (17, (.op (.ext 1) (.cons (.bv 1) .nil)))] none))))))) Q env w := rfl
def h5_11 : HC := (.reg (.chk none (.build #[(.string ⟨#[]⟩), (.int .u64 0)] [(0, 1), (1, 1)] [0]) (.cons (.cst (.string ⟨#[66, 97, 110, 107]⟩)) .nil) (.eff (.bsl 66 1 2 #[(.string ⟨#[]⟩), (.int .u64 0)] [0]) (.cons (.op (.build #[(.string ⟨#[]⟩), (.int .u64 0)] [(0, 1), (1, 1)] [0]) (.cons (.cst (.string ⟨#[66, 97, 110, 107]⟩)) .nil)) .nil) (.eff (.call 20) (.cons (.cst (.int .i64 2)) (.cons (.bv 0) (.cons (.cst (.int .u64 0)) .nil))) (.chk none (.ext 0) (.cons (.bv 1) .nil) (.chk none (.ext 1) (.cons (.bv 1) .nil) (.done [(16, (.op (.ext 0) (.cons (.bv 1) .nil))), (17, (.op (.ext 1) (.cons (.bv 1) .nil)))] none)))))))
@[simp] theorem h5_11_wp {P : Program} {F : PF P} {Q : EX → List Value → World → Prop} {env : List Value} {w : World} : h5_11.wp F Q env w = HC.wp F (.reg (.chk none (.build #[(.string ⟨#[]⟩), (.int .u64 0)] [(0, 1), (1, 1)] [0]) (.cons (.cst (.string ⟨#[66, 97, 110, 107]⟩)) .nil) (.eff (.bsl 66 1 2 #[(.string ⟨#[]⟩), (.int .u64 0)] [0]) (.cons (.op (.build #[(.string ⟨#[]⟩), (.int .u64 0)] [(0, 1), (1, 1)] [0]) (.cons (.cst (.string ⟨#[66, 97, 110, 107]⟩)) .nil)) .nil) (.eff (.call 20) (.cons (.cst (.int .i64 2)) (.cons (.bv 0) (.cons (.cst (.int .u64 0)) .nil))) (.chk none (.ext 0) (.cons (.bv 1) .nil) (.chk none (.ext 1) (.cons (.bv 1) .nil) (.done [(16, (.op (.ext 0) (.cons (.bv 1) .nil))), (17, (.op (.ext 1) (.cons (.bv 1) .nil)))] none))))))) Q env w := rfl
def h5_12 : HC := (.reg (.chk none (.build #[(.string ⟨#[]⟩), (.int .u64 0)] [(0, 1), (1, 1)] [0, 1]) (.cons (.cst (.string ⟨#[98, 97, 110, 107]⟩)) (.cons (.cst (.int .u64 5)) .nil)) (.chk none (.build #[(.string ⟨#[]⟩), (.int .u64 0)] [(0, 1), (1, 1)] [0]) (.cons (.cst (.string ⟨#[66, 65, 78, 75]⟩)) .nil) (.eff (.bsl 66 2 2 #[(.string ⟨#[]⟩), (.int .u64 0)] [0, 1]) (.cons (.op (.build #[(.string ⟨#[]⟩), (.int .u64 0)] [(0, 1), (1, 1)] [0, 1]) (.cons (.cst (.string ⟨#[98, 97, 110, 107]⟩)) (.cons (.cst (.int .u64 5)) .nil))) (.cons (.op (.build #[(.string ⟨#[]⟩), (.int .u64 0)] [(0, 1), (1, 1)] [0]) (.cons (.cst (.string ⟨#[66, 65, 78, 75]⟩)) .nil)) .nil)) (.eff (.call 20) (.cons (.cst (.int .i64 2)) (.cons (.bv 0) (.cons (.cst (.int .u64 9)) .nil))) (.chk none (.ext 0) (.cons (.bv 1) .nil) (.chk none (.ext 1) (.cons (.bv 1) .nil) (.done [(16, (.op (.ext 0) (.cons (.bv 1) .nil))), (17, (.op (.ext 1) (.cons (.bv 1) .nil)))] none))))))))
@[simp] theorem h5_12_wp {P : Program} {F : PF P} {Q : EX → List Value → World → Prop} {env : List Value} {w : World} : h5_12.wp F Q env w = HC.wp F (.reg (.chk none (.build #[(.string ⟨#[]⟩), (.int .u64 0)] [(0, 1), (1, 1)] [0, 1]) (.cons (.cst (.string ⟨#[98, 97, 110, 107]⟩)) (.cons (.cst (.int .u64 5)) .nil)) (.chk none (.build #[(.string ⟨#[]⟩), (.int .u64 0)] [(0, 1), (1, 1)] [0]) (.cons (.cst (.string ⟨#[66, 65, 78, 75]⟩)) .nil) (.eff (.bsl 66 2 2 #[(.string ⟨#[]⟩), (.int .u64 0)] [0, 1]) (.cons (.op (.build #[(.string ⟨#[]⟩), (.int .u64 0)] [(0, 1), (1, 1)] [0, 1]) (.cons (.cst (.string ⟨#[98, 97, 110, 107]⟩)) (.cons (.cst (.int .u64 5)) .nil))) (.cons (.op (.build #[(.string ⟨#[]⟩), (.int .u64 0)] [(0, 1), (1, 1)] [0]) (.cons (.cst (.string ⟨#[66, 65, 78, 75]⟩)) .nil)) .nil)) (.eff (.call 20) (.cons (.cst (.int .i64 2)) (.cons (.bv 0) (.cons (.cst (.int .u64 9)) .nil))) (.chk none (.ext 0) (.cons (.bv 1) .nil) (.chk none (.ext 1) (.cons (.bv 1) .nil) (.done [(16, (.op (.ext 0) (.cons (.bv 1) .nil))), (17, (.op (.ext 1) (.cons (.bv 1) .nil)))] none)))))))) Q env w := rfl
def h5_13 : HC := (.reg (.chk none (.build #[(.string ⟨#[]⟩), (.int .u64 0)] [(0, 1), (1, 1)] [0]) (.cons (.cst (.string ⟨#[98, 97, 110, 107]⟩)) .nil) (.chk none (.build #[(.string ⟨#[]⟩), (.int .u64 0)] [(0, 1), (1, 1)] [0]) (.cons (.cst (.string ⟨#[97]⟩)) .nil) (.eff (.bsl 66 2 2 #[(.string ⟨#[]⟩), (.int .u64 0)] [0, 1]) (.cons (.op (.build #[(.string ⟨#[]⟩), (.int .u64 0)] [(0, 1), (1, 1)] [0]) (.cons (.cst (.string ⟨#[98, 97, 110, 107]⟩)) .nil)) (.cons (.op (.build #[(.string ⟨#[]⟩), (.int .u64 0)] [(0, 1), (1, 1)] [0]) (.cons (.cst (.string ⟨#[97]⟩)) .nil)) .nil)) (.eff (.call 20) (.cons (.cst (.int .i64 1)) (.cons (.bv 0) (.cons (.cst (.int .u64 0)) .nil))) (.chk none (.ext 0) (.cons (.bv 1) .nil) (.chk none (.ext 1) (.cons (.bv 1) .nil) (.done [(16, (.op (.ext 0) (.cons (.bv 1) .nil))), (17, (.op (.ext 1) (.cons (.bv 1) .nil)))] none))))))))
@[simp] theorem h5_13_wp {P : Program} {F : PF P} {Q : EX → List Value → World → Prop} {env : List Value} {w : World} : h5_13.wp F Q env w = HC.wp F (.reg (.chk none (.build #[(.string ⟨#[]⟩), (.int .u64 0)] [(0, 1), (1, 1)] [0]) (.cons (.cst (.string ⟨#[98, 97, 110, 107]⟩)) .nil) (.chk none (.build #[(.string ⟨#[]⟩), (.int .u64 0)] [(0, 1), (1, 1)] [0]) (.cons (.cst (.string ⟨#[97]⟩)) .nil) (.eff (.bsl 66 2 2 #[(.string ⟨#[]⟩), (.int .u64 0)] [0, 1]) (.cons (.op (.build #[(.string ⟨#[]⟩), (.int .u64 0)] [(0, 1), (1, 1)] [0]) (.cons (.cst (.string ⟨#[98, 97, 110, 107]⟩)) .nil)) (.cons (.op (.build #[(.string ⟨#[]⟩), (.int .u64 0)] [(0, 1), (1, 1)] [0]) (.cons (.cst (.string ⟨#[97]⟩)) .nil)) .nil)) (.eff (.call 20) (.cons (.cst (.int .i64 1)) (.cons (.bv 0) (.cons (.cst (.int .u64 0)) .nil))) (.chk none (.ext 0) (.cons (.bv 1) .nil) (.chk none (.ext 1) (.cons (.bv 1) .nil) (.done [(16, (.op (.ext 0) (.cons (.bv 1) .nil))), (17, (.op (.ext 1) (.cons (.bv 1) .nil)))] none)))))))) Q env w := rfl
def h5_14 : HC := (.reg (.eff (.call 20) (.cons (.cst (.int .i64 1)) (.cons (.cst (.slice none 0 0)) (.cons (.cst (.int .u64 4611686018427387905)) .nil))) (.chk none (.ext 0) (.cons (.bv 0) .nil) (.chk none (.ext 1) (.cons (.bv 0) .nil) (.done [(16, (.op (.ext 0) (.cons (.bv 0) .nil))), (17, (.op (.ext 1) (.cons (.bv 0) .nil)))] none)))))
@[simp] theorem h5_14_wp {P : Program} {F : PF P} {Q : EX → List Value → World → Prop} {env : List Value} {w : World} : h5_14.wp F Q env w = HC.wp F (.reg (.eff (.call 20) (.cons (.cst (.int .i64 1)) (.cons (.cst (.slice none 0 0)) (.cons (.cst (.int .u64 4611686018427387905)) .nil))) (.chk none (.ext 0) (.cons (.bv 0) .nil) (.chk none (.ext 1) (.cons (.bv 0) .nil) (.done [(16, (.op (.ext 0) (.cons (.bv 0) .nil))), (17, (.op (.ext 1) (.cons (.bv 0) .nil)))] none))))) Q env w := rfl
def h5_15 : HC := (.br (.chk none (.bin .eql) (.cons (.inp 22) (.cons (.cst (.int .i64 5)) .nil)) (.done [] (some (.op (.bin .eql) (.cons (.inp 22) (.cons (.cst (.int .i64 5)) .nil)))))) h5_14 .skip)
@[simp] theorem h5_15_wp {P : Program} {F : PF P} {Q : EX → List Value → World → Prop} {env : List Value} {w : World} : h5_15.wp F Q env w = HC.wp F (.br (.chk none (.bin .eql) (.cons (.inp 22) (.cons (.cst (.int .i64 5)) .nil)) (.done [] (some (.op (.bin .eql) (.cons (.inp 22) (.cons (.cst (.int .i64 5)) .nil)))))) h5_14 .skip) Q env w := rfl
def h5_16 : HC := (.br (.chk none (.bin .eql) (.cons (.inp 22) (.cons (.cst (.int .i64 4)) .nil)) (.done [] (some (.op (.bin .eql) (.cons (.inp 22) (.cons (.cst (.int .i64 4)) .nil)))))) h5_13 h5_15)
@[simp] theorem h5_16_wp {P : Program} {F : PF P} {Q : EX → List Value → World → Prop} {env : List Value} {w : World} : h5_16.wp F Q env w = HC.wp F (.br (.chk none (.bin .eql) (.cons (.inp 22) (.cons (.cst (.int .i64 4)) .nil)) (.done [] (some (.op (.bin .eql) (.cons (.inp 22) (.cons (.cst (.int .i64 4)) .nil)))))) h5_13 h5_15) Q env w := rfl
def h5_17 : HC := (.br (.chk none (.bin .eql) (.cons (.inp 22) (.cons (.cst (.int .i64 3)) .nil)) (.done [] (some (.op (.bin .eql) (.cons (.inp 22) (.cons (.cst (.int .i64 3)) .nil)))))) h5_12 h5_16)
@[simp] theorem h5_17_wp {P : Program} {F : PF P} {Q : EX → List Value → World → Prop} {env : List Value} {w : World} : h5_17.wp F Q env w = HC.wp F (.br (.chk none (.bin .eql) (.cons (.inp 22) (.cons (.cst (.int .i64 3)) .nil)) (.done [] (some (.op (.bin .eql) (.cons (.inp 22) (.cons (.cst (.int .i64 3)) .nil)))))) h5_12 h5_16) Q env w := rfl
def h5_18 : HC := (.br (.chk none (.bin .eql) (.cons (.inp 22) (.cons (.cst (.int .i64 2)) .nil)) (.done [] (some (.op (.bin .eql) (.cons (.inp 22) (.cons (.cst (.int .i64 2)) .nil)))))) h5_11 h5_17)
@[simp] theorem h5_18_wp {P : Program} {F : PF P} {Q : EX → List Value → World → Prop} {env : List Value} {w : World} : h5_18.wp F Q env w = HC.wp F (.br (.chk none (.bin .eql) (.cons (.inp 22) (.cons (.cst (.int .i64 2)) .nil)) (.done [] (some (.op (.bin .eql) (.cons (.inp 22) (.cons (.cst (.int .i64 2)) .nil)))))) h5_11 h5_17) Q env w := rfl
def h5_19 : HC := (.br (.chk none (.bin .eql) (.cons (.inp 22) (.cons (.cst (.int .i64 1)) .nil)) (.done [] (some (.op (.bin .eql) (.cons (.inp 22) (.cons (.cst (.int .i64 1)) .nil)))))) h5_10 h5_18)
@[simp] theorem h5_19_wp {P : Program} {F : PF P} {Q : EX → List Value → World → Prop} {env : List Value} {w : World} : h5_19.wp F Q env w = HC.wp F (.br (.chk none (.bin .eql) (.cons (.inp 22) (.cons (.cst (.int .i64 1)) .nil)) (.done [] (some (.op (.bin .eql) (.cons (.inp 22) (.cons (.cst (.int .i64 1)) .nil)))))) h5_10 h5_18) Q env w := rfl
def h5_20 : HC := (.br (.chk none (.bin .eql) (.cons (.inp 22) (.cons (.cst (.int .i64 0)) .nil)) (.done [] (some (.op (.bin .eql) (.cons (.inp 22) (.cons (.cst (.int .i64 0)) .nil)))))) h5_9 h5_19)
@[simp] theorem h5_20_wp {P : Program} {F : PF P} {Q : EX → List Value → World → Prop} {env : List Value} {w : World} : h5_20.wp F Q env w = HC.wp F (.br (.chk none (.bin .eql) (.cons (.inp 22) (.cons (.cst (.int .i64 0)) .nil)) (.done [] (some (.op (.bin .eql) (.cons (.inp 22) (.cons (.cst (.int .i64 0)) .nil)))))) h5_9 h5_19) Q env w := rfl
def h5_21 : HC := (.seq (.block 2 h5_20) h5_8)
@[simp] theorem h5_21_wp {P : Program} {F : PF P} {Q : EX → List Value → World → Prop} {env : List Value} {w : World} : h5_21.wp F Q env w = HC.wp F (.seq (.block 2 h5_20) h5_8) Q env w := rfl
def h5_22 : HC := (.seq (.reg (.done [(22, (.inp 15))] none)) h5_21)
@[simp] theorem h5_22_wp {P : Program} {F : PF P} {Q : EX → List Value → World → Prop} {env : List Value} {w : World} : h5_22.wp F Q env w = HC.wp F (.seq (.reg (.done [(22, (.inp 15))] none)) h5_21) Q env w := rfl
def h5_23 : HC := (.seq (.reg (.done [(17, (.cst (.int .i64 0)))] none)) h5_22)
@[simp] theorem h5_23_wp {P : Program} {F : PF P} {Q : EX → List Value → World → Prop} {env : List Value} {w : World} : h5_23.wp F Q env w = HC.wp F (.seq (.reg (.done [(17, (.cst (.int .i64 0)))] none)) h5_22) Q env w := rfl
def h5_24 : HC := (.seq (.reg (.done [(16, (.cst (.pointer none)))] none)) h5_23)
@[simp] theorem h5_24_wp {P : Program} {F : PF P} {Q : EX → List Value → World → Prop} {env : List Value} {w : World} : h5_24.wp F Q env w = HC.wp F (.seq (.reg (.done [(16, (.cst (.pointer none)))] none)) h5_23) Q env w := rfl
def h5_25 : HC := (.seq (.block 1 h5_24) h5_5)
@[simp] theorem h5_25_wp {P : Program} {F : PF P} {Q : EX → List Value → World → Prop} {env : List Value} {w : World} : h5_25.wp F Q env w = HC.wp F (.seq (.block 1 h5_24) h5_5) Q env w := rfl
def h5_26 : HC := (.seq (.br (.chk none (.bin .lss) (.cons (.inp 15) (.cons (.cst (.int .i64 6)) .nil)) (.done [] (some (.op (.bin .lss) (.cons (.inp 15) (.cons (.cst (.int .i64 6)) .nil)))))) .skip (.exit 0)) h5_25)
@[simp] theorem h5_26_wp {P : Program} {F : PF P} {Q : EX → List Value → World → Prop} {env : List Value} {w : World} : h5_26.wp F Q env w = HC.wp F (.seq (.br (.chk none (.bin .lss) (.cons (.inp 15) (.cons (.cst (.int .i64 6)) .nil)) (.done [] (some (.op (.bin .lss) (.cons (.inp 15) (.cons (.cst (.int .i64 6)) .nil)))))) .skip (.exit 0)) h5_25) Q env w := rfl
def h5_27 : HC := (.loop h5_26)
@[simp] theorem h5_27_wp {P : Program} {F : PF P} {Q : EX → List Value → World → Prop} {env : List Value} {w : World} : h5_27.wp F Q env w = HC.wp F (.loop h5_26) Q env w := rfl
def h5_28 : HC := (.seq (.block 0 h5_27) h5_4)
@[simp] theorem h5_28_wp {P : Program} {F : PF P} {Q : EX → List Value → World → Prop} {env : List Value} {w : World} : h5_28.wp F Q env w = HC.wp F (.seq (.block 0 h5_27) h5_4) Q env w := rfl
def h5_29 : HC := (.seq (.reg (.done [(15, (.cst (.int .i64 0)))] none)) h5_28)
@[simp] theorem h5_29_wp {P : Program} {F : PF P} {Q : EX → List Value → World → Prop} {env : List Value} {w : World} : h5_29.wp F Q env w = HC.wp F (.seq (.reg (.done [(15, (.cst (.int .i64 0)))] none)) h5_28) Q env w := rfl
def h5_30 : HC := (.seq (.reg (.done [(14, (.cst (.slice none 0 0)))] none)) h5_29)
@[simp] theorem h5_30_wp {P : Program} {F : PF P} {Q : EX → List Value → World → Prop} {env : List Value} {w : World} : h5_30.wp F Q env w = HC.wp F (.seq (.reg (.done [(14, (.cst (.slice none 0 0)))] none)) h5_29) Q env w := rfl
def h5_31 : HC := (.seq (.reg (.done [(0, (.cst (.bool false)))] none)) .ret)
@[simp] theorem h5_31_wp {P : Program} {F : PF P} {Q : EX → List Value → World → Prop} {env : List Value} {w : World} : h5_31.wp F Q env w = HC.wp F (.seq (.reg (.done [(0, (.cst (.bool false)))] none)) .ret) Q env w := rfl
def h5_32 : HC := (.seq (.br (.chk none (.bin .neq) (.cons (.inp 10) (.cons (.cst (.int .i64 2)) .nil)) (.bnd (.op (.bin .neq) (.cons (.inp 10) (.cons (.cst (.int .i64 2)) .nil))) (.chk (some ((.bv 0), false)) (.un .not) (.cons (.inp 11) .nil) (.isb none (.bv 0) (.bnd (.ite (.bv 0) true (.cst (.bool true)) (.op (.un .not) (.cons (.inp 11) .nil))) (.isb none (.bv 1) (.bnd (.ite (.bv 1) true (.cst (.bool true)) (.inp 12)) (.isb none (.bv 2) (.bnd (.ite (.bv 2) true (.cst (.bool true)) (.inp 13)) (.ite (.bv 3) false (.eff (.call 16) (.cons (.ite (.bv 3) false (.inp 1) (.cst (.tuple #[]))) (.cons (.cst (.string ⟨#[66, 48, 98]⟩)) .nil)) (.eff (.bsl 3 1 1 #[(.int .i64 0)] [0]) (.cons (.cst (.int .i64 2)) .nil) (.eff (.call 38) (.cons (.bv 4) (.cons (.bv 5) .nil)) (.chk none (.un .not) (.cons (.bv 6) .nil) (.isb none (.bv 3) (.done [] (some (.op (.un .not) (.cons (.bv 6) .nil))))))))) (.isb none (.bv 3) (.done [] (some (.cst (.bool true))))))))))))))) h5_31 .skip) h5_30)
@[simp] theorem h5_32_wp {P : Program} {F : PF P} {Q : EX → List Value → World → Prop} {env : List Value} {w : World} : h5_32.wp F Q env w = HC.wp F (.seq (.br (.chk none (.bin .neq) (.cons (.inp 10) (.cons (.cst (.int .i64 2)) .nil)) (.bnd (.op (.bin .neq) (.cons (.inp 10) (.cons (.cst (.int .i64 2)) .nil))) (.chk (some ((.bv 0), false)) (.un .not) (.cons (.inp 11) .nil) (.isb none (.bv 0) (.bnd (.ite (.bv 0) true (.cst (.bool true)) (.op (.un .not) (.cons (.inp 11) .nil))) (.isb none (.bv 1) (.bnd (.ite (.bv 1) true (.cst (.bool true)) (.inp 12)) (.isb none (.bv 2) (.bnd (.ite (.bv 2) true (.cst (.bool true)) (.inp 13)) (.ite (.bv 3) false (.eff (.call 16) (.cons (.ite (.bv 3) false (.inp 1) (.cst (.tuple #[]))) (.cons (.cst (.string ⟨#[66, 48, 98]⟩)) .nil)) (.eff (.bsl 3 1 1 #[(.int .i64 0)] [0]) (.cons (.cst (.int .i64 2)) .nil) (.eff (.call 38) (.cons (.bv 4) (.cons (.bv 5) .nil)) (.chk none (.un .not) (.cons (.bv 6) .nil) (.isb none (.bv 3) (.done [] (some (.op (.un .not) (.cons (.bv 6) .nil))))))))) (.isb none (.bv 3) (.done [] (some (.cst (.bool true))))))))))))))) h5_31 .skip) h5_30) Q env w := rfl
def h5_33 : HC := (.seq (.reg (.eff (.call 14) (.cons (.inp 1) (.cons (.cst (.string ⟨#[]⟩)) .nil)) (.chk none (.ext 0) (.cons (.bv 0) .nil) (.chk none (.ext 1) (.cons (.bv 0) .nil) (.done [(13, (.op (.ext 1) (.cons (.bv 0) .nil)))] none))))) h5_32)
@[simp] theorem h5_33_wp {P : Program} {F : PF P} {Q : EX → List Value → World → Prop} {env : List Value} {w : World} : h5_33.wp F Q env w = HC.wp F (.seq (.reg (.eff (.call 14) (.cons (.inp 1) (.cons (.cst (.string ⟨#[]⟩)) .nil)) (.chk none (.ext 0) (.cons (.bv 0) .nil) (.chk none (.ext 1) (.cons (.bv 0) .nil) (.done [(13, (.op (.ext 1) (.cons (.bv 0) .nil)))] none))))) h5_32) Q env w := rfl
def h5_34 : HC := (.seq (.reg (.eff (.call 14) (.cons (.inp 1) (.cons (.cst (.string ⟨#[66, 48, 98]⟩)) .nil)) (.chk none (.ext 0) (.cons (.bv 0) .nil) (.chk none (.ext 1) (.cons (.bv 0) .nil) (.done [(12, (.op (.ext 1) (.cons (.bv 0) .nil)))] none))))) h5_33)
@[simp] theorem h5_34_wp {P : Program} {F : PF P} {Q : EX → List Value → World → Prop} {env : List Value} {w : World} : h5_34.wp F Q env w = HC.wp F (.seq (.reg (.eff (.call 14) (.cons (.inp 1) (.cons (.cst (.string ⟨#[66, 48, 98]⟩)) .nil)) (.chk none (.ext 0) (.cons (.bv 0) .nil) (.chk none (.ext 1) (.cons (.bv 0) .nil) (.done [(12, (.op (.ext 1) (.cons (.bv 0) .nil)))] none))))) h5_33) Q env w := rfl
def h5_35 : HC := (.seq (.reg (.eff (.call 14) (.cons (.inp 1) (.cons (.cst (.string ⟨#[98, 79, 66]⟩)) .nil)) (.chk none (.ext 0) (.cons (.bv 0) .nil) (.chk none (.ext 1) (.cons (.bv 0) .nil) (.done [(10, (.op (.ext 0) (.cons (.bv 0) .nil))), (11, (.op (.ext 1) (.cons (.bv 0) .nil)))] none))))) h5_34)
@[simp] theorem h5_35_wp {P : Program} {F : PF P} {Q : EX → List Value → World → Prop} {env : List Value} {w : World} : h5_35.wp F Q env w = HC.wp F (.seq (.reg (.eff (.call 14) (.cons (.inp 1) (.cons (.cst (.string ⟨#[98, 79, 66]⟩)) .nil)) (.chk none (.ext 0) (.cons (.bv 0) .nil) (.chk none (.ext 1) (.cons (.bv 0) .nil) (.done [(10, (.op (.ext 0) (.cons (.bv 0) .nil))), (11, (.op (.ext 1) (.cons (.bv 0) .nil)))] none))))) h5_34) Q env w := rfl
def h5_36 : HC := (.seq (.reg (.done [(0, (.cst (.bool false)))] none)) .ret)
@[simp] theorem h5_36_wp {P : Program} {F : PF P} {Q : EX → List Value → World → Prop} {env : List Value} {w : World} : h5_36.wp F Q env w = HC.wp F (.seq (.reg (.done [(0, (.cst (.bool false)))] none)) .ret) Q env w := rfl
def h5_37 : HC := (.seq (.br (.chk none (.cal 10) (.cons (.inp 2) .nil) (.chk none (.bin .neq) (.cons (.op (.cal 10) (.cons (.inp 2) .nil)) (.cons (.cst (.int .i64 0)) .nil)) (.bnd (.op (.bin .neq) (.cons (.op (.cal 10) (.cons (.inp 2) .nil)) (.cons (.cst (.int .i64 0)) .nil))) (.chk (some ((.bv 0), false)) (.cal 10) (.cons (.inp 3) .nil) (.chk (some ((.bv 0), false)) (.bin .neq) (.cons (.op (.cal 10) (.cons (.inp 3) .nil)) (.cons (.cst (.int .i64 143)) .nil)) (.isb none (.bv 0) (.bnd (.ite (.bv 0) true (.cst (.bool true)) (.op (.bin .neq) (.cons (.op (.cal 10) (.cons (.inp 3) .nil)) (.cons (.cst (.int .i64 143)) .nil)))) (.chk (some ((.bv 1), false)) (.cal 10) (.cons (.inp 4) .nil) (.chk (some ((.bv 1), false)) (.bin .neq) (.cons (.op (.cal 10) (.cons (.inp 4) .nil)) (.cons (.cst (.int .i64 143)) .nil)) (.isb none (.bv 1) (.bnd (.ite (.bv 1) true (.cst (.bool true)) (.op (.bin .neq) (.cons (.op (.cal 10) (.cons (.inp 4) .nil)) (.cons (.cst (.int .i64 143)) .nil)))) (.chk (some ((.bv 2), false)) (.cal 10) (.cons (.inp 5) .nil) (.chk (some ((.bv 2), false)) (.bin .neq) (.cons (.op (.cal 10) (.cons (.inp 5) .nil)) (.cons (.cst (.int .i64 0)) .nil)) (.isb none (.bv 2) (.bnd (.ite (.bv 2) true (.cst (.bool true)) (.op (.bin .neq) (.cons (.op (.cal 10) (.cons (.inp 5) .nil)) (.cons (.cst (.int .i64 0)) .nil)))) (.chk (some ((.bv 3), false)) (.cal 10) (.cons (.inp 7) .nil) (.chk (some ((.bv 3), false)) (.bin .neq) (.cons (.op (.cal 10) (.cons (.inp 7) .nil)) (.cons (.cst (.int .i64 0)) .nil)) (.isb none (.bv 3) (.bnd (.ite (.bv 3) true (.cst (.bool true)) (.op (.bin .neq) (.cons (.op (.cal 10) (.cons (.inp 7) .nil)) (.cons (.cst (.int .i64 0)) .nil)))) (.chk (some ((.bv 4), false)) (.cal 10) (.cons (.inp 9) .nil) (.chk (some ((.bv 4), false)) (.bin .neq) (.cons (.op (.cal 10) (.cons (.inp 9) .nil)) (.cons (.cst (.int .i64 0)) .nil)) (.isb none (.bv 4) (.bnd (.ite (.bv 4) true (.cst (.bool true)) (.op (.bin .neq) (.cons (.op (.cal 10) (.cons (.inp 9) .nil)) (.cons (.cst (.int .i64 0)) .nil)))) (.ite (.bv 5) false (.eff (.call 37) (.cons (.ite (.bv 5) false (.inp 1) (.cst (.tuple #[]))) .nil) (.chk none (.bin .neq) (.cons (.bv 6) (.cons (.cst (.int .u64 30)) .nil)) (.isb none (.bv 5) (.bnd (.op (.bin .neq) (.cons (.bv 6) (.cons (.cst (.int .u64 30)) .nil))) (.ite (.bv 7) false (.eff (.call 30) (.cons (.ite (.bv 7) false (.inp 1) (.cst (.tuple #[]))) .nil) (.chk none (.bin .neq) (.cons (.bv 8) (.cons (.cst (.int .u64 100)) .nil)) (.isb none (.bv 7) (.bnd (.op (.bin .neq) (.cons (.bv 8) (.cons (.cst (.int .u64 100)) .nil))) (.chk (some ((.bv 9), false)) (.fld 1) (.cons (.inp 6) .nil) (.ite (.bv 9) false (.eff (.ld false 1) (.cons (.ite (.bv 9) false (.op (.fld 1) (.cons (.inp 6) .nil)) (.cst (.tuple #[]))) .nil) (.chk none (.bin .neq) (.cons (.bv 10) (.cons (.cst (.int .u64 20)) .nil)) (.isb none (.bv 9) (.bnd (.op (.bin .neq) (.cons (.bv 10) (.cons (.cst (.int .u64 20)) .nil))) (.chk (some ((.bv 11), false)) (.fld 1) (.cons (.inp 8) .nil) (.ite (.bv 11) false (.eff (.ld false 1) (.cons (.ite (.bv 11) false (.op (.fld 1) (.cons (.inp 8) .nil)) (.cst (.tuple #[]))) .nil) (.chk none (.bin .neq) (.cons (.bv 12) (.cons (.cst (.int .u64 50)) .nil)) (.isb none (.bv 11) (.bnd (.op (.bin .neq) (.cons (.bv 12) (.cons (.cst (.int .u64 50)) .nil))) (.chk (some ((.bv 13), false)) (.fld 0) (.cons (.inp 8) .nil) (.ite (.bv 13) false (.eff (.ld false 1) (.cons (.ite (.bv 13) false (.op (.fld 0) (.cons (.inp 8) .nil)) (.cst (.tuple #[]))) .nil) (.chk none (.bin .neq) (.cons (.bv 14) (.cons (.cst (.string ⟨#[66, 111, 98]⟩)) .nil)) (.isb none (.bv 13) (.done [] (some (.op (.bin .neq) (.cons (.bv 14) (.cons (.cst (.string ⟨#[66, 111, 98]⟩)) .nil)))))))) (.isb none (.bv 13) (.done [] (some (.cst (.bool true))))))))))) (.isb none (.bv 11) (.isb none (.cst (.bool true)) (.done [] (some (.cst (.bool true)))))))))))) (.isb none (.bv 9) (.isb none (.cst (.bool true)) (.isb none (.cst (.bool true)) (.done [] (some (.cst (.bool true))))))))))))) (.isb none (.bv 7) (.isb none (.cst (.bool true)) (.isb none (.cst (.bool true)) (.isb none (.cst (.bool true)) (.done [] (some (.cst (.bool true))))))))))))) (.isb none (.bv 5) (.isb none (.cst (.bool true)) (.isb none (.cst (.bool true)) (.isb none (.cst (.bool true)) (.isb none (.cst (.bool true)) (.done [] (some (.cst (.bool true))))))))))))))))))))))))))))))))) h5_36 .skip) h5_35)
@[simp] theorem h5_37_wp {P : Program} {F : PF P} {Q : EX → List Value → World → Prop} {env : List Value} {w : World} : h5_37.wp F Q env w = HC.wp F (.seq (.br (.chk none (.cal 10) (.cons (.inp 2) .nil) (.chk none (.bin .neq) (.cons (.op (.cal 10) (.cons (.inp 2) .nil)) (.cons (.cst (.int .i64 0)) .nil)) (.bnd (.op (.bin .neq) (.cons (.op (.cal 10) (.cons (.inp 2) .nil)) (.cons (.cst (.int .i64 0)) .nil))) (.chk (some ((.bv 0), false)) (.cal 10) (.cons (.inp 3) .nil) (.chk (some ((.bv 0), false)) (.bin .neq) (.cons (.op (.cal 10) (.cons (.inp 3) .nil)) (.cons (.cst (.int .i64 143)) .nil)) (.isb none (.bv 0) (.bnd (.ite (.bv 0) true (.cst (.bool true)) (.op (.bin .neq) (.cons (.op (.cal 10) (.cons (.inp 3) .nil)) (.cons (.cst (.int .i64 143)) .nil)))) (.chk (some ((.bv 1), false)) (.cal 10) (.cons (.inp 4) .nil) (.chk (some ((.bv 1), false)) (.bin .neq) (.cons (.op (.cal 10) (.cons (.inp 4) .nil)) (.cons (.cst (.int .i64 143)) .nil)) (.isb none (.bv 1) (.bnd (.ite (.bv 1) true (.cst (.bool true)) (.op (.bin .neq) (.cons (.op (.cal 10) (.cons (.inp 4) .nil)) (.cons (.cst (.int .i64 143)) .nil)))) (.chk (some ((.bv 2), false)) (.cal 10) (.cons (.inp 5) .nil) (.chk (some ((.bv 2), false)) (.bin .neq) (.cons (.op (.cal 10) (.cons (.inp 5) .nil)) (.cons (.cst (.int .i64 0)) .nil)) (.isb none (.bv 2) (.bnd (.ite (.bv 2) true (.cst (.bool true)) (.op (.bin .neq) (.cons (.op (.cal 10) (.cons (.inp 5) .nil)) (.cons (.cst (.int .i64 0)) .nil)))) (.chk (some ((.bv 3), false)) (.cal 10) (.cons (.inp 7) .nil) (.chk (some ((.bv 3), false)) (.bin .neq) (.cons (.op (.cal 10) (.cons (.inp 7) .nil)) (.cons (.cst (.int .i64 0)) .nil)) (.isb none (.bv 3) (.bnd (.ite (.bv 3) true (.cst (.bool true)) (.op (.bin .neq) (.cons (.op (.cal 10) (.cons (.inp 7) .nil)) (.cons (.cst (.int .i64 0)) .nil)))) (.chk (some ((.bv 4), false)) (.cal 10) (.cons (.inp 9) .nil) (.chk (some ((.bv 4), false)) (.bin .neq) (.cons (.op (.cal 10) (.cons (.inp 9) .nil)) (.cons (.cst (.int .i64 0)) .nil)) (.isb none (.bv 4) (.bnd (.ite (.bv 4) true (.cst (.bool true)) (.op (.bin .neq) (.cons (.op (.cal 10) (.cons (.inp 9) .nil)) (.cons (.cst (.int .i64 0)) .nil)))) (.ite (.bv 5) false (.eff (.call 37) (.cons (.ite (.bv 5) false (.inp 1) (.cst (.tuple #[]))) .nil) (.chk none (.bin .neq) (.cons (.bv 6) (.cons (.cst (.int .u64 30)) .nil)) (.isb none (.bv 5) (.bnd (.op (.bin .neq) (.cons (.bv 6) (.cons (.cst (.int .u64 30)) .nil))) (.ite (.bv 7) false (.eff (.call 30) (.cons (.ite (.bv 7) false (.inp 1) (.cst (.tuple #[]))) .nil) (.chk none (.bin .neq) (.cons (.bv 8) (.cons (.cst (.int .u64 100)) .nil)) (.isb none (.bv 7) (.bnd (.op (.bin .neq) (.cons (.bv 8) (.cons (.cst (.int .u64 100)) .nil))) (.chk (some ((.bv 9), false)) (.fld 1) (.cons (.inp 6) .nil) (.ite (.bv 9) false (.eff (.ld false 1) (.cons (.ite (.bv 9) false (.op (.fld 1) (.cons (.inp 6) .nil)) (.cst (.tuple #[]))) .nil) (.chk none (.bin .neq) (.cons (.bv 10) (.cons (.cst (.int .u64 20)) .nil)) (.isb none (.bv 9) (.bnd (.op (.bin .neq) (.cons (.bv 10) (.cons (.cst (.int .u64 20)) .nil))) (.chk (some ((.bv 11), false)) (.fld 1) (.cons (.inp 8) .nil) (.ite (.bv 11) false (.eff (.ld false 1) (.cons (.ite (.bv 11) false (.op (.fld 1) (.cons (.inp 8) .nil)) (.cst (.tuple #[]))) .nil) (.chk none (.bin .neq) (.cons (.bv 12) (.cons (.cst (.int .u64 50)) .nil)) (.isb none (.bv 11) (.bnd (.op (.bin .neq) (.cons (.bv 12) (.cons (.cst (.int .u64 50)) .nil))) (.chk (some ((.bv 13), false)) (.fld 0) (.cons (.inp 8) .nil) (.ite (.bv 13) false (.eff (.ld false 1) (.cons (.ite (.bv 13) false (.op (.fld 0) (.cons (.inp 8) .nil)) (.cst (.tuple #[]))) .nil) (.chk none (.bin .neq) (.cons (.bv 14) (.cons (.cst (.string ⟨#[66, 111, 98]⟩)) .nil)) (.isb none (.bv 13) (.done [] (some (.op (.bin .neq) (.cons (.bv 14) (.cons (.cst (.string ⟨#[66, 111, 98]⟩)) .nil)))))))) (.isb none (.bv 13) (.done [] (some (.cst (.bool true))))))))))) (.isb none (.bv 11) (.isb none (.cst (.bool true)) (.done [] (some (.cst (.bool true)))))))))))) (.isb none (.bv 9) (.isb none (.cst (.bool true)) (.isb none (.cst (.bool true)) (.done [] (some (.cst (.bool true))))))))))))) (.isb none (.bv 7) (.isb none (.cst (.bool true)) (.isb none (.cst (.bool true)) (.isb none (.cst (.bool true)) (.done [] (some (.cst (.bool true))))))))))))) (.isb none (.bv 5) (.isb none (.cst (.bool true)) (.isb none (.cst (.bool true)) (.isb none (.cst (.bool true)) (.isb none (.cst (.bool true)) (.done [] (some (.cst (.bool true))))))))))))))))))))))))))))))))) h5_36 .skip) h5_35) Q env w := rfl
def h5_38 : HC := (.seq (.reg (.eff (.call 36) (.cons (.inp 1) (.cons (.cst (.int .i64 2)) .nil)) (.chk none (.ext 0) (.cons (.bv 0) .nil) (.chk none (.ext 1) (.cons (.bv 0) .nil) (.eff (.new 66 (.agg #[(.string ⟨#[]⟩), (.int .u64 0)])) .nil (.eff (.st 2) (.cons (.bv 1) (.cons (.op (.ext 0) (.cons (.bv 0) .nil)) .nil)) (.done [(8, (.bv 1)), (9, (.op (.ext 1) (.cons (.bv 0) .nil)))] none))))))) h5_37)
@[simp] theorem h5_38_wp {P : Program} {F : PF P} {Q : EX → List Value → World → Prop} {env : List Value} {w : World} : h5_38.wp F Q env w = HC.wp F (.seq (.reg (.eff (.call 36) (.cons (.inp 1) (.cons (.cst (.int .i64 2)) .nil)) (.chk none (.ext 0) (.cons (.bv 0) .nil) (.chk none (.ext 1) (.cons (.bv 0) .nil) (.eff (.new 66 (.agg #[(.string ⟨#[]⟩), (.int .u64 0)])) .nil (.eff (.st 2) (.cons (.bv 1) (.cons (.op (.ext 0) (.cons (.bv 0) .nil)) .nil)) (.done [(8, (.bv 1)), (9, (.op (.ext 1) (.cons (.bv 0) .nil)))] none))))))) h5_37) Q env w := rfl
def h5_39 : HC := (.seq (.reg (.eff (.call 36) (.cons (.inp 1) (.cons (.cst (.int .i64 1)) .nil)) (.chk none (.ext 0) (.cons (.bv 0) .nil) (.chk none (.ext 1) (.cons (.bv 0) .nil) (.eff (.new 66 (.agg #[(.string ⟨#[]⟩), (.int .u64 0)])) .nil (.eff (.st 2) (.cons (.bv 1) (.cons (.op (.ext 0) (.cons (.bv 0) .nil)) .nil)) (.done [(6, (.bv 1)), (7, (.op (.ext 1) (.cons (.bv 0) .nil)))] none))))))) h5_38)
@[simp] theorem h5_39_wp {P : Program} {F : PF P} {Q : EX → List Value → World → Prop} {env : List Value} {w : World} : h5_39.wp F Q env w = HC.wp F (.seq (.reg (.eff (.call 36) (.cons (.inp 1) (.cons (.cst (.int .i64 1)) .nil)) (.chk none (.ext 0) (.cons (.bv 0) .nil) (.chk none (.ext 1) (.cons (.bv 0) .nil) (.eff (.new 66 (.agg #[(.string ⟨#[]⟩), (.int .u64 0)])) .nil (.eff (.st 2) (.cons (.bv 1) (.cons (.op (.ext 0) (.cons (.bv 0) .nil)) .nil)) (.done [(6, (.bv 1)), (7, (.op (.ext 1) (.cons (.bv 0) .nil)))] none))))))) h5_38) Q env w := rfl
def h5_40 : HC := (.seq (.reg (.eff (.call 35) (.cons (.inp 1) (.cons (.cst (.int .i64 2)) (.cons (.cst (.int .u64 20)) .nil))) (.done [(5, (.bv 0))] none))) h5_39)
@[simp] theorem h5_40_wp {P : Program} {F : PF P} {Q : EX → List Value → World → Prop} {env : List Value} {w : World} : h5_40.wp F Q env w = HC.wp F (.seq (.reg (.eff (.call 35) (.cons (.inp 1) (.cons (.cst (.int .i64 2)) (.cons (.cst (.int .u64 20)) .nil))) (.done [(5, (.bv 0))] none))) h5_39) Q env w := rfl
def h5_41 : HC := (.seq (.reg (.eff (.call 35) (.cons (.inp 1) (.cons (.cst (.int .i64 2)) (.cons (.cst (.int .u64 51)) .nil))) (.done [(4, (.bv 0))] none))) h5_40)
@[simp] theorem h5_41_wp {P : Program} {F : PF P} {Q : EX → List Value → World → Prop} {env : List Value} {w : World} : h5_41.wp F Q env w = HC.wp F (.seq (.reg (.eff (.call 35) (.cons (.inp 1) (.cons (.cst (.int .i64 2)) (.cons (.cst (.int .u64 51)) .nil))) (.done [(4, (.bv 0))] none))) h5_40) Q env w := rfl
def h5_42 : HC := (.seq (.reg (.eff (.call 34) (.cons (.inp 1) (.cons (.cst (.int .i64 1)) (.cons (.cst (.int .u64 21)) .nil))) (.done [(3, (.bv 0))] none))) h5_41)
@[simp] theorem h5_42_wp {P : Program} {F : PF P} {Q : EX → List Value → World → Prop} {env : List Value} {w : World} : h5_42.wp F Q env w = HC.wp F (.seq (.reg (.eff (.call 34) (.cons (.inp 1) (.cons (.cst (.int .i64 1)) (.cons (.cst (.int .u64 21)) .nil))) (.done [(3, (.bv 0))] none))) h5_41) Q env w := rfl
def h5_43 : HC := (.seq (.reg (.eff (.call 34) (.cons (.inp 1) (.cons (.cst (.int .i64 1)) (.cons (.cst (.int .u64 50)) .nil))) (.done [(2, (.bv 0))] none))) h5_42)
@[simp] theorem h5_43_wp {P : Program} {F : PF P} {Q : EX → List Value → World → Prop} {env : List Value} {w : World} : h5_43.wp F Q env w = HC.wp F (.seq (.reg (.eff (.call 34) (.cons (.inp 1) (.cons (.cst (.int .i64 1)) (.cons (.cst (.int .u64 50)) .nil))) (.done [(2, (.bv 0))] none))) h5_42) Q env w := rfl
def h5_44 : HC := (.seq (.reg (.eff (.call 33) .nil (.chk none (.ext 0) (.cons (.bv 0) .nil) (.chk none (.ext 1) (.cons (.bv 0) .nil) (.done [(1, (.op (.ext 0) (.cons (.bv 0) .nil)))] none))))) h5_43)
@[simp] theorem h5_44_wp {P : Program} {F : PF P} {Q : EX → List Value → World → Prop} {env : List Value} {w : World} : h5_44.wp F Q env w = HC.wp F (.seq (.reg (.eff (.call 33) .nil (.chk none (.ext 0) (.cons (.bv 0) .nil) (.chk none (.ext 1) (.cons (.bv 0) .nil) (.done [(1, (.op (.ext 0) (.cons (.bv 0) .nil)))] none))))) h5_43) Q env w := rfl
def h5_45 : HC := (.seq (.reg (.done [(0, (.cst (.bool false)))] none)) .ret)
@[simp] theorem h5_45_wp {P : Program} {F : PF P} {Q : EX → List Value → World → Prop} {env : List Value} {w : World} : h5_45.wp F Q env w = HC.wp F (.seq (.reg (.done [(0, (.cst (.bool false)))] none)) .ret) Q env w := rfl
def h5_46 : HC := (.seq (.br (.eff (.call 8) .nil (.chk none (.un .not) (.cons (.bv 0) .nil) (.done [] (some (.op (.un .not) (.cons (.bv 0) .nil)))))) h5_45 .skip) h5_44)
@[simp] theorem h5_46_wp {P : Program} {F : PF P} {Q : EX → List Value → World → Prop} {env : List Value} {w : World} : h5_46.wp F Q env w = HC.wp F (.seq (.br (.eff (.call 8) .nil (.chk none (.un .not) (.cons (.bv 0) .nil) (.done [] (some (.op (.un .not) (.cons (.bv 0) .nil)))))) h5_45 .skip) h5_44) Q env w := rfl
def l5 : Lifted := ⟨[0, 1, 3, 4, 5, 6, 7, 8, 9, 10, 11, 12, 14, 16, 17, 18, 19, 20, 21, 22, 23, 24, 140], 225, [.slot 0], (.seq (.reg (.done [(0, (.cst (.bool false)))] none)) h5_46)⟩
theorem l5_ok : liftFn U1 5 400 = some l5 := by kernel_rfl


def H1 : Ps := ⟨3, [⟨bankB, 0⟩, ⟨[65, 110, 110], 20⟩, ⟨[66, 111, 98], 30⟩], 100, 50⟩
def H2 : Ps := ⟨3, [⟨bankB, 0⟩, ⟨[65, 110, 110], 20⟩, ⟨[66, 111, 98], 50⟩], 100, 30⟩
def KL : List Int := [142, 144, 142, 140, 141, 144]
theorem row_none (w0 : World) (A : Asn) : Row w0 A (.slice none 0 0) ([] : List Ac).length 2 (flat []) := ⟨rfl, none, 0, rfl, Nat.le_refl _, .inl rfl⟩
set_option maxHeartbeats 2000000 in
theorem known_tail (v1 v2 v3 v4 v5 v6 v7 v8 v9 v10 v11 v12 v13 : Value) (w0 w : World) (A : Asn) (s : St w0 A w) :
    HC.wp U1 h5_30 (endQ Try.prog [RV.slot 0] fun r w' => r = Value.bool true ∧ St w0 A w')
      [.bool false, v1, v2, v3, v4, v5, v6, v7, v8, v9, v10, v11, v12, v13, undef, undef, undef, undef, undef, undef, undef, undef, undef] w := by
  simp
  refine loopI (fun env w' => ∃ (i : Nat) (lv o16 o17 o22 : Value), env = [.bool false, v1, v2, v3, v4, v5, v6, v7, v8, v9, v10, v11, v12, v13, lv, .int .i64 i, o16, o17, undef, undef, undef, undef, o22] ∧ i ≤ 6 ∧
      St w0 (A * own 3 1 lv i (ints (KL.take i))) w')
    (fun env _ => 6 - slotN env 15) ⟨0, _, _, _, _, rfl, by omega, s.own_nil _ _⟩ ?_
  clear s
  rintro LQ env w' ⟨i, lv, o16, o17, o22, rfl, hi, s⟩ hN hE hR
  simp
  refine cndI (fun h => ?_) (fun h => ?_)
  · simp at h
    have h : i < 6 := by omega
    have hKl : KL.length = 6 := rfl
    simp
    have fin : ∀ (k : Int) w, KL[i]? = some k → St w0 (A * own 3 1 lv i (ints (KL.take i))) w → HC.wp U1 h5_8 (blockQ 1 (seqQ U1 h5_5 LQ)) [.bool false, v1, v2, v3, v4, v5, v6, v7, v8, v9, v10, v11, v12, v13, lv, .int .i64 i, .pointer none, .int .i64 k, undef, undef, undef, undef, .int .i64 i] w := by
      intro k w hk s
      obtain ⟨la, lc, rfl, _⟩ := s.own_val
      simp
      refine eff_bsl1 s rfl ?_
      intro b w1 s1
      simp
      refine eff_app (m := 1) (news := [.int .i64 k]) s1.swap rfl s1.cells_look (by simp [Value.oneCell']) (by decide) rfl (by unfold maxLen; omega) (by omega) ?_
      intro lv2 w2 s2
      simp
      try simp (disch := omega) only [wrap64]
      refine hN _ _ ⟨i + 1, lv2, _, _, _, by simp; exact ⟨rfl, rfl, rfl⟩, by omega, ?_⟩ (by simp [slotN]; omega)
      have e : KL.take (i + 1) = KL.take i ++ [k] := by rw [List.take_add_one, hk]; rfl
      rw [e]
      refine St.cut (pt b (.cells #[.int .i64 k] 3 (0, 0))) s2 ?_
      simp only [ints, List.map_append, List.map_cons, List.map_nil]
      ac_rfl
    have hcase : i = 0 ∨ i = 1 ∨ i = 2 ∨ i = 3 ∨ i = 4 ∨ i = 5 := by omega
    rcases hcase with rfl | rfl | rfl | rfl | rfl | rfl
    · simp
      refine eff_call ((Load_spec 2 [] 0 (.slice none 0 0) w0 w' _ (by decide) (by decide) (by simp) (by simp) (row_none _ _) s).mono ?_)
      intro r w1 h1
      have hl : (loadF 2 [] 0).1 = 142 := by decide +kernel
      rw [hl] at h1
      simp only [if_neg (show ¬ (142 : Int) = 0 by decide)] at h1
      obtain ⟨rfl, s1⟩ := h1
      simp
      simpa using fin 142 w1 rfl s1
    · simp [Instr.fill, Value.cells]
      refine eff_bslN (vs := [.agg (Ac.cs ⟨bankB, 5⟩).toArray]) s (by simp [Value.cells, Ac.cs]) rfl rfl (by decide) ?_
      intro rv w1 s1
      simp
      have hrow : Row w0 (A * own 3 1 lv 1 (ints (KL.take 1)) * own 66 2 rv 1 (flat [⟨bankB, 5⟩])) rv ([⟨bankB, 5⟩] : List Ac).length 2 (flat [⟨bankB, 5⟩]) := row_own s1
      refine eff_call ((Load_spec 2 [⟨bankB, 5⟩] 4 rv w0 w1 (A * own 3 1 lv 1 (ints (KL.take 1)) * own 66 2 rv 1 (flat [⟨bankB, 5⟩])) (by decide) (by decide) (by simp [bankB]) (by simp) hrow s1).mono ?_)
      intro r w2 h2
      have hl : (loadF 2 [⟨bankB, 5⟩] 4).1 = 144 := by decide +kernel
      rw [hl] at h2
      simp only [if_neg (show ¬ (144 : Int) = 0 by decide)] at h2
      obtain ⟨rfl, s2⟩ := h2
      simp
      simpa using fin 144 w2 rfl s2.drop
    · simp [Instr.fill, Value.cells]
      refine eff_bslN (vs := [.agg (Ac.cs ⟨[66, 97, 110, 107], 0⟩).toArray]) s (by simp [Value.cells, Ac.cs]) rfl rfl (by decide) ?_
      intro rv w1 s1
      simp
      have hrow : Row w0 (A * own 3 1 lv 2 (ints (KL.take 2)) * own 66 2 rv 1 (flat [⟨[66, 97, 110, 107], 0⟩])) rv ([⟨[66, 97, 110, 107], 0⟩] : List Ac).length 2 (flat [⟨[66, 97, 110, 107], 0⟩]) := row_own s1
      refine eff_call ((Load_spec 2 [⟨[66, 97, 110, 107], 0⟩] 0 rv w0 w1 (A * own 3 1 lv 2 (ints (KL.take 2)) * own 66 2 rv 1 (flat [⟨[66, 97, 110, 107], 0⟩])) (by decide) (by decide) (by simp [bankB]) (by simp) hrow s1).mono ?_)
      intro r w2 h2
      have hl : (loadF 2 [⟨[66, 97, 110, 107], 0⟩] 0).1 = 142 := by decide +kernel
      rw [hl] at h2
      simp only [if_neg (show ¬ (142 : Int) = 0 by decide)] at h2
      obtain ⟨rfl, s2⟩ := h2
      simp
      simpa using fin 142 w2 rfl s2.drop
    · simp [Instr.fill, Value.cells]
      refine eff_bslN (vs := [.agg (Ac.cs ⟨bankB, 5⟩).toArray, .agg (Ac.cs ⟨[66, 65, 78, 75], 0⟩).toArray]) s (by simp [Value.cells, Ac.cs]) rfl rfl (by decide) ?_
      intro rv w1 s1
      simp
      have hrow : Row w0 (A * own 3 1 lv 3 (ints (KL.take 3)) * own 66 2 rv 2 (flat [⟨bankB, 5⟩, ⟨[66, 65, 78, 75], 0⟩])) rv ([⟨bankB, 5⟩, ⟨[66, 65, 78, 75], 0⟩] : List Ac).length 2 (flat [⟨bankB, 5⟩, ⟨[66, 65, 78, 75], 0⟩]) := row_own s1
      refine eff_call ((Load_spec 2 [⟨bankB, 5⟩, ⟨[66, 65, 78, 75], 0⟩] 9 rv w0 w1 (A * own 3 1 lv 3 (ints (KL.take 3)) * own 66 2 rv 2 (flat [⟨bankB, 5⟩, ⟨[66, 65, 78, 75], 0⟩])) (by decide) (by decide) (by simp [bankB]) (by simp) hrow s1).mono ?_)
      intro r w2 h2
      have hl : (loadF 2 [⟨bankB, 5⟩, ⟨[66, 65, 78, 75], 0⟩] 9).1 = 140 := by decide +kernel
      rw [hl] at h2
      simp only [if_neg (show ¬ (140 : Int) = 0 by decide)] at h2
      obtain ⟨rfl, s2⟩ := h2
      simp
      simpa using fin 140 w2 rfl s2.drop
    · simp [Instr.fill, Value.cells]
      refine eff_bslN (vs := [.agg (Ac.cs ⟨bankB, 0⟩).toArray, .agg (Ac.cs ⟨[97], 0⟩).toArray]) s (by simp [Value.cells, Ac.cs]) rfl rfl (by decide) ?_
      intro rv w1 s1
      simp
      have hrow : Row w0 (A * own 3 1 lv 4 (ints (KL.take 4)) * own 66 2 rv 2 (flat [⟨bankB, 0⟩, ⟨[97], 0⟩])) rv ([⟨bankB, 0⟩, ⟨[97], 0⟩] : List Ac).length 2 (flat [⟨bankB, 0⟩, ⟨[97], 0⟩]) := row_own s1
      refine eff_call ((Load_spec 1 [⟨bankB, 0⟩, ⟨[97], 0⟩] 0 rv w0 w1 (A * own 3 1 lv 4 (ints (KL.take 4)) * own 66 2 rv 2 (flat [⟨bankB, 0⟩, ⟨[97], 0⟩])) (by decide) (by decide) (by simp [bankB]) (by simp) hrow s1).mono ?_)
      intro r w2 h2
      have hl : (loadF 1 [⟨bankB, 0⟩, ⟨[97], 0⟩] 0).1 = 141 := by decide +kernel
      rw [hl] at h2
      simp only [if_neg (show ¬ (141 : Int) = 0 by decide)] at h2
      obtain ⟨rfl, s2⟩ := h2
      simp
      simpa using fin 141 w2 rfl s2.drop
    · simp
      refine eff_call ((Load_spec 1 [] 4611686018427387905 (.slice none 0 0) w0 w' _ (by decide) (by decide) (by simp) (by simp) (row_none _ _) s).mono ?_)
      intro r w1 h1
      have hl : (loadF 1 [] 4611686018427387905).1 = 144 := by decide +kernel
      rw [hl] at h1
      simp only [if_neg (show ¬ (144 : Int) = 0 by decide)] at h1
      obtain ⟨rfl, s1⟩ := h1
      simp
      simpa using fin 144 w1 rfl s1
  simp at h
  simp
  refine hE _ _ _ ?_
  simp
  have hi6 : i = 6 := by omega
  subst hi6
  refine eff_call ((New_spec 0 w0 w' _ s).mono ?_)
  intro r w1 h1
  rw [if_neg (by decide)] at h1
  obtain ⟨rfl, s1⟩ := h1
  simp
  refine eff_call ((New_spec 65 w0 w1 _ s1).mono ?_)
  intro r w2 h2
  rw [if_neg (by decide)] at h2
  obtain ⟨rfl, s2⟩ := h2
  simp
  refine eff_bslO s2 (vs := ints KL) (ints_one _) rfl rfl (by decide) ?_
  intro kv w3 s3
  simp
  refine eff_call ((ints_spec KL KL lv kv w0 w3 (A * own 3 1 lv 6 (ints (KL.take 6)) * own 3 1 kv 6 (ints KL)) (by decide) (row_in (e := 3) (B := A * own 3 1 kv 6 (ints KL)) s3 (by ac_rfl)) (row_own s3) s3).mono ?_)
  rintro r w4 ⟨rfl, s4⟩
  simp
  refine eff_call ((nothing_spec w0 w4 _ s4).mono ?_)
  rintro r w5 ⟨rfl, s5⟩
  simp
  exact s5.drop.drop
set_option maxHeartbeats 2000000 in
theorem known_walk (w0 w : World) (A : Asn) (s : St w0 A w) :
    CallW Try.prog 5 [] (fun r w' => r = .bool true ∧ St w0 A w') w := by
  refine callW_of_lift l5_ok (by simp [l5]) ?_
  simp [l5]
  refine eff_call ((awake_spec w0 w A s).mono ?_)
  rintro r w1 ⟨rfl, s1⟩
  simp
  refine eff_call ((given_spec w0 w1 A s1).mono ?_)
  rintro r x0 ⟨p, gv, rfl, s2⟩
  simp
  have t0 := s2.drop
  clear s s1 s2
  refine eff_call ((Take_spec p G7 1 50 w0 x0 A (bd_of (by decide +kernel)) (by decide) t0).mono ?_)
  rintro r x1 ⟨rfl, t1⟩
  rw [show takeF G7 1 50 = (0, H1) by decide +kernel] at t1 ⊢
  simp
  refine eff_call ((Take_spec p H1 1 21 w0 x1 A (bd_of (by decide +kernel)) (by decide) t1).mono ?_)
  rintro r x2 ⟨rfl, t2⟩
  rw [show takeF H1 1 21 = (143, H1) by decide +kernel] at t2 ⊢
  simp
  refine eff_call ((Put_spec p H1 2 51 w0 x2 A (bd_of (by decide +kernel)) (by decide) t2).mono ?_)
  rintro r x3 ⟨rfl, t3⟩
  rw [show putF H1 2 51 = (143, H1) by decide +kernel] at t3 ⊢
  simp
  refine eff_call ((Put_spec p H1 2 20 w0 x3 A (bd_of (by decide +kernel)) (by decide) t3).mono ?_)
  rintro r x4 ⟨rfl, t4⟩
  rw [show putF H1 2 20 = (0, H2) by decide +kernel] at t4 ⊢
  simp
  refine eff_call ((Get_spec p H2 1 w0 x4 A (by decide) t4).mono ?_)
  rintro r x5 ⟨rfl, t5⟩
  rw [show getF H2 1 = (⟨[65, 110, 110], 20⟩, 0) by decide +kernel]
  simp
  refine eff_new t5 ?_
  intro b1 x6 t6
  simp
  refine eff_stA (vs := Ac.cs ⟨[65, 110, 110], 20⟩) t6 rfl rfl (cs_one _) (by simp) ?_
  intro x7 t7
  have t7 : St w0 (A * pur p H2 * pt b1 (.cells (Ac.cs ⟨[65, 110, 110], 20⟩).toArray 66 (0, 0))) x7 := by simpa using t7
  simp
  refine eff_call ((Get_spec p H2 2 w0 x7 (A * pt b1 (.cells (Ac.cs ⟨[65, 110, 110], 20⟩).toArray 66 (0, 0))) (by decide) t7.swap).mono ?_)
  rintro r x8 ⟨rfl, t8⟩
  rw [show getF H2 2 = (⟨[66, 111, 98], 50⟩, 0) by decide +kernel]
  simp
  refine eff_new t8 ?_
  intro b2 x9 t9
  simp
  refine eff_stA (vs := Ac.cs ⟨[66, 111, 98], 50⟩) t9 rfl rfl (cs_one _) (by simp) ?_
  intro x10 t10
  have t10 : St w0 (A * pt b1 (.cells (Ac.cs ⟨[65, 110, 110], 20⟩).toArray 66 (0, 0)) * pt b2 (.cells (Ac.cs ⟨[66, 111, 98], 50⟩).toArray 66 (0, 0)) * pur p H2) x10 := by
    have : St w0 (A * pt b1 (.cells (Ac.cs ⟨[65, 110, 110], 20⟩).toArray 66 (0, 0)) * pur p H2 * pt b2 (.cells (Ac.cs ⟨[66, 111, 98], 50⟩).toArray 66 (0, 0))) x10 := by simpa using t10
    exact this.swap
  simp
  refine eff_call ((Held_spec p H2 w0 x10 _ t10).mono ?_)
  rintro r x11 ⟨rfl, t11⟩
  simp [H2]
  refine eff_call ((Supply_spec p H2 w0 x11 _ t11).mono ?_)
  rintro r x12 ⟨rfl, t12⟩
  simp [H2]
  refine eff_ldc (v := .int .u64 20) (by rw [cell_of t12.drop.drop.look]; rfl) ?_
  simp
  refine eff_ldc (v := .int .u64 50) (by rw [cell_of t12.drop.look]; rfl) ?_
  simp
  refine eff_ldc (v := .string (mk [66, 111, 98])) (by rw [cell_of t12.drop.look]; rfl) ?_
  simp
  have f1 : askN (keyF [98, 79, 66]) (keys H2.rows) = 2 ∧ askB (keyF [98, 79, 66]) (keys H2.rows) = true := by decide +kernel
  have f2 : askB (keyF [66, 48, 98]) (keys H2.rows) = false := by decide +kernel
  have f3 : askB (keyF []) (keys H2.rows) = false := by decide +kernel
  have f4 : nearF H2.rows [66, 48, 98] 0 = [2] := by decide +kernel
  refine eff_call ((Find_spec p H2 [98, 79, 66] w0 x12 _ (by decide) t12).mono ?_)
  rintro r x13 ⟨rfl, t13⟩
  rw [f1.1, f1.2]
  simp
  refine eff_call ((Find_spec p H2 [66, 48, 98] w0 x13 _ (by decide) t13).mono ?_)
  rintro r x14 ⟨rfl, t14⟩
  rw [f2]
  simp
  refine eff_call ((Find_spec p H2 [] w0 x14 _ (by decide) t14).mono ?_)
  rintro r x15 ⟨rfl, t15⟩
  rw [f3]
  simp
  refine eff_call ((Near_spec p H2 [66, 48, 98] w0 x15 _ (by decide) (by decide) (by decide) t15).mono ?_)
  intro nv x16 t16
  rw [f4] at t16
  simp
  refine eff_bslO t16 (vs := ints [2]) (ints_one _) rfl rfl (by decide) ?_
  intro kv x17 t17
  simp
  refine eff_call ((ints_spec [2] [2] nv kv w0 x17 _ (by decide) (row_in (e := 3) (B := A * pt b1 (.cells (Ac.cs ⟨[65, 110, 110], 20⟩).toArray 66 (0, 0)) * pt b2 (.cells (Ac.cs ⟨[66, 111, 98], 50⟩).toArray 66 (0, 0)) * pur p H2 * own 3 1 kv 1 (ints [2])) t17 (by ac_rfl)) (row_own t17) t17).mono ?_)
  rintro r x18 ⟨rfl, t18⟩
  simp
  simpa using known_tail _ _ _ _ _ _ _ _ _ _ _ _ _ w0 x18 A t18.drop.drop.drop.drop.drop
end Go.HL.Pu
