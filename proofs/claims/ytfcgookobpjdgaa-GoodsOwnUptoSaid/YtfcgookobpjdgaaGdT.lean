/-
  Goods by the document: Get, Of, In, Kinds, Rows, Copy, Load. Conditions: items that stand right.
-/
import Derived.Test.YtfcgookobpjdgaaGdS
namespace Go.HL.Gd
open Go.HL Go.Proofs
set_option maxRecDepth 4000
set_option linter.unusedSimpArgs false
set_option linter.unusedVariables false
-- (*bazaar/bazaarref15.Goods).Get
def h48_0 : HC := (.seq (.reg (.chk none .chkp (.cons (.inp 0) .nil) (.chk none (.fld 1) (.cons (.op .chkp (.cons (.inp 0) .nil)) .nil) (.eff (.ld false 1) (.cons (.op (.fld 1) (.cons (.op .chkp (.cons (.inp 0) .nil)) .nil)) .nil) (.chk none (.idxL 4) (.cons (.bv 0) (.cons (.inp 4) .nil)) (.eff (.ld true 4) (.cons (.op (.idxL 4) (.cons (.bv 0) (.cons (.inp 4) .nil))) .nil) (.eff (.st 4) (.cons (.inp 2) (.cons (.bv 1) .nil)) (.done [(3, (.cst (.int .i64 0)))] none)))))))) .ret)
@[simp] theorem h48_0_wp {P : Program} {F : PF P} {Q : EX → List Value → World → Prop} {env : List Value} {w : World} : h48_0.wp F Q env w = HC.wp F (.seq (.reg (.chk none .chkp (.cons (.inp 0) .nil) (.chk none (.fld 1) (.cons (.op .chkp (.cons (.inp 0) .nil)) .nil) (.eff (.ld false 1) (.cons (.op (.fld 1) (.cons (.op .chkp (.cons (.inp 0) .nil)) .nil)) .nil) (.chk none (.idxL 4) (.cons (.bv 0) (.cons (.inp 4) .nil)) (.eff (.ld true 4) (.cons (.op (.idxL 4) (.cons (.bv 0) (.cons (.inp 4) .nil))) .nil) (.eff (.st 4) (.cons (.inp 2) (.cons (.bv 1) .nil)) (.done [(3, (.cst (.int .i64 0)))] none)))))))) .ret) Q env w := rfl
def h48_1 : HC := (.seq (.reg (.chk none (.build #[(.int .i64 0), (.int .i64 0), (.int .i64 0), (.int .i64 0)] [(0, 1), (1, 1), (2, 1), (3, 1)] []) .nil (.eff (.st 4) (.cons (.inp 2) (.cons (.op (.build #[(.int .i64 0), (.int .i64 0), (.int .i64 0), (.int .i64 0)] [(0, 1), (1, 1), (2, 1), (3, 1)] []) .nil) .nil)) (.done [(3, (.cst (.int .i64 151)))] none)))) .ret)
@[simp] theorem h48_1_wp {P : Program} {F : PF P} {Q : EX → List Value → World → Prop} {env : List Value} {w : World} : h48_1.wp F Q env w = HC.wp F (.seq (.reg (.chk none (.build #[(.int .i64 0), (.int .i64 0), (.int .i64 0), (.int .i64 0)] [(0, 1), (1, 1), (2, 1), (3, 1)] []) .nil (.eff (.st 4) (.cons (.inp 2) (.cons (.op (.build #[(.int .i64 0), (.int .i64 0), (.int .i64 0), (.int .i64 0)] [(0, 1), (1, 1), (2, 1), (3, 1)] []) .nil) .nil)) (.done [(3, (.cst (.int .i64 151)))] none)))) .ret) Q env w := rfl
def h48_2 : HC := (.seq (.br (.chk none (.bin .lss) (.cons (.inp 4) (.cons (.cst (.int .i64 0)) .nil)) (.done [] (some (.op (.bin .lss) (.cons (.inp 4) (.cons (.cst (.int .i64 0)) .nil)))))) h48_1 .skip) h48_0)
@[simp] theorem h48_2_wp {P : Program} {F : PF P} {Q : EX → List Value → World → Prop} {env : List Value} {w : World} : h48_2.wp F Q env w = HC.wp F (.seq (.br (.chk none (.bin .lss) (.cons (.inp 4) (.cons (.cst (.int .i64 0)) .nil)) (.done [] (some (.op (.bin .lss) (.cons (.inp 4) (.cons (.cst (.int .i64 0)) .nil)))))) h48_1 .skip) h48_0) Q env w := rfl
def h48_3 : HC := (.seq (.reg (.eff (.call 54) (.cons (.inp 0) (.cons (.inp 1) .nil)) (.done [(4, (.bv 0))] none))) h48_2)
@[simp] theorem h48_3_wp {P : Program} {F : PF P} {Q : EX → List Value → World → Prop} {env : List Value} {w : World} : h48_3.wp F Q env w = HC.wp F (.seq (.reg (.eff (.call 54) (.cons (.inp 0) (.cons (.inp 1) .nil)) (.done [(4, (.bv 0))] none))) h48_2) Q env w := rfl
def h48_4 : HC := (.seq (.reg (.chk none (.build #[(.int .i64 0), (.int .i64 0), (.int .i64 0), (.int .i64 0)] [(0, 1), (1, 1), (2, 1), (3, 1)] []) .nil (.eff (.st 4) (.cons (.inp 2) (.cons (.op (.build #[(.int .i64 0), (.int .i64 0), (.int .i64 0), (.int .i64 0)] [(0, 1), (1, 1), (2, 1), (3, 1)] []) .nil) .nil)) (.done [(3, (.cst (.int .i64 1)))] none)))) .ret)
@[simp] theorem h48_4_wp {P : Program} {F : PF P} {Q : EX → List Value → World → Prop} {env : List Value} {w : World} : h48_4.wp F Q env w = HC.wp F (.seq (.reg (.chk none (.build #[(.int .i64 0), (.int .i64 0), (.int .i64 0), (.int .i64 0)] [(0, 1), (1, 1), (2, 1), (3, 1)] []) .nil (.eff (.st 4) (.cons (.inp 2) (.cons (.op (.build #[(.int .i64 0), (.int .i64 0), (.int .i64 0), (.int .i64 0)] [(0, 1), (1, 1), (2, 1), (3, 1)] []) .nil) .nil)) (.done [(3, (.cst (.int .i64 1)))] none)))) .ret) Q env w := rfl
def h48_5 : HC := (.seq (.br (.chk none (.eqNil false (.pointer 84) (.pointer none)) (.cons (.inp 0) .nil) (.done [] (some (.op (.eqNil false (.pointer 84) (.pointer none)) (.cons (.inp 0) .nil))))) h48_4 .skip) h48_3)
@[simp] theorem h48_5_wp {P : Program} {F : PF P} {Q : EX → List Value → World → Prop} {env : List Value} {w : World} : h48_5.wp F Q env w = HC.wp F (.seq (.br (.chk none (.eqNil false (.pointer 84) (.pointer none)) (.cons (.inp 0) .nil) (.done [] (some (.op (.eqNil false (.pointer 84) (.pointer none)) (.cons (.inp 0) .nil))))) h48_4 .skip) h48_3) Q env w := rfl
def l48 : Lifted := ⟨[0, 1, 4, 5, 6], 23, [.cell 2 true 4, .slot 3], (.seq (.reg (.eff (.new 44 (.agg #[(.int .i64 0), (.int .i64 0), (.int .i64 0), (.int .i64 0)])) .nil (.done [(2, (.bv 0)), (3, (.cst (.int .i64 0)))] none))) h48_5)⟩
theorem l48_ok : liftFn G2 48 400 = some l48 := by kernel_rfl

-- (*bazaar/bazaarref15.Goods).Of
def h49_0 : HC := (.seq (.reg (.done [(2, (.inp 3))] none)) .ret)
@[simp] theorem h49_0_wp {P : Program} {F : PF P} {Q : EX → List Value → World → Prop} {env : List Value} {w : World} : h49_0.wp F Q env w = HC.wp F (.seq (.reg (.done [(2, (.inp 3))] none)) .ret) Q env w := rfl
def h49_1 : HC := (.reg (.chk none (.bin .add) (.cons (.inp 4) (.cons (.cst (.int .i64 1)) .nil)) (.done [(4, (.op (.bin .add) (.cons (.inp 4) (.cons (.cst (.int .i64 1)) .nil))))] none)))
@[simp] theorem h49_1_wp {P : Program} {F : PF P} {Q : EX → List Value → World → Prop} {env : List Value} {w : World} : h49_1.wp F Q env w = HC.wp F (.reg (.chk none (.bin .add) (.cons (.inp 4) (.cons (.cst (.int .i64 1)) .nil)) (.done [(4, (.op (.bin .add) (.cons (.inp 4) (.cons (.cst (.int .i64 1)) .nil))))] none))) Q env w := rfl
def h49_2 : HC := (.reg (.chk none .chkp (.cons (.inp 0) .nil) (.chk none (.fld 1) (.cons (.op .chkp (.cons (.inp 0) .nil)) .nil) (.eff (.ld false 1) (.cons (.op (.fld 1) (.cons (.op .chkp (.cons (.inp 0) .nil)) .nil)) .nil) (.chk none (.idxL 4) (.cons (.bv 0) (.cons (.inp 4) .nil)) (.chk none (.fld 0) (.cons (.op (.idxL 4) (.cons (.bv 0) (.cons (.inp 4) .nil))) .nil) (.eff (.ld false 1) (.cons (.op (.fld 0) (.cons (.op (.idxL 4) (.cons (.bv 0) (.cons (.inp 4) .nil))) .nil)) .nil) (.eff (.bsl 3 1 1 #[(.int .i64 0)] [0]) (.cons (.bv 1) .nil) (.eff (.app 46 46 3 1 8 (.int .i64 0)) (.cons (.inp 3) (.cons (.bv 2) .nil)) (.done [(3, (.bv 3))] none))))))))))
@[simp] theorem h49_2_wp {P : Program} {F : PF P} {Q : EX → List Value → World → Prop} {env : List Value} {w : World} : h49_2.wp F Q env w = HC.wp F (.reg (.chk none .chkp (.cons (.inp 0) .nil) (.chk none (.fld 1) (.cons (.op .chkp (.cons (.inp 0) .nil)) .nil) (.eff (.ld false 1) (.cons (.op (.fld 1) (.cons (.op .chkp (.cons (.inp 0) .nil)) .nil)) .nil) (.chk none (.idxL 4) (.cons (.bv 0) (.cons (.inp 4) .nil)) (.chk none (.fld 0) (.cons (.op (.idxL 4) (.cons (.bv 0) (.cons (.inp 4) .nil))) .nil) (.eff (.ld false 1) (.cons (.op (.fld 0) (.cons (.op (.idxL 4) (.cons (.bv 0) (.cons (.inp 4) .nil))) .nil)) .nil) (.eff (.bsl 3 1 1 #[(.int .i64 0)] [0]) (.cons (.bv 1) .nil) (.eff (.app 46 46 3 1 8 (.int .i64 0)) (.cons (.inp 3) (.cons (.bv 2) .nil)) (.done [(3, (.bv 3))] none)))))))))) Q env w := rfl
def h49_3 : HC := (.br (.chk none .chkp (.cons (.inp 0) .nil) (.chk none (.fld 1) (.cons (.op .chkp (.cons (.inp 0) .nil)) .nil) (.eff (.ld false 1) (.cons (.op (.fld 1) (.cons (.op .chkp (.cons (.inp 0) .nil)) .nil)) .nil) (.chk none (.idxL 4) (.cons (.bv 0) (.cons (.inp 4) .nil)) (.chk none (.fld 3) (.cons (.op (.idxL 4) (.cons (.bv 0) (.cons (.inp 4) .nil))) .nil) (.eff (.ld false 1) (.cons (.op (.fld 3) (.cons (.op (.idxL 4) (.cons (.bv 0) (.cons (.inp 4) .nil))) .nil)) .nil) (.chk none (.bin .eql) (.cons (.bv 1) (.cons (.cst (.int .i64 0)) .nil)) (.bnd (.op (.bin .eql) (.cons (.bv 1) (.cons (.cst (.int .i64 0)) .nil))) (.chk (some ((.bv 2), true)) .chkp (.cons (.inp 0) .nil) (.chk (some ((.bv 2), true)) (.fld 1) (.cons (.op .chkp (.cons (.inp 0) .nil)) .nil) (.ite (.bv 2) true (.eff (.ld false 1) (.cons (.ite (.bv 2) true (.op (.fld 1) (.cons (.op .chkp (.cons (.inp 0) .nil)) .nil)) (.cst (.tuple #[]))) .nil) (.chk none (.idxL 4) (.cons (.bv 3) (.cons (.inp 4) .nil)) (.chk none (.fld 2) (.cons (.op (.idxL 4) (.cons (.bv 3) (.cons (.inp 4) .nil))) .nil) (.eff (.ld false 1) (.cons (.op (.fld 2) (.cons (.op (.idxL 4) (.cons (.bv 3) (.cons (.inp 4) .nil))) .nil)) .nil) (.chk none (.bin .eql) (.cons (.bv 4) (.cons (.inp 1) .nil)) (.isb none (.bv 2) (.done [] (some (.op (.bin .eql) (.cons (.bv 4) (.cons (.inp 1) .nil))))))))))) (.isb none (.bv 2) (.done [] (some (.cst (.bool false)))))))))))))))) h49_2 .skip)
@[simp] theorem h49_3_wp {P : Program} {F : PF P} {Q : EX → List Value → World → Prop} {env : List Value} {w : World} : h49_3.wp F Q env w = HC.wp F (.br (.chk none .chkp (.cons (.inp 0) .nil) (.chk none (.fld 1) (.cons (.op .chkp (.cons (.inp 0) .nil)) .nil) (.eff (.ld false 1) (.cons (.op (.fld 1) (.cons (.op .chkp (.cons (.inp 0) .nil)) .nil)) .nil) (.chk none (.idxL 4) (.cons (.bv 0) (.cons (.inp 4) .nil)) (.chk none (.fld 3) (.cons (.op (.idxL 4) (.cons (.bv 0) (.cons (.inp 4) .nil))) .nil) (.eff (.ld false 1) (.cons (.op (.fld 3) (.cons (.op (.idxL 4) (.cons (.bv 0) (.cons (.inp 4) .nil))) .nil)) .nil) (.chk none (.bin .eql) (.cons (.bv 1) (.cons (.cst (.int .i64 0)) .nil)) (.bnd (.op (.bin .eql) (.cons (.bv 1) (.cons (.cst (.int .i64 0)) .nil))) (.chk (some ((.bv 2), true)) .chkp (.cons (.inp 0) .nil) (.chk (some ((.bv 2), true)) (.fld 1) (.cons (.op .chkp (.cons (.inp 0) .nil)) .nil) (.ite (.bv 2) true (.eff (.ld false 1) (.cons (.ite (.bv 2) true (.op (.fld 1) (.cons (.op .chkp (.cons (.inp 0) .nil)) .nil)) (.cst (.tuple #[]))) .nil) (.chk none (.idxL 4) (.cons (.bv 3) (.cons (.inp 4) .nil)) (.chk none (.fld 2) (.cons (.op (.idxL 4) (.cons (.bv 3) (.cons (.inp 4) .nil))) .nil) (.eff (.ld false 1) (.cons (.op (.fld 2) (.cons (.op (.idxL 4) (.cons (.bv 3) (.cons (.inp 4) .nil))) .nil)) .nil) (.chk none (.bin .eql) (.cons (.bv 4) (.cons (.inp 1) .nil)) (.isb none (.bv 2) (.done [] (some (.op (.bin .eql) (.cons (.bv 4) (.cons (.inp 1) .nil))))))))))) (.isb none (.bv 2) (.done [] (some (.cst (.bool false)))))))))))))))) h49_2 .skip) Q env w := rfl
def h49_4 : HC := (.seq (.block 1 h49_3) h49_1)
@[simp] theorem h49_4_wp {P : Program} {F : PF P} {Q : EX → List Value → World → Prop} {env : List Value} {w : World} : h49_4.wp F Q env w = HC.wp F (.seq (.block 1 h49_3) h49_1) Q env w := rfl
def h49_5 : HC := (.seq (.br (.chk none .chkp (.cons (.inp 0) .nil) (.chk none (.fld 1) (.cons (.op .chkp (.cons (.inp 0) .nil)) .nil) (.eff (.ld false 1) (.cons (.op (.fld 1) (.cons (.op .chkp (.cons (.inp 0) .nil)) .nil)) .nil) (.chk none .lenL (.cons (.bv 0) .nil) (.chk none (.bin .lss) (.cons (.inp 4) (.cons (.op .lenL (.cons (.bv 0) .nil)) .nil)) (.done [] (some (.op (.bin .lss) (.cons (.inp 4) (.cons (.op .lenL (.cons (.bv 0) .nil)) .nil)))))))))) .skip (.exit 0)) h49_4)
@[simp] theorem h49_5_wp {P : Program} {F : PF P} {Q : EX → List Value → World → Prop} {env : List Value} {w : World} : h49_5.wp F Q env w = HC.wp F (.seq (.br (.chk none .chkp (.cons (.inp 0) .nil) (.chk none (.fld 1) (.cons (.op .chkp (.cons (.inp 0) .nil)) .nil) (.eff (.ld false 1) (.cons (.op (.fld 1) (.cons (.op .chkp (.cons (.inp 0) .nil)) .nil)) .nil) (.chk none .lenL (.cons (.bv 0) .nil) (.chk none (.bin .lss) (.cons (.inp 4) (.cons (.op .lenL (.cons (.bv 0) .nil)) .nil)) (.done [] (some (.op (.bin .lss) (.cons (.inp 4) (.cons (.op .lenL (.cons (.bv 0) .nil)) .nil)))))))))) .skip (.exit 0)) h49_4) Q env w := rfl
def h49_6 : HC := (.loop h49_5)
@[simp] theorem h49_6_wp {P : Program} {F : PF P} {Q : EX → List Value → World → Prop} {env : List Value} {w : World} : h49_6.wp F Q env w = HC.wp F (.loop h49_5) Q env w := rfl
def h49_7 : HC := (.seq (.block 0 h49_6) h49_0)
@[simp] theorem h49_7_wp {P : Program} {F : PF P} {Q : EX → List Value → World → Prop} {env : List Value} {w : World} : h49_7.wp F Q env w = HC.wp F (.seq (.block 0 h49_6) h49_0) Q env w := rfl
def h49_8 : HC := (.seq (.reg (.done [(4, (.cst (.int .i64 0)))] none)) h49_7)
@[simp] theorem h49_8_wp {P : Program} {F : PF P} {Q : EX → List Value → World → Prop} {env : List Value} {w : World} : h49_8.wp F Q env w = HC.wp F (.seq (.reg (.done [(4, (.cst (.int .i64 0)))] none)) h49_7) Q env w := rfl
def h49_9 : HC := (.seq (.reg (.done [(2, (.inp 3))] none)) .ret)
@[simp] theorem h49_9_wp {P : Program} {F : PF P} {Q : EX → List Value → World → Prop} {env : List Value} {w : World} : h49_9.wp F Q env w = HC.wp F (.seq (.reg (.done [(2, (.inp 3))] none)) .ret) Q env w := rfl
def h49_10 : HC := (.seq (.br (.chk none (.eqNil false (.pointer 84) (.pointer none)) (.cons (.inp 0) .nil) (.done [] (some (.op (.eqNil false (.pointer 84) (.pointer none)) (.cons (.inp 0) .nil))))) h49_9 .skip) h49_8)
@[simp] theorem h49_10_wp {P : Program} {F : PF P} {Q : EX → List Value → World → Prop} {env : List Value} {w : World} : h49_10.wp F Q env w = HC.wp F (.seq (.br (.chk none (.eqNil false (.pointer 84) (.pointer none)) (.cons (.inp 0) .nil) (.done [] (some (.op (.eqNil false (.pointer 84) (.pointer none)) (.cons (.inp 0) .nil))))) h49_9 .skip) h49_8) Q env w := rfl
def h49_11 : HC := (.seq (.reg (.done [(3, (.cst (.slice none 0 0)))] none)) h49_10)
@[simp] theorem h49_11_wp {P : Program} {F : PF P} {Q : EX → List Value → World → Prop} {env : List Value} {w : World} : h49_11.wp F Q env w = HC.wp F (.seq (.reg (.done [(3, (.cst (.slice none 0 0)))] none)) h49_10) Q env w := rfl
def l49 : Lifted := ⟨[0, 1, 4, 5, 6], 52, [.slot 2], (.seq (.reg (.done [(2, (.cst (.slice none 0 0)))] none)) h49_11)⟩
theorem l49_ok : liftFn G2 49 400 = some l49 := by kernel_rfl

-- (*bazaar/bazaarref15.Goods).In
def h50_0 : HC := (.seq (.reg (.done [(2, (.inp 3))] none)) .ret)
@[simp] theorem h50_0_wp {P : Program} {F : PF P} {Q : EX → List Value → World → Prop} {env : List Value} {w : World} : h50_0.wp F Q env w = HC.wp F (.seq (.reg (.done [(2, (.inp 3))] none)) .ret) Q env w := rfl
def h50_1 : HC := (.reg (.chk none (.bin .add) (.cons (.inp 4) (.cons (.cst (.int .i64 1)) .nil)) (.done [(4, (.op (.bin .add) (.cons (.inp 4) (.cons (.cst (.int .i64 1)) .nil))))] none)))
@[simp] theorem h50_1_wp {P : Program} {F : PF P} {Q : EX → List Value → World → Prop} {env : List Value} {w : World} : h50_1.wp F Q env w = HC.wp F (.reg (.chk none (.bin .add) (.cons (.inp 4) (.cons (.cst (.int .i64 1)) .nil)) (.done [(4, (.op (.bin .add) (.cons (.inp 4) (.cons (.cst (.int .i64 1)) .nil))))] none))) Q env w := rfl
def h50_2 : HC := (.reg (.chk none .chkp (.cons (.inp 0) .nil) (.chk none (.fld 1) (.cons (.op .chkp (.cons (.inp 0) .nil)) .nil) (.eff (.ld false 1) (.cons (.op (.fld 1) (.cons (.op .chkp (.cons (.inp 0) .nil)) .nil)) .nil) (.chk none (.idxL 4) (.cons (.bv 0) (.cons (.inp 4) .nil)) (.chk none (.fld 0) (.cons (.op (.idxL 4) (.cons (.bv 0) (.cons (.inp 4) .nil))) .nil) (.eff (.ld false 1) (.cons (.op (.fld 0) (.cons (.op (.idxL 4) (.cons (.bv 0) (.cons (.inp 4) .nil))) .nil)) .nil) (.eff (.bsl 3 1 1 #[(.int .i64 0)] [0]) (.cons (.bv 1) .nil) (.eff (.app 46 46 3 1 8 (.int .i64 0)) (.cons (.inp 3) (.cons (.bv 2) .nil)) (.done [(3, (.bv 3))] none))))))))))
@[simp] theorem h50_2_wp {P : Program} {F : PF P} {Q : EX → List Value → World → Prop} {env : List Value} {w : World} : h50_2.wp F Q env w = HC.wp F (.reg (.chk none .chkp (.cons (.inp 0) .nil) (.chk none (.fld 1) (.cons (.op .chkp (.cons (.inp 0) .nil)) .nil) (.eff (.ld false 1) (.cons (.op (.fld 1) (.cons (.op .chkp (.cons (.inp 0) .nil)) .nil)) .nil) (.chk none (.idxL 4) (.cons (.bv 0) (.cons (.inp 4) .nil)) (.chk none (.fld 0) (.cons (.op (.idxL 4) (.cons (.bv 0) (.cons (.inp 4) .nil))) .nil) (.eff (.ld false 1) (.cons (.op (.fld 0) (.cons (.op (.idxL 4) (.cons (.bv 0) (.cons (.inp 4) .nil))) .nil)) .nil) (.eff (.bsl 3 1 1 #[(.int .i64 0)] [0]) (.cons (.bv 1) .nil) (.eff (.app 46 46 3 1 8 (.int .i64 0)) (.cons (.inp 3) (.cons (.bv 2) .nil)) (.done [(3, (.bv 3))] none)))))))))) Q env w := rfl
def h50_3 : HC := (.br (.chk none (.bin .gtr) (.cons (.inp 1) (.cons (.cst (.int .i64 0)) .nil)) (.bnd (.op (.bin .gtr) (.cons (.inp 1) (.cons (.cst (.int .i64 0)) .nil))) (.chk (some ((.bv 0), true)) .chkp (.cons (.inp 0) .nil) (.chk (some ((.bv 0), true)) (.fld 1) (.cons (.op .chkp (.cons (.inp 0) .nil)) .nil) (.ite (.bv 0) true (.eff (.ld false 1) (.cons (.ite (.bv 0) true (.op (.fld 1) (.cons (.op .chkp (.cons (.inp 0) .nil)) .nil)) (.cst (.tuple #[]))) .nil) (.chk none (.idxL 4) (.cons (.bv 1) (.cons (.inp 4) .nil)) (.chk none (.fld 3) (.cons (.op (.idxL 4) (.cons (.bv 1) (.cons (.inp 4) .nil))) .nil) (.eff (.ld false 1) (.cons (.op (.fld 3) (.cons (.op (.idxL 4) (.cons (.bv 1) (.cons (.inp 4) .nil))) .nil)) .nil) (.chk none (.bin .eql) (.cons (.bv 2) (.cons (.inp 1) .nil)) (.isb none (.bv 0) (.done [] (some (.op (.bin .eql) (.cons (.bv 2) (.cons (.inp 1) .nil))))))))))) (.isb none (.bv 0) (.done [] (some (.cst (.bool false)))))))))) h50_2 .skip)
@[simp] theorem h50_3_wp {P : Program} {F : PF P} {Q : EX → List Value → World → Prop} {env : List Value} {w : World} : h50_3.wp F Q env w = HC.wp F (.br (.chk none (.bin .gtr) (.cons (.inp 1) (.cons (.cst (.int .i64 0)) .nil)) (.bnd (.op (.bin .gtr) (.cons (.inp 1) (.cons (.cst (.int .i64 0)) .nil))) (.chk (some ((.bv 0), true)) .chkp (.cons (.inp 0) .nil) (.chk (some ((.bv 0), true)) (.fld 1) (.cons (.op .chkp (.cons (.inp 0) .nil)) .nil) (.ite (.bv 0) true (.eff (.ld false 1) (.cons (.ite (.bv 0) true (.op (.fld 1) (.cons (.op .chkp (.cons (.inp 0) .nil)) .nil)) (.cst (.tuple #[]))) .nil) (.chk none (.idxL 4) (.cons (.bv 1) (.cons (.inp 4) .nil)) (.chk none (.fld 3) (.cons (.op (.idxL 4) (.cons (.bv 1) (.cons (.inp 4) .nil))) .nil) (.eff (.ld false 1) (.cons (.op (.fld 3) (.cons (.op (.idxL 4) (.cons (.bv 1) (.cons (.inp 4) .nil))) .nil)) .nil) (.chk none (.bin .eql) (.cons (.bv 2) (.cons (.inp 1) .nil)) (.isb none (.bv 0) (.done [] (some (.op (.bin .eql) (.cons (.bv 2) (.cons (.inp 1) .nil))))))))))) (.isb none (.bv 0) (.done [] (some (.cst (.bool false)))))))))) h50_2 .skip) Q env w := rfl
def h50_4 : HC := (.seq (.block 1 h50_3) h50_1)
@[simp] theorem h50_4_wp {P : Program} {F : PF P} {Q : EX → List Value → World → Prop} {env : List Value} {w : World} : h50_4.wp F Q env w = HC.wp F (.seq (.block 1 h50_3) h50_1) Q env w := rfl
def h50_5 : HC := (.seq (.br (.chk none .chkp (.cons (.inp 0) .nil) (.chk none (.fld 1) (.cons (.op .chkp (.cons (.inp 0) .nil)) .nil) (.eff (.ld false 1) (.cons (.op (.fld 1) (.cons (.op .chkp (.cons (.inp 0) .nil)) .nil)) .nil) (.chk none .lenL (.cons (.bv 0) .nil) (.chk none (.bin .lss) (.cons (.inp 4) (.cons (.op .lenL (.cons (.bv 0) .nil)) .nil)) (.done [] (some (.op (.bin .lss) (.cons (.inp 4) (.cons (.op .lenL (.cons (.bv 0) .nil)) .nil)))))))))) .skip (.exit 0)) h50_4)
@[simp] theorem h50_5_wp {P : Program} {F : PF P} {Q : EX → List Value → World → Prop} {env : List Value} {w : World} : h50_5.wp F Q env w = HC.wp F (.seq (.br (.chk none .chkp (.cons (.inp 0) .nil) (.chk none (.fld 1) (.cons (.op .chkp (.cons (.inp 0) .nil)) .nil) (.eff (.ld false 1) (.cons (.op (.fld 1) (.cons (.op .chkp (.cons (.inp 0) .nil)) .nil)) .nil) (.chk none .lenL (.cons (.bv 0) .nil) (.chk none (.bin .lss) (.cons (.inp 4) (.cons (.op .lenL (.cons (.bv 0) .nil)) .nil)) (.done [] (some (.op (.bin .lss) (.cons (.inp 4) (.cons (.op .lenL (.cons (.bv 0) .nil)) .nil)))))))))) .skip (.exit 0)) h50_4) Q env w := rfl
def h50_6 : HC := (.loop h50_5)
@[simp] theorem h50_6_wp {P : Program} {F : PF P} {Q : EX → List Value → World → Prop} {env : List Value} {w : World} : h50_6.wp F Q env w = HC.wp F (.loop h50_5) Q env w := rfl
def h50_7 : HC := (.seq (.block 0 h50_6) h50_0)
@[simp] theorem h50_7_wp {P : Program} {F : PF P} {Q : EX → List Value → World → Prop} {env : List Value} {w : World} : h50_7.wp F Q env w = HC.wp F (.seq (.block 0 h50_6) h50_0) Q env w := rfl
def h50_8 : HC := (.seq (.reg (.done [(4, (.cst (.int .i64 0)))] none)) h50_7)
@[simp] theorem h50_8_wp {P : Program} {F : PF P} {Q : EX → List Value → World → Prop} {env : List Value} {w : World} : h50_8.wp F Q env w = HC.wp F (.seq (.reg (.done [(4, (.cst (.int .i64 0)))] none)) h50_7) Q env w := rfl
def h50_9 : HC := (.seq (.reg (.done [(2, (.inp 3))] none)) .ret)
@[simp] theorem h50_9_wp {P : Program} {F : PF P} {Q : EX → List Value → World → Prop} {env : List Value} {w : World} : h50_9.wp F Q env w = HC.wp F (.seq (.reg (.done [(2, (.inp 3))] none)) .ret) Q env w := rfl
def h50_10 : HC := (.seq (.br (.chk none (.eqNil false (.pointer 84) (.pointer none)) (.cons (.inp 0) .nil) (.done [] (some (.op (.eqNil false (.pointer 84) (.pointer none)) (.cons (.inp 0) .nil))))) h50_9 .skip) h50_8)
@[simp] theorem h50_10_wp {P : Program} {F : PF P} {Q : EX → List Value → World → Prop} {env : List Value} {w : World} : h50_10.wp F Q env w = HC.wp F (.seq (.br (.chk none (.eqNil false (.pointer 84) (.pointer none)) (.cons (.inp 0) .nil) (.done [] (some (.op (.eqNil false (.pointer 84) (.pointer none)) (.cons (.inp 0) .nil))))) h50_9 .skip) h50_8) Q env w := rfl
def h50_11 : HC := (.seq (.reg (.done [(3, (.cst (.slice none 0 0)))] none)) h50_10)
@[simp] theorem h50_11_wp {P : Program} {F : PF P} {Q : EX → List Value → World → Prop} {env : List Value} {w : World} : h50_11.wp F Q env w = HC.wp F (.seq (.reg (.done [(3, (.cst (.slice none 0 0)))] none)) h50_10) Q env w := rfl
def l50 : Lifted := ⟨[0, 1, 4, 5, 6], 45, [.slot 2], (.seq (.reg (.done [(2, (.cst (.slice none 0 0)))] none)) h50_11)⟩
theorem l50_ok : liftFn G2 50 400 = some l50 := by kernel_rfl

-- (*bazaar/bazaarref15.Goods).Kinds
def h51_0 : HC := (.seq (.reg (.eff (.ld true 16) (.cons (.inp 3) .nil) (.eff (.st 16) (.cons (.inp 2) (.cons (.bv 0) .nil)) (.done [] none)))) .ret)
@[simp] theorem h51_0_wp {P : Program} {F : PF P} {Q : EX → List Value → World → Prop} {env : List Value} {w : World} : h51_0.wp F Q env w = HC.wp F (.seq (.reg (.eff (.ld true 16) (.cons (.inp 3) .nil) (.eff (.st 16) (.cons (.inp 2) (.cons (.bv 0) .nil)) (.done [] none)))) .ret) Q env w := rfl
def h51_1 : HC := (.reg (.chk none (.bin .add) (.cons (.inp 4) (.cons (.cst (.int .i64 1)) .nil)) (.done [(4, (.op (.bin .add) (.cons (.inp 4) (.cons (.cst (.int .i64 1)) .nil))))] none)))
@[simp] theorem h51_1_wp {P : Program} {F : PF P} {Q : EX → List Value → World → Prop} {env : List Value} {w : World} : h51_1.wp F Q env w = HC.wp F (.reg (.chk none (.bin .add) (.cons (.inp 4) (.cons (.cst (.int .i64 1)) .nil)) (.done [(4, (.op (.bin .add) (.cons (.inp 4) (.cons (.cst (.int .i64 1)) .nil))))] none))) Q env w := rfl
def h51_2 : HC := (.reg (.chk none .chkp (.cons (.inp 0) .nil) (.chk none (.fld 1) (.cons (.op .chkp (.cons (.inp 0) .nil)) .nil) (.eff (.ld false 1) (.cons (.op (.fld 1) (.cons (.op .chkp (.cons (.inp 0) .nil)) .nil)) .nil) (.chk none (.idxL 4) (.cons (.bv 0) (.cons (.inp 4) .nil)) (.chk none (.fld 1) (.cons (.op (.idxL 4) (.cons (.bv 0) (.cons (.inp 4) .nil))) .nil) (.eff (.ld false 1) (.cons (.op (.fld 1) (.cons (.op (.idxL 4) (.cons (.bv 0) (.cons (.inp 4) .nil))) .nil)) .nil) (.chk none (.idxP 16 1) (.cons (.inp 3) (.cons (.bv 1) .nil)) (.eff (.ld false 1) (.cons (.op (.idxP 16 1) (.cons (.inp 3) (.cons (.bv 1) .nil))) .nil) (.chk none (.bin .add) (.cons (.bv 2) (.cons (.cst (.int .i64 1)) .nil)) (.chk none (.idxP 16 1) (.cons (.inp 3) (.cons (.bv 1) .nil)) (.eff (.st 1) (.cons (.op (.idxP 16 1) (.cons (.inp 3) (.cons (.bv 1) .nil))) (.cons (.op (.bin .add) (.cons (.bv 2) (.cons (.cst (.int .i64 1)) .nil))) .nil)) (.done [] none)))))))))))))
@[simp] theorem h51_2_wp {P : Program} {F : PF P} {Q : EX → List Value → World → Prop} {env : List Value} {w : World} : h51_2.wp F Q env w = HC.wp F (.reg (.chk none .chkp (.cons (.inp 0) .nil) (.chk none (.fld 1) (.cons (.op .chkp (.cons (.inp 0) .nil)) .nil) (.eff (.ld false 1) (.cons (.op (.fld 1) (.cons (.op .chkp (.cons (.inp 0) .nil)) .nil)) .nil) (.chk none (.idxL 4) (.cons (.bv 0) (.cons (.inp 4) .nil)) (.chk none (.fld 1) (.cons (.op (.idxL 4) (.cons (.bv 0) (.cons (.inp 4) .nil))) .nil) (.eff (.ld false 1) (.cons (.op (.fld 1) (.cons (.op (.idxL 4) (.cons (.bv 0) (.cons (.inp 4) .nil))) .nil)) .nil) (.chk none (.idxP 16 1) (.cons (.inp 3) (.cons (.bv 1) .nil)) (.eff (.ld false 1) (.cons (.op (.idxP 16 1) (.cons (.inp 3) (.cons (.bv 1) .nil))) .nil) (.chk none (.bin .add) (.cons (.bv 2) (.cons (.cst (.int .i64 1)) .nil)) (.chk none (.idxP 16 1) (.cons (.inp 3) (.cons (.bv 1) .nil)) (.eff (.st 1) (.cons (.op (.idxP 16 1) (.cons (.inp 3) (.cons (.bv 1) .nil))) (.cons (.op (.bin .add) (.cons (.bv 2) (.cons (.cst (.int .i64 1)) .nil))) .nil)) (.done [] none))))))))))))) Q env w := rfl
def h51_3 : HC := (.br (.chk none .chkp (.cons (.inp 0) .nil) (.chk none (.fld 1) (.cons (.op .chkp (.cons (.inp 0) .nil)) .nil) (.eff (.ld false 1) (.cons (.op (.fld 1) (.cons (.op .chkp (.cons (.inp 0) .nil)) .nil)) .nil) (.chk none (.idxL 4) (.cons (.bv 0) (.cons (.inp 4) .nil)) (.chk none (.fld 3) (.cons (.op (.idxL 4) (.cons (.bv 0) (.cons (.inp 4) .nil))) .nil) (.eff (.ld false 1) (.cons (.op (.fld 3) (.cons (.op (.idxL 4) (.cons (.bv 0) (.cons (.inp 4) .nil))) .nil)) .nil) (.chk none (.bin .eql) (.cons (.bv 1) (.cons (.cst (.int .i64 0)) .nil)) (.bnd (.op (.bin .eql) (.cons (.bv 1) (.cons (.cst (.int .i64 0)) .nil))) (.chk (some ((.bv 2), true)) .chkp (.cons (.inp 0) .nil) (.chk (some ((.bv 2), true)) (.fld 1) (.cons (.op .chkp (.cons (.inp 0) .nil)) .nil) (.ite (.bv 2) true (.eff (.ld false 1) (.cons (.ite (.bv 2) true (.op (.fld 1) (.cons (.op .chkp (.cons (.inp 0) .nil)) .nil)) (.cst (.tuple #[]))) .nil) (.chk none (.idxL 4) (.cons (.bv 3) (.cons (.inp 4) .nil)) (.chk none (.fld 2) (.cons (.op (.idxL 4) (.cons (.bv 3) (.cons (.inp 4) .nil))) .nil) (.eff (.ld false 1) (.cons (.op (.fld 2) (.cons (.op (.idxL 4) (.cons (.bv 3) (.cons (.inp 4) .nil))) .nil)) .nil) (.chk none (.bin .eql) (.cons (.bv 4) (.cons (.inp 1) .nil)) (.isb none (.bv 2) (.done [] (some (.op (.bin .eql) (.cons (.bv 4) (.cons (.inp 1) .nil))))))))))) (.isb none (.bv 2) (.done [] (some (.cst (.bool false)))))))))))))))) h51_2 .skip)
@[simp] theorem h51_3_wp {P : Program} {F : PF P} {Q : EX → List Value → World → Prop} {env : List Value} {w : World} : h51_3.wp F Q env w = HC.wp F (.br (.chk none .chkp (.cons (.inp 0) .nil) (.chk none (.fld 1) (.cons (.op .chkp (.cons (.inp 0) .nil)) .nil) (.eff (.ld false 1) (.cons (.op (.fld 1) (.cons (.op .chkp (.cons (.inp 0) .nil)) .nil)) .nil) (.chk none (.idxL 4) (.cons (.bv 0) (.cons (.inp 4) .nil)) (.chk none (.fld 3) (.cons (.op (.idxL 4) (.cons (.bv 0) (.cons (.inp 4) .nil))) .nil) (.eff (.ld false 1) (.cons (.op (.fld 3) (.cons (.op (.idxL 4) (.cons (.bv 0) (.cons (.inp 4) .nil))) .nil)) .nil) (.chk none (.bin .eql) (.cons (.bv 1) (.cons (.cst (.int .i64 0)) .nil)) (.bnd (.op (.bin .eql) (.cons (.bv 1) (.cons (.cst (.int .i64 0)) .nil))) (.chk (some ((.bv 2), true)) .chkp (.cons (.inp 0) .nil) (.chk (some ((.bv 2), true)) (.fld 1) (.cons (.op .chkp (.cons (.inp 0) .nil)) .nil) (.ite (.bv 2) true (.eff (.ld false 1) (.cons (.ite (.bv 2) true (.op (.fld 1) (.cons (.op .chkp (.cons (.inp 0) .nil)) .nil)) (.cst (.tuple #[]))) .nil) (.chk none (.idxL 4) (.cons (.bv 3) (.cons (.inp 4) .nil)) (.chk none (.fld 2) (.cons (.op (.idxL 4) (.cons (.bv 3) (.cons (.inp 4) .nil))) .nil) (.eff (.ld false 1) (.cons (.op (.fld 2) (.cons (.op (.idxL 4) (.cons (.bv 3) (.cons (.inp 4) .nil))) .nil)) .nil) (.chk none (.bin .eql) (.cons (.bv 4) (.cons (.inp 1) .nil)) (.isb none (.bv 2) (.done [] (some (.op (.bin .eql) (.cons (.bv 4) (.cons (.inp 1) .nil))))))))))) (.isb none (.bv 2) (.done [] (some (.cst (.bool false)))))))))))))))) h51_2 .skip) Q env w := rfl
def h51_4 : HC := (.seq (.block 1 h51_3) h51_1)
@[simp] theorem h51_4_wp {P : Program} {F : PF P} {Q : EX → List Value → World → Prop} {env : List Value} {w : World} : h51_4.wp F Q env w = HC.wp F (.seq (.block 1 h51_3) h51_1) Q env w := rfl
def h51_5 : HC := (.seq (.br (.chk none .chkp (.cons (.inp 0) .nil) (.chk none (.fld 1) (.cons (.op .chkp (.cons (.inp 0) .nil)) .nil) (.eff (.ld false 1) (.cons (.op (.fld 1) (.cons (.op .chkp (.cons (.inp 0) .nil)) .nil)) .nil) (.chk none .lenL (.cons (.bv 0) .nil) (.chk none (.bin .lss) (.cons (.inp 4) (.cons (.op .lenL (.cons (.bv 0) .nil)) .nil)) (.done [] (some (.op (.bin .lss) (.cons (.inp 4) (.cons (.op .lenL (.cons (.bv 0) .nil)) .nil)))))))))) .skip (.exit 0)) h51_4)
@[simp] theorem h51_5_wp {P : Program} {F : PF P} {Q : EX → List Value → World → Prop} {env : List Value} {w : World} : h51_5.wp F Q env w = HC.wp F (.seq (.br (.chk none .chkp (.cons (.inp 0) .nil) (.chk none (.fld 1) (.cons (.op .chkp (.cons (.inp 0) .nil)) .nil) (.eff (.ld false 1) (.cons (.op (.fld 1) (.cons (.op .chkp (.cons (.inp 0) .nil)) .nil)) .nil) (.chk none .lenL (.cons (.bv 0) .nil) (.chk none (.bin .lss) (.cons (.inp 4) (.cons (.op .lenL (.cons (.bv 0) .nil)) .nil)) (.done [] (some (.op (.bin .lss) (.cons (.inp 4) (.cons (.op .lenL (.cons (.bv 0) .nil)) .nil)))))))))) .skip (.exit 0)) h51_4) Q env w := rfl
def h51_6 : HC := (.loop h51_5)
@[simp] theorem h51_6_wp {P : Program} {F : PF P} {Q : EX → List Value → World → Prop} {env : List Value} {w : World} : h51_6.wp F Q env w = HC.wp F (.loop h51_5) Q env w := rfl
def h51_7 : HC := (.seq (.block 0 h51_6) h51_0)
@[simp] theorem h51_7_wp {P : Program} {F : PF P} {Q : EX → List Value → World → Prop} {env : List Value} {w : World} : h51_7.wp F Q env w = HC.wp F (.seq (.block 0 h51_6) h51_0) Q env w := rfl
def h51_8 : HC := (.seq (.reg (.done [(4, (.cst (.int .i64 0)))] none)) h51_7)
@[simp] theorem h51_8_wp {P : Program} {F : PF P} {Q : EX → List Value → World → Prop} {env : List Value} {w : World} : h51_8.wp F Q env w = HC.wp F (.seq (.reg (.done [(4, (.cst (.int .i64 0)))] none)) h51_7) Q env w := rfl
def h51_9 : HC := (.seq (.reg (.eff (.ld true 16) (.cons (.inp 3) .nil) (.eff (.st 16) (.cons (.inp 2) (.cons (.bv 0) .nil)) (.done [] none)))) .ret)
@[simp] theorem h51_9_wp {P : Program} {F : PF P} {Q : EX → List Value → World → Prop} {env : List Value} {w : World} : h51_9.wp F Q env w = HC.wp F (.seq (.reg (.eff (.ld true 16) (.cons (.inp 3) .nil) (.eff (.st 16) (.cons (.inp 2) (.cons (.bv 0) .nil)) (.done [] none)))) .ret) Q env w := rfl
def h51_10 : HC := (.seq (.br (.chk none (.eqNil false (.pointer 84) (.pointer none)) (.cons (.inp 0) .nil) (.done [] (some (.op (.eqNil false (.pointer 84) (.pointer none)) (.cons (.inp 0) .nil))))) h51_9 .skip) h51_8)
@[simp] theorem h51_10_wp {P : Program} {F : PF P} {Q : EX → List Value → World → Prop} {env : List Value} {w : World} : h51_10.wp F Q env w = HC.wp F (.seq (.br (.chk none (.eqNil false (.pointer 84) (.pointer none)) (.cons (.inp 0) .nil) (.done [] (some (.op (.eqNil false (.pointer 84) (.pointer none)) (.cons (.inp 0) .nil))))) h51_9 .skip) h51_8) Q env w := rfl
def h51_11 : HC := (.seq (.reg (.eff (.new 74 (.agg #[(.int .i64 0), (.int .i64 0), (.int .i64 0), (.int .i64 0), (.int .i64 0), (.int .i64 0), (.int .i64 0), (.int .i64 0), (.int .i64 0), (.int .i64 0), (.int .i64 0), (.int .i64 0), (.int .i64 0), (.int .i64 0), (.int .i64 0), (.int .i64 0)])) .nil (.done [(3, (.bv 0))] none))) h51_10)
@[simp] theorem h51_11_wp {P : Program} {F : PF P} {Q : EX → List Value → World → Prop} {env : List Value} {w : World} : h51_11.wp F Q env w = HC.wp F (.seq (.reg (.eff (.new 74 (.agg #[(.int .i64 0), (.int .i64 0), (.int .i64 0), (.int .i64 0), (.int .i64 0), (.int .i64 0), (.int .i64 0), (.int .i64 0), (.int .i64 0), (.int .i64 0), (.int .i64 0), (.int .i64 0), (.int .i64 0), (.int .i64 0), (.int .i64 0), (.int .i64 0)])) .nil (.done [(3, (.bv 0))] none))) h51_10) Q env w := rfl
def l51 : Lifted := ⟨[0, 1, 4, 5, 6], 53, [.cell 2 true 16], (.seq (.reg (.eff (.new 74 (.agg #[(.int .i64 0), (.int .i64 0), (.int .i64 0), (.int .i64 0), (.int .i64 0), (.int .i64 0), (.int .i64 0), (.int .i64 0), (.int .i64 0), (.int .i64 0), (.int .i64 0), (.int .i64 0), (.int .i64 0), (.int .i64 0), (.int .i64 0), (.int .i64 0)])) .nil (.done [(2, (.bv 0))] none))) h51_11)⟩
theorem l51_ok : liftFn G2 51 400 = some l51 := by kernel_rfl

-- (*bazaar/bazaarref15.Goods).Rows
def h47_0 : HC := (.seq (.reg (.chk none .chkp (.cons (.inp 0) .nil) (.chk none (.fld 1) (.cons (.op .chkp (.cons (.inp 0) .nil)) .nil) (.eff (.ld false 1) (.cons (.op (.fld 1) (.cons (.op .chkp (.cons (.inp 0) .nil)) .nil)) .nil) (.eff (.app 30 30 44 4 32 (.agg #[(.int .i64 0), (.int .i64 0), (.int .i64 0), (.int .i64 0)])) (.cons (.inp 2) (.cons (.bv 0) .nil)) (.done [(1, (.bv 1))] none)))))) .ret)
@[simp] theorem h47_0_wp {P : Program} {F : PF P} {Q : EX → List Value → World → Prop} {env : List Value} {w : World} : h47_0.wp F Q env w = HC.wp F (.seq (.reg (.chk none .chkp (.cons (.inp 0) .nil) (.chk none (.fld 1) (.cons (.op .chkp (.cons (.inp 0) .nil)) .nil) (.eff (.ld false 1) (.cons (.op (.fld 1) (.cons (.op .chkp (.cons (.inp 0) .nil)) .nil)) .nil) (.eff (.app 30 30 44 4 32 (.agg #[(.int .i64 0), (.int .i64 0), (.int .i64 0), (.int .i64 0)])) (.cons (.inp 2) (.cons (.bv 0) .nil)) (.done [(1, (.bv 1))] none)))))) .ret) Q env w := rfl
def h47_1 : HC := (.seq (.reg (.done [(1, (.inp 2))] none)) .ret)
@[simp] theorem h47_1_wp {P : Program} {F : PF P} {Q : EX → List Value → World → Prop} {env : List Value} {w : World} : h47_1.wp F Q env w = HC.wp F (.seq (.reg (.done [(1, (.inp 2))] none)) .ret) Q env w := rfl
def h47_2 : HC := (.seq (.br (.chk none (.eqNil false (.pointer 84) (.pointer none)) (.cons (.inp 0) .nil) (.done [] (some (.op (.eqNil false (.pointer 84) (.pointer none)) (.cons (.inp 0) .nil))))) h47_1 .skip) h47_0)
@[simp] theorem h47_2_wp {P : Program} {F : PF P} {Q : EX → List Value → World → Prop} {env : List Value} {w : World} : h47_2.wp F Q env w = HC.wp F (.seq (.br (.chk none (.eqNil false (.pointer 84) (.pointer none)) (.cons (.inp 0) .nil) (.done [] (some (.op (.eqNil false (.pointer 84) (.pointer none)) (.cons (.inp 0) .nil))))) h47_1 .skip) h47_0) Q env w := rfl
def h47_3 : HC := (.seq (.reg (.done [(2, (.cst (.slice none 0 0)))] none)) h47_2)
@[simp] theorem h47_3_wp {P : Program} {F : PF P} {Q : EX → List Value → World → Prop} {env : List Value} {w : World} : h47_3.wp F Q env w = HC.wp F (.seq (.reg (.done [(2, (.cst (.slice none 0 0)))] none)) h47_2) Q env w := rfl
def l47 : Lifted := ⟨[0, 2, 3], 13, [.slot 1], (.seq (.reg (.done [(1, (.cst (.slice none 0 0)))] none)) h47_3)⟩
theorem l47_ok : liftFn G2 47 400 = some l47 := by kernel_rfl

-- (*bazaar/bazaarref15.Goods).Copy
def h44_0 : HC := (.seq (.regq (some 2) (.chk none .chkp (.cons (.inp 0) .nil) (.chk none (.fld 0) (.cons (.op .chkp (.cons (.inp 0) .nil)) .nil) (.eff (.ld false 1) (.cons (.op (.fld 0) (.cons (.op .chkp (.cons (.inp 0) .nil)) .nil)) .nil) (.eff (.call 47) (.cons (.inp 0) .nil) (.chk none (.build #[(.int .i64 0), (.slice none 0 0)] [(0, 1), (1, 1)] [0, 1]) (.cons (.bv 0) (.cons (.bv 1) .nil)) (.eff (.box 84) (.cons (.op (.build #[(.int .i64 0), (.slice none 0 0)] [(0, 1), (1, 1)] [0, 1]) (.cons (.bv 0) (.cons (.bv 1) .nil))) .nil) (.done [(1, (.bv 2))] none)))))))) .ret)
@[simp] theorem h44_0_wp {P : Program} {F : PF P} {Q : EX → List Value → World → Prop} {env : List Value} {w : World} : h44_0.wp F Q env w = HC.wp F (.seq (.regq (some 2) (.chk none .chkp (.cons (.inp 0) .nil) (.chk none (.fld 0) (.cons (.op .chkp (.cons (.inp 0) .nil)) .nil) (.eff (.ld false 1) (.cons (.op (.fld 0) (.cons (.op .chkp (.cons (.inp 0) .nil)) .nil)) .nil) (.eff (.call 47) (.cons (.inp 0) .nil) (.chk none (.build #[(.int .i64 0), (.slice none 0 0)] [(0, 1), (1, 1)] [0, 1]) (.cons (.bv 0) (.cons (.bv 1) .nil)) (.eff (.box 84) (.cons (.op (.build #[(.int .i64 0), (.slice none 0 0)] [(0, 1), (1, 1)] [0, 1]) (.cons (.bv 0) (.cons (.bv 1) .nil))) .nil) (.done [(1, (.bv 2))] none)))))))) .ret) Q env w := rfl
def h44_1 : HC := (.seq (.reg (.done [(1, (.cst (.pointer none)))] none)) .ret)
@[simp] theorem h44_1_wp {P : Program} {F : PF P} {Q : EX → List Value → World → Prop} {env : List Value} {w : World} : h44_1.wp F Q env w = HC.wp F (.seq (.reg (.done [(1, (.cst (.pointer none)))] none)) .ret) Q env w := rfl
def h44_2 : HC := (.seq (.br (.chk none (.eqNil false (.pointer 84) (.pointer none)) (.cons (.inp 0) .nil) (.done [] (some (.op (.eqNil false (.pointer 84) (.pointer none)) (.cons (.inp 0) .nil))))) h44_1 .skip) h44_0)
@[simp] theorem h44_2_wp {P : Program} {F : PF P} {Q : EX → List Value → World → Prop} {env : List Value} {w : World} : h44_2.wp F Q env w = HC.wp F (.seq (.br (.chk none (.eqNil false (.pointer 84) (.pointer none)) (.cons (.inp 0) .nil) (.done [] (some (.op (.eqNil false (.pointer 84) (.pointer none)) (.cons (.inp 0) .nil))))) h44_1 .skip) h44_0) Q env w := rfl
def l44 : Lifted := ⟨[0, 2], 13, [.slot 1], (.seq (.reg (.done [(1, (.cst (.pointer none)))] none)) h44_2)⟩
theorem l44_ok : liftFn G2 44 400 = some l44 := by kernel_rfl

-- bazaar/bazaarref15.Load
def h55_0 : HC := (.seq (.reg (.done [(2, (.inp 4)), (3, (.cst (.int .i64 0)))] none)) .ret)
@[simp] theorem h55_0_wp {P : Program} {F : PF P} {Q : EX → List Value → World → Prop} {env : List Value} {w : World} : h55_0.wp F Q env w = HC.wp F (.seq (.reg (.done [(2, (.inp 4)), (3, (.cst (.int .i64 0)))] none)) .ret) Q env w := rfl
def h55_1 : HC := (.reg (.chk none (.bin .add) (.cons (.inp 6) (.cons (.cst (.int .i64 1)) .nil)) (.done [(6, (.op (.bin .add) (.cons (.inp 6) (.cons (.cst (.int .i64 1)) .nil))))] none)))
@[simp] theorem h55_1_wp {P : Program} {F : PF P} {Q : EX → List Value → World → Prop} {env : List Value} {w : World} : h55_1.wp F Q env w = HC.wp F (.reg (.chk none (.bin .add) (.cons (.inp 6) (.cons (.cst (.int .i64 1)) .nil)) (.done [(6, (.op (.bin .add) (.cons (.inp 6) (.cons (.cst (.int .i64 1)) .nil))))] none))) Q env w := rfl
def h55_2 : HC := (.regq (some 3) (.chk none .chkp (.cons (.inp 4) .nil) (.chk none (.fld 1) (.cons (.op .chkp (.cons (.inp 4) .nil)) .nil) (.eff (.ld false 1) (.cons (.op (.fld 1) (.cons (.op .chkp (.cons (.inp 4) .nil)) .nil)) .nil) (.eff (.ld true 4) (.cons (.inp 7) .nil) (.eff (.bsl 44 1 4 #[(.int .i64 0), (.int .i64 0), (.int .i64 0), (.int .i64 0)] [0]) (.cons (.bv 1) .nil) (.eff (.app 30 30 44 4 32 (.agg #[(.int .i64 0), (.int .i64 0), (.int .i64 0), (.int .i64 0)])) (.cons (.bv 0) (.cons (.bv 2) .nil)) (.chk none .chkp (.cons (.inp 4) .nil) (.chk none (.fld 1) (.cons (.op .chkp (.cons (.inp 4) .nil)) .nil) (.eff (.st 1) (.cons (.op (.fld 1) (.cons (.op .chkp (.cons (.inp 4) .nil)) .nil)) (.cons (.bv 3) .nil)) (.done [] none)))))))))))
@[simp] theorem h55_2_wp {P : Program} {F : PF P} {Q : EX → List Value → World → Prop} {env : List Value} {w : World} : h55_2.wp F Q env w = HC.wp F (.regq (some 3) (.chk none .chkp (.cons (.inp 4) .nil) (.chk none (.fld 1) (.cons (.op .chkp (.cons (.inp 4) .nil)) .nil) (.eff (.ld false 1) (.cons (.op (.fld 1) (.cons (.op .chkp (.cons (.inp 4) .nil)) .nil)) .nil) (.eff (.ld true 4) (.cons (.inp 7) .nil) (.eff (.bsl 44 1 4 #[(.int .i64 0), (.int .i64 0), (.int .i64 0), (.int .i64 0)] [0]) (.cons (.bv 1) .nil) (.eff (.app 30 30 44 4 32 (.agg #[(.int .i64 0), (.int .i64 0), (.int .i64 0), (.int .i64 0)])) (.cons (.bv 0) (.cons (.bv 2) .nil)) (.chk none .chkp (.cons (.inp 4) .nil) (.chk none (.fld 1) (.cons (.op .chkp (.cons (.inp 4) .nil)) .nil) (.eff (.st 1) (.cons (.op (.fld 1) (.cons (.op .chkp (.cons (.inp 4) .nil)) .nil)) (.cons (.bv 3) .nil)) (.done [] none))))))))))) Q env w := rfl
def h55_3 : HC := (.seq (.reg (.done [(2, (.cst (.pointer none))), (3, (.cst (.int .i64 2)))] none)) .ret)
@[simp] theorem h55_3_wp {P : Program} {F : PF P} {Q : EX → List Value → World → Prop} {env : List Value} {w : World} : h55_3.wp F Q env w = HC.wp F (.seq (.reg (.done [(2, (.cst (.pointer none))), (3, (.cst (.int .i64 2)))] none)) .ret) Q env w := rfl
def h55_4 : HC := (.seq (.br (.chk none (.un .not) (.cons (.inp 8) .nil) (.bnd (.op (.un .not) (.cons (.inp 8) .nil)) (.chk (some ((.bv 0), true)) (.un .not) (.cons (.inp 9) .nil) (.isb none (.bv 0) (.done [] (some (.ite (.bv 0) true (.op (.un .not) (.cons (.inp 9) .nil)) (.cst (.bool false))))))))) h55_3 .skip) h55_2)
@[simp] theorem h55_4_wp {P : Program} {F : PF P} {Q : EX → List Value → World → Prop} {env : List Value} {w : World} : h55_4.wp F Q env w = HC.wp F (.seq (.br (.chk none (.un .not) (.cons (.inp 8) .nil) (.bnd (.op (.un .not) (.cons (.inp 8) .nil)) (.chk (some ((.bv 0), true)) (.un .not) (.cons (.inp 9) .nil) (.isb none (.bv 0) (.done [] (some (.ite (.bv 0) true (.op (.un .not) (.cons (.inp 9) .nil)) (.cst (.bool false))))))))) h55_3 .skip) h55_2) Q env w := rfl
def h55_5 : HC := (.seq (.reg (.chk none (.fld 3) (.cons (.inp 7) .nil) (.eff (.ld false 1) (.cons (.op (.fld 3) (.cons (.inp 7) .nil)) .nil) (.chk none (.bin .gtr) (.cons (.bv 0) (.cons (.cst (.int .i64 0)) .nil)) (.bnd (.op (.bin .gtr) (.cons (.bv 0) (.cons (.cst (.int .i64 0)) .nil))) (.chk (some ((.bv 1), true)) (.fld 2) (.cons (.inp 7) .nil) (.ite (.bv 1) true (.eff (.ld false 1) (.cons (.ite (.bv 1) true (.op (.fld 2) (.cons (.inp 7) .nil)) (.cst (.tuple #[]))) .nil) (.chk none (.bin .eql) (.cons (.bv 2) (.cons (.cst (.int .i64 (-1))) .nil)) (.isb none (.bv 1) (.done [(9, (.op (.bin .eql) (.cons (.bv 2) (.cons (.cst (.int .i64 (-1))) .nil))))] none)))) (.isb none (.bv 1) (.done [(9, (.cst (.bool false)))] none))))))))) h55_4)
@[simp] theorem h55_5_wp {P : Program} {F : PF P} {Q : EX → List Value → World → Prop} {env : List Value} {w : World} : h55_5.wp F Q env w = HC.wp F (.seq (.reg (.chk none (.fld 3) (.cons (.inp 7) .nil) (.eff (.ld false 1) (.cons (.op (.fld 3) (.cons (.inp 7) .nil)) .nil) (.chk none (.bin .gtr) (.cons (.bv 0) (.cons (.cst (.int .i64 0)) .nil)) (.bnd (.op (.bin .gtr) (.cons (.bv 0) (.cons (.cst (.int .i64 0)) .nil))) (.chk (some ((.bv 1), true)) (.fld 2) (.cons (.inp 7) .nil) (.ite (.bv 1) true (.eff (.ld false 1) (.cons (.ite (.bv 1) true (.op (.fld 2) (.cons (.inp 7) .nil)) (.cst (.tuple #[]))) .nil) (.chk none (.bin .eql) (.cons (.bv 2) (.cons (.cst (.int .i64 (-1))) .nil)) (.isb none (.bv 1) (.done [(9, (.op (.bin .eql) (.cons (.bv 2) (.cons (.cst (.int .i64 (-1))) .nil))))] none)))) (.isb none (.bv 1) (.done [(9, (.cst (.bool false)))] none))))))))) h55_4) Q env w := rfl
def h55_6 : HC := (.seq (.reg (.chk none (.fld 3) (.cons (.inp 7) .nil) (.eff (.ld false 1) (.cons (.op (.fld 3) (.cons (.inp 7) .nil)) .nil) (.chk none (.bin .eql) (.cons (.bv 0) (.cons (.cst (.int .i64 0)) .nil)) (.bnd (.op (.bin .eql) (.cons (.bv 0) (.cons (.cst (.int .i64 0)) .nil))) (.chk (some ((.bv 1), true)) (.fld 2) (.cons (.inp 7) .nil) (.ite (.bv 1) true (.eff (.ld false 1) (.cons (.ite (.bv 1) true (.op (.fld 2) (.cons (.inp 7) .nil)) (.cst (.tuple #[]))) .nil) (.chk none (.cal 53) (.cons (.bv 2) .nil) (.isb none (.bv 1) (.done [(8, (.op (.cal 53) (.cons (.bv 2) .nil)))] none)))) (.isb none (.bv 1) (.done [(8, (.cst (.bool false)))] none))))))))) h55_5)
@[simp] theorem h55_6_wp {P : Program} {F : PF P} {Q : EX → List Value → World → Prop} {env : List Value} {w : World} : h55_6.wp F Q env w = HC.wp F (.seq (.reg (.chk none (.fld 3) (.cons (.inp 7) .nil) (.eff (.ld false 1) (.cons (.op (.fld 3) (.cons (.inp 7) .nil)) .nil) (.chk none (.bin .eql) (.cons (.bv 0) (.cons (.cst (.int .i64 0)) .nil)) (.bnd (.op (.bin .eql) (.cons (.bv 0) (.cons (.cst (.int .i64 0)) .nil))) (.chk (some ((.bv 1), true)) (.fld 2) (.cons (.inp 7) .nil) (.ite (.bv 1) true (.eff (.ld false 1) (.cons (.ite (.bv 1) true (.op (.fld 2) (.cons (.inp 7) .nil)) (.cst (.tuple #[]))) .nil) (.chk none (.cal 53) (.cons (.bv 2) .nil) (.isb none (.bv 1) (.done [(8, (.op (.cal 53) (.cons (.bv 2) .nil)))] none)))) (.isb none (.bv 1) (.done [(8, (.cst (.bool false)))] none))))))))) h55_5) Q env w := rfl
def h55_7 : HC := (.seq (.reg (.done [(2, (.cst (.pointer none))), (3, (.cst (.int .i64 152)))] none)) .ret)
@[simp] theorem h55_7_wp {P : Program} {F : PF P} {Q : EX → List Value → World → Prop} {env : List Value} {w : World} : h55_7.wp F Q env w = HC.wp F (.seq (.reg (.done [(2, (.cst (.pointer none))), (3, (.cst (.int .i64 152)))] none)) .ret) Q env w := rfl
def h55_8 : HC := (.seq (.br (.chk none (.fld 1) (.cons (.inp 7) .nil) (.eff (.ld false 1) (.cons (.op (.fld 1) (.cons (.inp 7) .nil)) .nil) (.chk none (.bin .lss) (.cons (.bv 0) (.cons (.cst (.int .i64 0)) .nil)) (.bnd (.op (.bin .lss) (.cons (.bv 0) (.cons (.cst (.int .i64 0)) .nil))) (.chk (some ((.bv 1), false)) (.fld 1) (.cons (.inp 7) .nil) (.ite (.bv 1) false (.eff (.ld false 1) (.cons (.ite (.bv 1) false (.op (.fld 1) (.cons (.inp 7) .nil)) (.cst (.tuple #[]))) .nil) (.chk none (.bin .geq) (.cons (.bv 2) (.cons (.cst (.int .i64 16)) .nil)) (.isb none (.bv 1) (.done [] (some (.op (.bin .geq) (.cons (.bv 2) (.cons (.cst (.int .i64 16)) .nil)))))))) (.isb none (.bv 1) (.done [] (some (.cst (.bool true))))))))))) h55_7 .skip) h55_6)
@[simp] theorem h55_8_wp {P : Program} {F : PF P} {Q : EX → List Value → World → Prop} {env : List Value} {w : World} : h55_8.wp F Q env w = HC.wp F (.seq (.br (.chk none (.fld 1) (.cons (.inp 7) .nil) (.eff (.ld false 1) (.cons (.op (.fld 1) (.cons (.inp 7) .nil)) .nil) (.chk none (.bin .lss) (.cons (.bv 0) (.cons (.cst (.int .i64 0)) .nil)) (.bnd (.op (.bin .lss) (.cons (.bv 0) (.cons (.cst (.int .i64 0)) .nil))) (.chk (some ((.bv 1), false)) (.fld 1) (.cons (.inp 7) .nil) (.ite (.bv 1) false (.eff (.ld false 1) (.cons (.ite (.bv 1) false (.op (.fld 1) (.cons (.inp 7) .nil)) (.cst (.tuple #[]))) .nil) (.chk none (.bin .geq) (.cons (.bv 2) (.cons (.cst (.int .i64 16)) .nil)) (.isb none (.bv 1) (.done [] (some (.op (.bin .geq) (.cons (.bv 2) (.cons (.cst (.int .i64 16)) .nil)))))))) (.isb none (.bv 1) (.done [] (some (.cst (.bool true))))))))))) h55_7 .skip) h55_6) Q env w := rfl
def h55_9 : HC := (.seq (.reg (.done [(2, (.cst (.pointer none))), (3, (.cst (.int .i64 151)))] none)) .ret)
@[simp] theorem h55_9_wp {P : Program} {F : PF P} {Q : EX → List Value → World → Prop} {env : List Value} {w : World} : h55_9.wp F Q env w = HC.wp F (.seq (.reg (.done [(2, (.cst (.pointer none))), (3, (.cst (.int .i64 151)))] none)) .ret) Q env w := rfl
def h55_10 : HC := (.seq (.br (.chk none (.fld 0) (.cons (.inp 7) .nil) (.eff (.ld false 1) (.cons (.op (.fld 0) (.cons (.inp 7) .nil)) .nil) (.chk none (.bin .add) (.cons (.inp 6) (.cons (.cst (.int .i64 1)) .nil)) (.chk none (.bin .neq) (.cons (.bv 0) (.cons (.op (.bin .add) (.cons (.inp 6) (.cons (.cst (.int .i64 1)) .nil))) .nil)) (.done [] (some (.op (.bin .neq) (.cons (.bv 0) (.cons (.op (.bin .add) (.cons (.inp 6) (.cons (.cst (.int .i64 1)) .nil))) .nil))))))))) h55_9 .skip) h55_8)
@[simp] theorem h55_10_wp {P : Program} {F : PF P} {Q : EX → List Value → World → Prop} {env : List Value} {w : World} : h55_10.wp F Q env w = HC.wp F (.seq (.br (.chk none (.fld 0) (.cons (.inp 7) .nil) (.eff (.ld false 1) (.cons (.op (.fld 0) (.cons (.inp 7) .nil)) .nil) (.chk none (.bin .add) (.cons (.inp 6) (.cons (.cst (.int .i64 1)) .nil)) (.chk none (.bin .neq) (.cons (.bv 0) (.cons (.op (.bin .add) (.cons (.inp 6) (.cons (.cst (.int .i64 1)) .nil))) .nil)) (.done [] (some (.op (.bin .neq) (.cons (.bv 0) (.cons (.op (.bin .add) (.cons (.inp 6) (.cons (.cst (.int .i64 1)) .nil))) .nil))))))))) h55_9 .skip) h55_8) Q env w := rfl
def h55_11 : HC := (.seq (.reg (.chk none (.idxL 4) (.cons (.inp 1) (.cons (.inp 6) .nil)) (.eff (.ld true 4) (.cons (.op (.idxL 4) (.cons (.inp 1) (.cons (.inp 6) .nil))) .nil) (.eff (.new 44 (.agg #[(.int .i64 0), (.int .i64 0), (.int .i64 0), (.int .i64 0)])) .nil (.eff (.st 4) (.cons (.bv 1) (.cons (.bv 0) .nil)) (.done [(7, (.bv 1))] none)))))) h55_10)
@[simp] theorem h55_11_wp {P : Program} {F : PF P} {Q : EX → List Value → World → Prop} {env : List Value} {w : World} : h55_11.wp F Q env w = HC.wp F (.seq (.reg (.chk none (.idxL 4) (.cons (.inp 1) (.cons (.inp 6) .nil)) (.eff (.ld true 4) (.cons (.op (.idxL 4) (.cons (.inp 1) (.cons (.inp 6) .nil))) .nil) (.eff (.new 44 (.agg #[(.int .i64 0), (.int .i64 0), (.int .i64 0), (.int .i64 0)])) .nil (.eff (.st 4) (.cons (.bv 1) (.cons (.bv 0) .nil)) (.done [(7, (.bv 1))] none)))))) h55_10) Q env w := rfl
def h55_12 : HC := (.seq (.block 1 h55_11) h55_1)
@[simp] theorem h55_12_wp {P : Program} {F : PF P} {Q : EX → List Value → World → Prop} {env : List Value} {w : World} : h55_12.wp F Q env w = HC.wp F (.seq (.block 1 h55_11) h55_1) Q env w := rfl
def h55_13 : HC := (.seq (.br (.chk none .lenL (.cons (.inp 1) .nil) (.chk none (.bin .lss) (.cons (.inp 6) (.cons (.op .lenL (.cons (.inp 1) .nil)) .nil)) (.done [] (some (.op (.bin .lss) (.cons (.inp 6) (.cons (.op .lenL (.cons (.inp 1) .nil)) .nil))))))) .skip (.exit 0)) h55_12)
@[simp] theorem h55_13_wp {P : Program} {F : PF P} {Q : EX → List Value → World → Prop} {env : List Value} {w : World} : h55_13.wp F Q env w = HC.wp F (.seq (.br (.chk none .lenL (.cons (.inp 1) .nil) (.chk none (.bin .lss) (.cons (.inp 6) (.cons (.op .lenL (.cons (.inp 1) .nil)) .nil)) (.done [] (some (.op (.bin .lss) (.cons (.inp 6) (.cons (.op .lenL (.cons (.inp 1) .nil)) .nil))))))) .skip (.exit 0)) h55_12) Q env w := rfl
def h55_14 : HC := (.loop h55_13)
@[simp] theorem h55_14_wp {P : Program} {F : PF P} {Q : EX → List Value → World → Prop} {env : List Value} {w : World} : h55_14.wp F Q env w = HC.wp F (.loop h55_13) Q env w := rfl
def h55_15 : HC := (.seq (.block 0 h55_14) h55_0)
@[simp] theorem h55_15_wp {P : Program} {F : PF P} {Q : EX → List Value → World → Prop} {env : List Value} {w : World} : h55_15.wp F Q env w = HC.wp F (.seq (.block 0 h55_14) h55_0) Q env w := rfl
def h55_16 : HC := (.seq (.reg (.done [(6, (.cst (.int .i64 0)))] none)) h55_15)
@[simp] theorem h55_16_wp {P : Program} {F : PF P} {Q : EX → List Value → World → Prop} {env : List Value} {w : World} : h55_16.wp F Q env w = HC.wp F (.seq (.reg (.done [(6, (.cst (.int .i64 0)))] none)) h55_15) Q env w := rfl
def h55_17 : HC := (.seq (.reg (.done [(2, (.cst (.pointer none))), (3, (.cst (.int .i64 150)))] none)) .ret)
@[simp] theorem h55_17_wp {P : Program} {F : PF P} {Q : EX → List Value → World → Prop} {env : List Value} {w : World} : h55_17.wp F Q env w = HC.wp F (.seq (.reg (.done [(2, (.cst (.pointer none))), (3, (.cst (.int .i64 150)))] none)) .ret) Q env w := rfl
def h55_18 : HC := (.seq (.br (.chk none .lenL (.cons (.inp 1) .nil) (.chk none (.bin .gtr) (.cons (.op .lenL (.cons (.inp 1) .nil)) (.cons (.inp 0) .nil)) (.done [] (some (.op (.bin .gtr) (.cons (.op .lenL (.cons (.inp 1) .nil)) (.cons (.inp 0) .nil))))))) h55_17 .skip) h55_16)
@[simp] theorem h55_18_wp {P : Program} {F : PF P} {Q : EX → List Value → World → Prop} {env : List Value} {w : World} : h55_18.wp F Q env w = HC.wp F (.seq (.br (.chk none .lenL (.cons (.inp 1) .nil) (.chk none (.bin .gtr) (.cons (.op .lenL (.cons (.inp 1) .nil)) (.cons (.inp 0) .nil)) (.done [] (some (.op (.bin .gtr) (.cons (.op .lenL (.cons (.inp 1) .nil)) (.cons (.inp 0) .nil))))))) h55_17 .skip) h55_16) Q env w := rfl
def h55_19 : HC := (.seq (.reg (.done [(2, (.cst (.pointer none))), (3, (.inp 5))] none)) .ret)
@[simp] theorem h55_19_wp {P : Program} {F : PF P} {Q : EX → List Value → World → Prop} {env : List Value} {w : World} : h55_19.wp F Q env w = HC.wp F (.seq (.reg (.done [(2, (.cst (.pointer none))), (3, (.inp 5))] none)) .ret) Q env w := rfl
def h55_20 : HC := (.seq (.br (.chk none (.bin .neq) (.cons (.inp 5) (.cons (.cst (.int .i64 0)) .nil)) (.done [] (some (.op (.bin .neq) (.cons (.inp 5) (.cons (.cst (.int .i64 0)) .nil)))))) h55_19 .skip) h55_18)
@[simp] theorem h55_20_wp {P : Program} {F : PF P} {Q : EX → List Value → World → Prop} {env : List Value} {w : World} : h55_20.wp F Q env w = HC.wp F (.seq (.br (.chk none (.bin .neq) (.cons (.inp 5) (.cons (.cst (.int .i64 0)) .nil)) (.done [] (some (.op (.bin .neq) (.cons (.inp 5) (.cons (.cst (.int .i64 0)) .nil)))))) h55_19 .skip) h55_18) Q env w := rfl
def h55_21 : HC := (.seq (.reg (.eff (.call 23) (.cons (.inp 0) .nil) (.chk none (.ext 0) (.cons (.bv 0) .nil) (.chk none (.ext 1) (.cons (.bv 0) .nil) (.done [(4, (.op (.ext 0) (.cons (.bv 0) .nil))), (5, (.op (.ext 1) (.cons (.bv 0) .nil)))] none))))) h55_20)
@[simp] theorem h55_21_wp {P : Program} {F : PF P} {Q : EX → List Value → World → Prop} {env : List Value} {w : World} : h55_21.wp F Q env w = HC.wp F (.seq (.reg (.eff (.call 23) (.cons (.inp 0) .nil) (.chk none (.ext 0) (.cons (.bv 0) .nil) (.chk none (.ext 1) (.cons (.bv 0) .nil) (.done [(4, (.op (.ext 0) (.cons (.bv 0) .nil))), (5, (.op (.ext 1) (.cons (.bv 0) .nil)))] none))))) h55_20) Q env w := rfl
def l55 : Lifted := ⟨[0, 1, 4, 5, 6, 7, 8, 9, 10, 11], 80, [.slot 2, .slot 3], (.seq (.reg (.done [(2, (.cst (.pointer none))), (3, (.cst (.int .i64 0)))] none)) h55_21)⟩
theorem l55_ok : liftFn G2 55 400 = some l55 := by kernel_rfl


theorem rRows_spec (p : Nat) (lim : Int) (its : List It) (w0 w : World) (A : Asn) (hl : its.length ≤ 1048576) (s : St w0 (A * rgs p lim its) w) :
    CallW Try.prog 47 [.pointer (some ⟨p, 0, none⟩)]
      (fun r w' => St w0 (A * rgs p lim its * own 44 4 r its.length (flat its)) w') w := by
  refine callW_of_lift l47_ok (by simp [l47]) ?_
  simp [l47]
  obtain ⟨v, s1⟩ := ropen s
  obtain ⟨a, cap, rfl, _⟩ := s1.own_val
  refine eff_ldc (v := .slice a its.length cap) (by rw [cell_of s1.swap.look]; rfl) ?_
  simp
  have s2 := s1.own_nil 44 4
  refine eff_appR s2 ((row_own s1).mono fun w s => s.drop) (flat_one _) (by decide) rfl (by unfold maxLen; omega) (by omega) ?_
  intro v' w3 s3
  simp
  have s4 : St w0 (A * pt p (.cells #[.int .i64 lim, .slice a its.length cap] 84 (0, 0)) * own 44 4 (.slice a its.length cap) its.length (flat its) * own 44 4 v' its.length (flat its)) w3 := by simpa using s3
  exact (rclose (A := A * own 44 4 v' its.length (flat its)) (lim := lim) (p := p) (its := its) (v := .slice a its.length cap) (s4.to (by ac_rfl))).swap
theorem rRows_nil (w0 w : World) (A : Asn) (s : St w0 A w) : CallW Try.prog 47 [.pointer none] (fun r w' => St w0 (A * own 44 4 r 0 []) w') w := by
  refine callW_of_lift l47_ok (by simp [l47]) ?_
  simp [l47]
  exact s.own_nil _ _
theorem rCopy_nil (w0 w : World) (A : Asn) (s : St w0 A w) : CallW Try.prog 44 [.pointer none] (fun r w' => r = .pointer none ∧ St w0 A w') w := by
  refine callW_of_lift l44_ok (by simp [l44]) ?_
  simp [l44]
  exact s
theorem rCopy_spec (p : Nat) (lim : Int) (its : List It) (w0 w : World) (A : Asn) (hl : its.length ≤ 1048576) (s : St w0 (A * rgs p lim its) w) :
    CallW Try.prog 44 [.pointer (some ⟨p, 0, none⟩)] (fun r w' => ∃ q, r = .pointer (some ⟨q, 0, none⟩) ∧ St w0 (A * rgs p lim its * rgs q lim its) w') w := by
  refine callW_of_lift l44_ok (by simp [l44]) ?_
  simp [l44]
  have L : ∀ {B : Asn} {w : World}, St w0 (B * rgs p lim its) w → w.cell? ⟨p, 0, none⟩ = some (.int .i64 lim) := fun s => by
    obtain ⟨v, s⟩ := ropen s
    rw [cell_of s.swap.look]; rfl
  refine regmI (fun vs w => match vs with
    | [] => St w0 (A * rgs p lim its) w
    | [r] => St w0 (A * rgs p lim its * own 44 4 r its.length (flat its)) w
    | [r, q] => ∃ qb, q = .pointer (some ⟨qb, 0, none⟩) ∧ St w0 (A * rgs p lim its * own 44 4 r its.length (flat its) * pt qb (.cells #[.int .i64 lim, r] 84 (0, 0))) w
    | _ => False) s.drew ?_
  simp
  refine effm_ldc (v := .int .i64 lim) (fun vs' w he hw => ?_) ?_
  · match vs', hw with
    | [], hw => exact L hw
    | [_], hw => exact L (St.swap hw)
    | [_, _], hw => simp [era] at he
  simp
  refine effm_mv rfl (fun w hw => eff_call (rRows_spec p lim its w0 w _ hl hw)) (fun r hr => ?_)
  obtain ⟨w5, hr⟩ := hr
  obtain ⟨ra, rcap, rfl, _⟩ := St.own_val hr
  simp [Instr.fill, Value.cells]
  refine effm_mv rfl (fun w hw => eff_box hw fun qb w' h => ⟨qb, rfl, h⟩) (fun q hq => ?_)
  simp
  rintro w6 x rfl h7
  refine ⟨x, rfl, ?_⟩
  exact rclose (A := A * rgs p lim its) (lim := lim) (p := x) (its := its) (v := .slice ra its.length rcap) (h7.to (by ac_rfl))
theorem get_find {its : List It} {n : Int} : getF its n = if 0 ≤ findF its n then (its.getD (n.toNat - 1) ⟨0, 0, 0, 0⟩, 0) else (⟨0, 0, 0, 0⟩, 151) := by
  unfold getF findF
  by_cases h : 1 ≤ n ∧ n ≤ its.length
  · rw [if_pos h, if_pos h, if_pos (by omega)]
  · rw [if_neg h, if_neg h, if_neg (by omega)]
theorem rGet_spec (p : Nat) (lim : Int) (its : List It) (n : Int) (w0 w : World) (A : Asn) (hwf : WF its) (hl : its.length ≤ 1048576) (s : St w0 (A * rgs p lim its) w) :
    CallW Try.prog 48 [.pointer (some ⟨p, 0, none⟩), .int .i64 n]
      (fun r w' => r = .tuple #[.agg (getF its n).1.cs.toArray, .int .i64 (getF its n).2] ∧ St w0 (A * rgs p lim its) w') w := by
  refine callW_of_lift l48_ok (by simp [l48]) ?_
  simp [l48]
  refine eff_new s ?_
  intro b w1 s1
  simp
  refine eff_call ((find_spec p lim its n w0 w1 _ hwf hl s1.swap).mono ?_)
  rintro r w2 ⟨rfl, s2⟩
  simp
  refine cndI (fun h => ?_) (fun h => ?_)
  · simp at h
    have hg : getF its n = (⟨0, 0, 0, 0⟩, 151) := by rw [get_find, if_neg (by omega)]
    simp [Instr.fill, Value.cells]
    refine eff_stA (vs := It.cs ⟨0, 0, 0, 0⟩) s2.swap rfl rfl (cs_one _) (by simp) ?_
    intro w3 s3
    simp
    have s4 : St w0 (A * rgs p lim its * pt b (.cells (It.cs ⟨0, 0, 0, 0⟩).toArray 44 (0, 0))) w3 := by simpa using s3
    refine rv_cellA (vs := It.cs ⟨0, 0, 0, 0⟩) rfl s4.row_cells rfl ?_
    simp [hg]
    exact s4.drop
  · simp at h
    obtain ⟨i, rfl, hi, hf⟩ := find_at h
    have hg : getF its (i + 1) = (its[i], 0) := get_at hi
    rw [hf]
    simp
    obtain ⟨v, s3⟩ := ropen s2
    obtain ⟨g, cap, rfl, _, hc⟩ := s3.own_at (by omega)
    refine eff_ldc (v := .slice (some ⟨g, 0, none⟩) its.length cap) (by rw [cell_of s3.swap.look]; rfl) ?_
    simp [hi]
    refine eff_ldcs (vs := its[i].cs) (fun j u hu => hc _ _ (flat_at hi j u hu)) rfl ?_
    simp
    refine eff_stA (vs := its[i].cs) s2.swap rfl rfl (cs_one _) (by simp) ?_
    intro w3 s3
    simp
    have s4 : St w0 (A * rgs p lim its * pt b (.cells its[i].cs.toArray 44 (0, 0))) w3 := by simpa using s3
    refine rv_cellA (vs := its[i].cs) rfl s4.row_cells rfl ?_
    simp [hg]
    exact s4.drop
theorem rGet_nil (n : Int) (w0 w : World) (A : Asn) (s : St w0 A w) : CallW Try.prog 48 [.pointer none, .int .i64 n] (fun r w' => r = .tuple #[.agg (It.cs ⟨0, 0, 0, 0⟩).toArray, .int .i64 1] ∧ St w0 A w') w := by
  refine callW_of_lift l48_ok (by simp [l48]) ?_
  simp [l48]
  refine eff_new s ?_
  intro b w1 s1
  simp [Instr.fill, Value.cells]
  refine eff_stA (vs := It.cs ⟨0, 0, 0, 0⟩) s1 rfl rfl (cs_one _) (by simp) ?_
  intro w2 s3
  simp
  have s4 : St w0 (A * pt b (.cells (It.cs ⟨0, 0, 0, 0⟩).toArray 44 (0, 0))) w2 := by simpa using s3
  refine rv_cellA (vs := It.cs ⟨0, 0, 0, 0⟩) rfl s4.row_cells rfl ?_
  simp
  exact s4.drop
theorem rOf_nil (a : Int) (w0 w : World) (A : Asn) (s : St w0 A w) : CallW Try.prog 49 [.pointer none, .int .i64 a] (fun r w' => St w0 (A * own 3 1 r 0 []) w') w := by
  refine callW_of_lift l49_ok (by simp [l49]) ?_
  simp [l49]
  exact s.own_nil _ _
theorem rIn_nil (a : Int) (w0 w : World) (A : Asn) (s : St w0 A w) : CallW Try.prog 50 [.pointer none, .int .i64 a] (fun r w' => St w0 (A * own 3 1 r 0 []) w') w := by
  refine callW_of_lift l50_ok (by simp [l50]) ?_
  simp [l50]
  exact s.own_nil _ _
end Go.HL.Gd
