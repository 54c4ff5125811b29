/-
  Goods: Get, Rows, Of, In, Kinds. Conditions: so many items at most.
-/
import Derived.Test.YtfcgookobpjdgaaGdB
namespace Go.HL.Gd
open Go.HL Go.Proofs
set_option maxRecDepth 4000
set_option linter.unusedSimpArgs false
set_option linter.unusedVariables false
-- (*bazaar/goods.Goods).Get
def h32_0 : HC := (.seq (.reg (.chk none .chkp (.cons (.inp 0) .nil) (.chk none (.fld 1) (.cons (.op .chkp (.cons (.inp 0) .nil)) .nil) (.eff (.ld false 1) (.cons (.op (.fld 1) (.cons (.op .chkp (.cons (.inp 0) .nil)) .nil)) .nil) (.chk none (.bin .sub) (.cons (.inp 1) (.cons (.cst (.int .i64 1)) .nil)) (.chk none (.idxL 4) (.cons (.bv 0) (.cons (.op (.bin .sub) (.cons (.inp 1) (.cons (.cst (.int .i64 1)) .nil))) .nil)) (.chk none (.fld 0) (.cons (.op (.idxL 4) (.cons (.bv 0) (.cons (.op (.bin .sub) (.cons (.inp 1) (.cons (.cst (.int .i64 1)) .nil))) .nil))) .nil) (.eff (.ld true 4) (.cons (.op (.fld 0) (.cons (.op (.idxL 4) (.cons (.bv 0) (.cons (.op (.bin .sub) (.cons (.inp 1) (.cons (.cst (.int .i64 1)) .nil))) .nil))) .nil)) .nil) (.eff (.st 4) (.cons (.inp 2) (.cons (.bv 1) .nil)) (.done [(3, (.cst (.int .i64 0)))] none)))))))))) .ret)
@[simp] theorem h32_0_wp {P : Program} {F : PF P} {Q : EX → List Value → World → Prop} {env : List Value} {w : World} : h32_0.wp F Q env w = HC.wp F (.seq (.reg (.chk none .chkp (.cons (.inp 0) .nil) (.chk none (.fld 1) (.cons (.op .chkp (.cons (.inp 0) .nil)) .nil) (.eff (.ld false 1) (.cons (.op (.fld 1) (.cons (.op .chkp (.cons (.inp 0) .nil)) .nil)) .nil) (.chk none (.bin .sub) (.cons (.inp 1) (.cons (.cst (.int .i64 1)) .nil)) (.chk none (.idxL 4) (.cons (.bv 0) (.cons (.op (.bin .sub) (.cons (.inp 1) (.cons (.cst (.int .i64 1)) .nil))) .nil)) (.chk none (.fld 0) (.cons (.op (.idxL 4) (.cons (.bv 0) (.cons (.op (.bin .sub) (.cons (.inp 1) (.cons (.cst (.int .i64 1)) .nil))) .nil))) .nil) (.eff (.ld true 4) (.cons (.op (.fld 0) (.cons (.op (.idxL 4) (.cons (.bv 0) (.cons (.op (.bin .sub) (.cons (.inp 1) (.cons (.cst (.int .i64 1)) .nil))) .nil))) .nil)) .nil) (.eff (.st 4) (.cons (.inp 2) (.cons (.bv 1) .nil)) (.done [(3, (.cst (.int .i64 0)))] none)))))))))) .ret) Q env w := rfl
def h32_1 : HC := (.seq (.reg (.chk none (.build #[(.int .i64 0), (.int .i64 0), (.int .i64 0), (.int .i64 0)] [(0, 1), (1, 1), (2, 1), (3, 1)] []) .nil (.eff (.st 4) (.cons (.inp 2) (.cons (.op (.build #[(.int .i64 0), (.int .i64 0), (.int .i64 0), (.int .i64 0)] [(0, 1), (1, 1), (2, 1), (3, 1)] []) .nil) .nil)) (.done [(3, (.cst (.int .i64 1)))] none)))) .ret)
@[simp] theorem h32_1_wp {P : Program} {F : PF P} {Q : EX → List Value → World → Prop} {env : List Value} {w : World} : h32_1.wp F Q env w = HC.wp F (.seq (.reg (.chk none (.build #[(.int .i64 0), (.int .i64 0), (.int .i64 0), (.int .i64 0)] [(0, 1), (1, 1), (2, 1), (3, 1)] []) .nil (.eff (.st 4) (.cons (.inp 2) (.cons (.op (.build #[(.int .i64 0), (.int .i64 0), (.int .i64 0), (.int .i64 0)] [(0, 1), (1, 1), (2, 1), (3, 1)] []) .nil) .nil)) (.done [(3, (.cst (.int .i64 1)))] none)))) .ret) Q env w := rfl
def h32_2 : HC := (.seq (.reg (.chk none (.build #[(.int .i64 0), (.int .i64 0), (.int .i64 0), (.int .i64 0)] [(0, 1), (1, 1), (2, 1), (3, 1)] []) .nil (.eff (.st 4) (.cons (.inp 2) (.cons (.op (.build #[(.int .i64 0), (.int .i64 0), (.int .i64 0), (.int .i64 0)] [(0, 1), (1, 1), (2, 1), (3, 1)] []) .nil) .nil)) (.done [(3, (.cst (.int .i64 151)))] none)))) .ret)
@[simp] theorem h32_2_wp {P : Program} {F : PF P} {Q : EX → List Value → World → Prop} {env : List Value} {w : World} : h32_2.wp F Q env w = HC.wp F (.seq (.reg (.chk none (.build #[(.int .i64 0), (.int .i64 0), (.int .i64 0), (.int .i64 0)] [(0, 1), (1, 1), (2, 1), (3, 1)] []) .nil (.eff (.st 4) (.cons (.inp 2) (.cons (.op (.build #[(.int .i64 0), (.int .i64 0), (.int .i64 0), (.int .i64 0)] [(0, 1), (1, 1), (2, 1), (3, 1)] []) .nil) .nil)) (.done [(3, (.cst (.int .i64 151)))] none)))) .ret) Q env w := rfl
def h32_3 : HC := (.br (.chk none (.bin .lss) (.cons (.inp 1) (.cons (.cst (.int .i64 1)) .nil)) (.bnd (.op (.bin .lss) (.cons (.inp 1) (.cons (.cst (.int .i64 1)) .nil))) (.chk (some ((.bv 0), false)) .chkp (.cons (.inp 0) .nil) (.chk (some ((.bv 0), false)) (.fld 1) (.cons (.op .chkp (.cons (.inp 0) .nil)) .nil) (.ite (.bv 0) false (.eff (.ld false 1) (.cons (.ite (.bv 0) false (.op (.fld 1) (.cons (.op .chkp (.cons (.inp 0) .nil)) .nil)) (.cst (.tuple #[]))) .nil) (.chk none .lenL (.cons (.bv 1) .nil) (.chk none (.bin .gtr) (.cons (.ite (.bv 0) false (.inp 1) (.cst (.tuple #[]))) (.cons (.op .lenL (.cons (.bv 1) .nil)) .nil)) (.isb none (.bv 0) (.done [] (some (.op (.bin .gtr) (.cons (.ite (.bv 0) false (.inp 1) (.cst (.tuple #[]))) (.cons (.op .lenL (.cons (.bv 1) .nil)) .nil))))))))) (.isb none (.bv 0) (.done [] (some (.cst (.bool true)))))))))) h32_2 .skip)
@[simp] theorem h32_3_wp {P : Program} {F : PF P} {Q : EX → List Value → World → Prop} {env : List Value} {w : World} : h32_3.wp F Q env w = HC.wp F (.br (.chk none (.bin .lss) (.cons (.inp 1) (.cons (.cst (.int .i64 1)) .nil)) (.bnd (.op (.bin .lss) (.cons (.inp 1) (.cons (.cst (.int .i64 1)) .nil))) (.chk (some ((.bv 0), false)) .chkp (.cons (.inp 0) .nil) (.chk (some ((.bv 0), false)) (.fld 1) (.cons (.op .chkp (.cons (.inp 0) .nil)) .nil) (.ite (.bv 0) false (.eff (.ld false 1) (.cons (.ite (.bv 0) false (.op (.fld 1) (.cons (.op .chkp (.cons (.inp 0) .nil)) .nil)) (.cst (.tuple #[]))) .nil) (.chk none .lenL (.cons (.bv 1) .nil) (.chk none (.bin .gtr) (.cons (.ite (.bv 0) false (.inp 1) (.cst (.tuple #[]))) (.cons (.op .lenL (.cons (.bv 1) .nil)) .nil)) (.isb none (.bv 0) (.done [] (some (.op (.bin .gtr) (.cons (.ite (.bv 0) false (.inp 1) (.cst (.tuple #[]))) (.cons (.op .lenL (.cons (.bv 1) .nil)) .nil))))))))) (.isb none (.bv 0) (.done [] (some (.cst (.bool true)))))))))) h32_2 .skip) Q env w := rfl
def h32_4 : HC := (.br (.chk none (.eqNil false (.pointer 71) (.pointer none)) (.cons (.inp 0) .nil) (.done [] (some (.op (.eqNil false (.pointer 71) (.pointer none)) (.cons (.inp 0) .nil))))) h32_1 h32_3)
@[simp] theorem h32_4_wp {P : Program} {F : PF P} {Q : EX → List Value → World → Prop} {env : List Value} {w : World} : h32_4.wp F Q env w = HC.wp F (.br (.chk none (.eqNil false (.pointer 71) (.pointer none)) (.cons (.inp 0) .nil) (.done [] (some (.op (.eqNil false (.pointer 71) (.pointer none)) (.cons (.inp 0) .nil))))) h32_1 h32_3) Q env w := rfl
def h32_5 : HC := (.seq (.block 0 h32_4) h32_0)
@[simp] theorem h32_5_wp {P : Program} {F : PF P} {Q : EX → List Value → World → Prop} {env : List Value} {w : World} : h32_5.wp F Q env w = HC.wp F (.seq (.block 0 h32_4) h32_0) Q env w := rfl
def l32 : Lifted := ⟨[0, 1, 4, 5], 32, [.cell 2 true 4, .slot 3], (.seq (.reg (.eff (.new 44 (.agg #[(.int .i64 0), (.int .i64 0), (.int .i64 0), (.int .i64 0)])) .nil (.done [(2, (.bv 0)), (3, (.cst (.int .i64 0)))] none))) h32_5)⟩
theorem l32_ok : liftFn G1 32 400 = some l32 := by kernel_rfl

-- (*bazaar/goods.Goods).Rows
def h11_0 : HC := (.seq (.reg (.done [(1, (.inp 2))] none)) .ret)
@[simp] theorem h11_0_wp {P : Program} {F : PF P} {Q : EX → List Value → World → Prop} {env : List Value} {w : World} : h11_0.wp F Q env w = HC.wp F (.seq (.reg (.done [(1, (.inp 2))] none)) .ret) Q env w := rfl
def h11_1 : HC := (.reg (.chk none (.bin .add) (.cons (.inp 6) (.cons (.cst (.int .i64 1)) .nil)) (.done [(6, (.op (.bin .add) (.cons (.inp 6) (.cons (.cst (.int .i64 1)) .nil))))] none)))
@[simp] theorem h11_1_wp {P : Program} {F : PF P} {Q : EX → List Value → World → Prop} {env : List Value} {w : World} : h11_1.wp F Q env w = HC.wp F (.reg (.chk none (.bin .add) (.cons (.inp 6) (.cons (.cst (.int .i64 1)) .nil)) (.done [(6, (.op (.bin .add) (.cons (.inp 6) (.cons (.cst (.int .i64 1)) .nil))))] none))) Q env w := rfl
def h11_2 : HC := (.reg (.chk none (.fld 0) (.cons (.inp 3) .nil) (.eff (.ld true 4) (.cons (.op (.fld 0) (.cons (.inp 3) .nil)) .nil) (.eff (.bsl 44 1 4 #[(.int .i64 0), (.int .i64 0), (.int .i64 0), (.int .i64 0)] [0]) (.cons (.bv 0) .nil) (.eff (.app 30 30 44 4 32 (.agg #[(.int .i64 0), (.int .i64 0), (.int .i64 0), (.int .i64 0)])) (.cons (.inp 2) (.cons (.bv 1) .nil)) (.done [(2, (.bv 2))] none))))))
@[simp] theorem h11_2_wp {P : Program} {F : PF P} {Q : EX → List Value → World → Prop} {env : List Value} {w : World} : h11_2.wp F Q env w = HC.wp F (.reg (.chk none (.fld 0) (.cons (.inp 3) .nil) (.eff (.ld true 4) (.cons (.op (.fld 0) (.cons (.inp 3) .nil)) .nil) (.eff (.bsl 44 1 4 #[(.int .i64 0), (.int .i64 0), (.int .i64 0), (.int .i64 0)] [0]) (.cons (.bv 0) .nil) (.eff (.app 30 30 44 4 32 (.agg #[(.int .i64 0), (.int .i64 0), (.int .i64 0), (.int .i64 0)])) (.cons (.inp 2) (.cons (.bv 1) .nil)) (.done [(2, (.bv 2))] none)))))) Q env w := rfl
def h11_3 : HC := (.seq (.reg (.chk none (.idxL 4) (.cons (.inp 4) (.cons (.inp 6) .nil)) (.eff (.ld true 4) (.cons (.op (.idxL 4) (.cons (.inp 4) (.cons (.inp 6) .nil))) .nil) (.eff (.new 73 (.agg #[(.int .i64 0), (.int .i64 0), (.int .i64 0), (.int .i64 0)])) .nil (.eff (.st 4) (.cons (.bv 1) (.cons (.bv 0) .nil)) (.done [(3, (.bv 1))] none)))))) h11_2)
@[simp] theorem h11_3_wp {P : Program} {F : PF P} {Q : EX → List Value → World → Prop} {env : List Value} {w : World} : h11_3.wp F Q env w = HC.wp F (.seq (.reg (.chk none (.idxL 4) (.cons (.inp 4) (.cons (.inp 6) .nil)) (.eff (.ld true 4) (.cons (.op (.idxL 4) (.cons (.inp 4) (.cons (.inp 6) .nil))) .nil) (.eff (.new 73 (.agg #[(.int .i64 0), (.int .i64 0), (.int .i64 0), (.int .i64 0)])) .nil (.eff (.st 4) (.cons (.bv 1) (.cons (.bv 0) .nil)) (.done [(3, (.bv 1))] none)))))) h11_2) Q env w := rfl
def h11_4 : HC := (.seq (.block 1 h11_3) h11_1)
@[simp] theorem h11_4_wp {P : Program} {F : PF P} {Q : EX → List Value → World → Prop} {env : List Value} {w : World} : h11_4.wp F Q env w = HC.wp F (.seq (.block 1 h11_3) h11_1) Q env w := rfl
def h11_5 : HC := (.seq (.br (.chk none (.bin .lss) (.cons (.inp 6) (.cons (.inp 5) .nil)) (.done [] (some (.op (.bin .lss) (.cons (.inp 6) (.cons (.inp 5) .nil)))))) .skip (.exit 0)) h11_4)
@[simp] theorem h11_5_wp {P : Program} {F : PF P} {Q : EX → List Value → World → Prop} {env : List Value} {w : World} : h11_5.wp F Q env w = HC.wp F (.seq (.br (.chk none (.bin .lss) (.cons (.inp 6) (.cons (.inp 5) .nil)) (.done [] (some (.op (.bin .lss) (.cons (.inp 6) (.cons (.inp 5) .nil)))))) .skip (.exit 0)) h11_4) Q env w := rfl
def h11_6 : HC := (.loop h11_5)
@[simp] theorem h11_6_wp {P : Program} {F : PF P} {Q : EX → List Value → World → Prop} {env : List Value} {w : World} : h11_6.wp F Q env w = HC.wp F (.loop h11_5) Q env w := rfl
def h11_7 : HC := (.seq (.block 0 h11_6) h11_0)
@[simp] theorem h11_7_wp {P : Program} {F : PF P} {Q : EX → List Value → World → Prop} {env : List Value} {w : World} : h11_7.wp F Q env w = HC.wp F (.seq (.block 0 h11_6) h11_0) Q env w := rfl
def h11_8 : HC := (.seq (.reg (.chk none .chkp (.cons (.inp 0) .nil) (.chk none (.fld 1) (.cons (.op .chkp (.cons (.inp 0) .nil)) .nil) (.eff (.ld false 1) (.cons (.op (.fld 1) (.cons (.op .chkp (.cons (.inp 0) .nil)) .nil)) .nil) (.chk none .lenL (.cons (.bv 0) .nil) (.done [(4, (.bv 0)), (5, (.op .lenL (.cons (.bv 0) .nil))), (6, (.cst (.int .i64 0)))] none)))))) h11_7)
@[simp] theorem h11_8_wp {P : Program} {F : PF P} {Q : EX → List Value → World → Prop} {env : List Value} {w : World} : h11_8.wp F Q env w = HC.wp F (.seq (.reg (.chk none .chkp (.cons (.inp 0) .nil) (.chk none (.fld 1) (.cons (.op .chkp (.cons (.inp 0) .nil)) .nil) (.eff (.ld false 1) (.cons (.op (.fld 1) (.cons (.op .chkp (.cons (.inp 0) .nil)) .nil)) .nil) (.chk none .lenL (.cons (.bv 0) .nil) (.done [(4, (.bv 0)), (5, (.op .lenL (.cons (.bv 0) .nil))), (6, (.cst (.int .i64 0)))] none)))))) h11_7) Q env w := rfl
def h11_9 : HC := (.seq (.reg (.done [(2, (.cst (.slice none 0 0)))] none)) h11_8)
@[simp] theorem h11_9_wp {P : Program} {F : PF P} {Q : EX → List Value → World → Prop} {env : List Value} {w : World} : h11_9.wp F Q env w = HC.wp F (.seq (.reg (.done [(2, (.cst (.slice none 0 0)))] none)) h11_8) Q env w := rfl
def h11_10 : HC := (.seq (.reg (.done [(1, (.cst (.slice none 0 0)))] none)) .ret)
@[simp] theorem h11_10_wp {P : Program} {F : PF P} {Q : EX → List Value → World → Prop} {env : List Value} {w : World} : h11_10.wp F Q env w = HC.wp F (.seq (.reg (.done [(1, (.cst (.slice none 0 0)))] none)) .ret) Q env w := rfl
def h11_11 : HC := (.seq (.br (.chk none (.eqNil false (.pointer 71) (.pointer none)) (.cons (.inp 0) .nil) (.done [] (some (.op (.eqNil false (.pointer 71) (.pointer none)) (.cons (.inp 0) .nil))))) h11_10 .skip) h11_9)
@[simp] theorem h11_11_wp {P : Program} {F : PF P} {Q : EX → List Value → World → Prop} {env : List Value} {w : World} : h11_11.wp F Q env w = HC.wp F (.seq (.br (.chk none (.eqNil false (.pointer 71) (.pointer none)) (.cons (.inp 0) .nil) (.done [] (some (.op (.eqNil false (.pointer 71) (.pointer none)) (.cons (.inp 0) .nil))))) h11_10 .skip) h11_9) Q env w := rfl
def l11 : Lifted := ⟨[0, 2, 3, 5, 11, 12, 13], 24, [.slot 1], (.seq (.reg (.done [(1, (.cst (.slice none 0 0)))] none)) h11_11)⟩
theorem l11_ok : liftFn G1 11 400 = some l11 := by kernel_rfl

-- (*bazaar/goods.Goods).where
def h37_0 : HC := (.seq (.reg (.done [(2, (.inp 3))] none)) .ret)
@[simp] theorem h37_0_wp {P : Program} {F : PF P} {Q : EX → List Value → World → Prop} {env : List Value} {w : World} : h37_0.wp F Q env w = HC.wp F (.seq (.reg (.done [(2, (.inp 3))] none)) .ret) Q env w := rfl
def h37_1 : HC := (.reg (.chk none (.bin .add) (.cons (.inp 7) (.cons (.cst (.int .i64 1)) .nil)) (.done [(7, (.op (.bin .add) (.cons (.inp 7) (.cons (.cst (.int .i64 1)) .nil))))] none)))
@[simp] theorem h37_1_wp {P : Program} {F : PF P} {Q : EX → List Value → World → Prop} {env : List Value} {w : World} : h37_1.wp F Q env w = HC.wp F (.reg (.chk none (.bin .add) (.cons (.inp 7) (.cons (.cst (.int .i64 1)) .nil)) (.done [(7, (.op (.bin .add) (.cons (.inp 7) (.cons (.cst (.int .i64 1)) .nil))))] none))) Q env w := rfl
def h37_2 : HC := (.reg (.chk none (.fld 0) (.cons (.inp 4) .nil) (.chk none (.fld 0) (.cons (.op (.fld 0) (.cons (.inp 4) .nil)) .nil) (.eff (.ld false 1) (.cons (.op (.fld 0) (.cons (.op (.fld 0) (.cons (.inp 4) .nil)) .nil)) .nil) (.eff (.bsl 3 1 1 #[(.int .i64 0)] [0]) (.cons (.bv 0) .nil) (.eff (.app 46 46 3 1 8 (.int .i64 0)) (.cons (.inp 3) (.cons (.bv 1) .nil)) (.done [(3, (.bv 2))] none)))))))
@[simp] theorem h37_2_wp {P : Program} {F : PF P} {Q : EX → List Value → World → Prop} {env : List Value} {w : World} : h37_2.wp F Q env w = HC.wp F (.reg (.chk none (.fld 0) (.cons (.inp 4) .nil) (.chk none (.fld 0) (.cons (.op (.fld 0) (.cons (.inp 4) .nil)) .nil) (.eff (.ld false 1) (.cons (.op (.fld 0) (.cons (.op (.fld 0) (.cons (.inp 4) .nil)) .nil)) .nil) (.eff (.bsl 3 1 1 #[(.int .i64 0)] [0]) (.cons (.bv 0) .nil) (.eff (.app 46 46 3 1 8 (.int .i64 0)) (.cons (.inp 3) (.cons (.bv 1) .nil)) (.done [(3, (.bv 2))] none))))))) Q env w := rfl
def h37_3 : HC := (.br (.eff (.ld true 4) (.cons (.inp 4) .nil) (.eff .callv (.cons (.inp 1) (.cons (.bv 0) .nil)) (.done [] (some (.bv 1))))) h37_2 .skip)
@[simp] theorem h37_3_wp {P : Program} {F : PF P} {Q : EX → List Value → World → Prop} {env : List Value} {w : World} : h37_3.wp F Q env w = HC.wp F (.br (.eff (.ld true 4) (.cons (.inp 4) .nil) (.eff .callv (.cons (.inp 1) (.cons (.bv 0) .nil)) (.done [] (some (.bv 1))))) h37_2 .skip) Q env w := rfl
def h37_4 : HC := (.seq (.reg (.chk none (.idxL 4) (.cons (.inp 5) (.cons (.inp 7) .nil)) (.eff (.ld true 4) (.cons (.op (.idxL 4) (.cons (.inp 5) (.cons (.inp 7) .nil))) .nil) (.eff (.new 73 (.agg #[(.int .i64 0), (.int .i64 0), (.int .i64 0), (.int .i64 0)])) .nil (.eff (.st 4) (.cons (.bv 1) (.cons (.bv 0) .nil)) (.done [(4, (.bv 1))] none)))))) h37_3)
@[simp] theorem h37_4_wp {P : Program} {F : PF P} {Q : EX → List Value → World → Prop} {env : List Value} {w : World} : h37_4.wp F Q env w = HC.wp F (.seq (.reg (.chk none (.idxL 4) (.cons (.inp 5) (.cons (.inp 7) .nil)) (.eff (.ld true 4) (.cons (.op (.idxL 4) (.cons (.inp 5) (.cons (.inp 7) .nil))) .nil) (.eff (.new 73 (.agg #[(.int .i64 0), (.int .i64 0), (.int .i64 0), (.int .i64 0)])) .nil (.eff (.st 4) (.cons (.bv 1) (.cons (.bv 0) .nil)) (.done [(4, (.bv 1))] none)))))) h37_3) Q env w := rfl
def h37_5 : HC := (.seq (.block 1 h37_4) h37_1)
@[simp] theorem h37_5_wp {P : Program} {F : PF P} {Q : EX → List Value → World → Prop} {env : List Value} {w : World} : h37_5.wp F Q env w = HC.wp F (.seq (.block 1 h37_4) h37_1) Q env w := rfl
def h37_6 : HC := (.seq (.br (.chk none (.bin .lss) (.cons (.inp 7) (.cons (.inp 6) .nil)) (.done [] (some (.op (.bin .lss) (.cons (.inp 7) (.cons (.inp 6) .nil)))))) .skip (.exit 0)) h37_5)
@[simp] theorem h37_6_wp {P : Program} {F : PF P} {Q : EX → List Value → World → Prop} {env : List Value} {w : World} : h37_6.wp F Q env w = HC.wp F (.seq (.br (.chk none (.bin .lss) (.cons (.inp 7) (.cons (.inp 6) .nil)) (.done [] (some (.op (.bin .lss) (.cons (.inp 7) (.cons (.inp 6) .nil)))))) .skip (.exit 0)) h37_5) Q env w := rfl
def h37_7 : HC := (.loop h37_6)
@[simp] theorem h37_7_wp {P : Program} {F : PF P} {Q : EX → List Value → World → Prop} {env : List Value} {w : World} : h37_7.wp F Q env w = HC.wp F (.loop h37_6) Q env w := rfl
def h37_8 : HC := (.seq (.block 0 h37_7) h37_0)
@[simp] theorem h37_8_wp {P : Program} {F : PF P} {Q : EX → List Value → World → Prop} {env : List Value} {w : World} : h37_8.wp F Q env w = HC.wp F (.seq (.block 0 h37_7) h37_0) Q env w := rfl
def h37_9 : HC := (.seq (.reg (.chk none .chkp (.cons (.inp 0) .nil) (.chk none (.fld 1) (.cons (.op .chkp (.cons (.inp 0) .nil)) .nil) (.eff (.ld false 1) (.cons (.op (.fld 1) (.cons (.op .chkp (.cons (.inp 0) .nil)) .nil)) .nil) (.chk none .lenL (.cons (.bv 0) .nil) (.done [(5, (.bv 0)), (6, (.op .lenL (.cons (.bv 0) .nil))), (7, (.cst (.int .i64 0)))] none)))))) h37_8)
@[simp] theorem h37_9_wp {P : Program} {F : PF P} {Q : EX → List Value → World → Prop} {env : List Value} {w : World} : h37_9.wp F Q env w = HC.wp F (.seq (.reg (.chk none .chkp (.cons (.inp 0) .nil) (.chk none (.fld 1) (.cons (.op .chkp (.cons (.inp 0) .nil)) .nil) (.eff (.ld false 1) (.cons (.op (.fld 1) (.cons (.op .chkp (.cons (.inp 0) .nil)) .nil)) .nil) (.chk none .lenL (.cons (.bv 0) .nil) (.done [(5, (.bv 0)), (6, (.op .lenL (.cons (.bv 0) .nil))), (7, (.cst (.int .i64 0)))] none)))))) h37_8) Q env w := rfl
def h37_10 : HC := (.seq (.reg (.done [(3, (.cst (.slice none 0 0)))] none)) h37_9)
@[simp] theorem h37_10_wp {P : Program} {F : PF P} {Q : EX → List Value → World → Prop} {env : List Value} {w : World} : h37_10.wp F Q env w = HC.wp F (.seq (.reg (.done [(3, (.cst (.slice none 0 0)))] none)) h37_9) Q env w := rfl
def h37_11 : HC := (.seq (.reg (.done [(2, (.cst (.slice none 0 0)))] none)) .ret)
@[simp] theorem h37_11_wp {P : Program} {F : PF P} {Q : EX → List Value → World → Prop} {env : List Value} {w : World} : h37_11.wp F Q env w = HC.wp F (.seq (.reg (.done [(2, (.cst (.slice none 0 0)))] none)) .ret) Q env w := rfl
def h37_12 : HC := (.seq (.br (.chk none (.eqNil false (.pointer 71) (.pointer none)) (.cons (.inp 0) .nil) (.done [] (some (.op (.eqNil false (.pointer 71) (.pointer none)) (.cons (.inp 0) .nil))))) h37_11 .skip) h37_10)
@[simp] theorem h37_12_wp {P : Program} {F : PF P} {Q : EX → List Value → World → Prop} {env : List Value} {w : World} : h37_12.wp F Q env w = HC.wp F (.seq (.br (.chk none (.eqNil false (.pointer 71) (.pointer none)) (.cons (.inp 0) .nil) (.done [] (some (.op (.eqNil false (.pointer 71) (.pointer none)) (.cons (.inp 0) .nil))))) h37_11 .skip) h37_10) Q env w := rfl
def l37 : Lifted := ⟨[0, 1, 4, 5, 7, 13, 14, 15], 30, [.slot 2], (.seq (.reg (.done [(2, (.cst (.slice none 0 0)))] none)) h37_12)⟩
theorem l37_ok : liftFn G1 37 400 = some l37 := by kernel_rfl

-- (*bazaar/goods.Goods).Of$1
def h38_0 : HC := (.seq (.reg (.eff (.ld true 4) (.cons (.inp 2) .nil) (.eff (.call 35) (.cons (.bv 0) .nil) (.chk none (.un .not) (.cons (.bv 1) .nil) (.bnd (.op (.un .not) (.cons (.bv 1) .nil)) (.chk (some ((.bv 2), true)) (.fld 0) (.cons (.inp 2) .nil) (.chk (some ((.bv 2), true)) (.fld 2) (.cons (.op (.fld 0) (.cons (.inp 2) .nil)) .nil) (.ite (.bv 2) true (.eff (.ld false 1) (.cons (.ite (.bv 2) true (.op (.fld 2) (.cons (.op (.fld 0) (.cons (.inp 2) .nil)) .nil)) (.cst (.tuple #[]))) .nil) (.eff (.ld false 1) (.cons (.inp 1) .nil) (.chk none (.bin .eql) (.cons (.bv 3) (.cons (.bv 4) .nil)) (.isb none (.bv 2) (.done [(3, (.op (.bin .eql) (.cons (.bv 3) (.cons (.bv 4) .nil))))] none))))) (.isb none (.bv 2) (.done [(3, (.cst (.bool false)))] none)))))))))) .ret)
@[simp] theorem h38_0_wp {P : Program} {F : PF P} {Q : EX → List Value → World → Prop} {env : List Value} {w : World} : h38_0.wp F Q env w = HC.wp F (.seq (.reg (.eff (.ld true 4) (.cons (.inp 2) .nil) (.eff (.call 35) (.cons (.bv 0) .nil) (.chk none (.un .not) (.cons (.bv 1) .nil) (.bnd (.op (.un .not) (.cons (.bv 1) .nil)) (.chk (some ((.bv 2), true)) (.fld 0) (.cons (.inp 2) .nil) (.chk (some ((.bv 2), true)) (.fld 2) (.cons (.op (.fld 0) (.cons (.inp 2) .nil)) .nil) (.ite (.bv 2) true (.eff (.ld false 1) (.cons (.ite (.bv 2) true (.op (.fld 2) (.cons (.op (.fld 0) (.cons (.inp 2) .nil)) .nil)) (.cst (.tuple #[]))) .nil) (.eff (.ld false 1) (.cons (.inp 1) .nil) (.chk none (.bin .eql) (.cons (.bv 3) (.cons (.bv 4) .nil)) (.isb none (.bv 2) (.done [(3, (.op (.bin .eql) (.cons (.bv 3) (.cons (.bv 4) .nil))))] none))))) (.isb none (.bv 2) (.done [(3, (.cst (.bool false)))] none)))))))))) .ret) Q env w := rfl
def l38 : Lifted := ⟨[0, 1, 2, 3], 14, [.slot 3], (.seq (.reg (.eff (.box 73) (.cons (.inp 0) .nil) (.done [(2, (.bv 0)), (3, (.cst (.bool false)))] none))) h38_0)⟩
theorem l38_ok : liftFn G1 38 400 = some l38 := by kernel_rfl

-- (*bazaar/goods.Goods).In$1
def h39_0 : HC := (.seq (.reg (.eff (.ld true 4) (.cons (.inp 2) .nil) (.eff (.call 35) (.cons (.bv 0) .nil) (.chk (some ((.bv 1), true)) (.fld 0) (.cons (.inp 2) .nil) (.chk (some ((.bv 1), true)) (.fld 3) (.cons (.op (.fld 0) (.cons (.inp 2) .nil)) .nil) (.ite (.bv 1) true (.eff (.ld false 1) (.cons (.ite (.bv 1) true (.op (.fld 3) (.cons (.op (.fld 0) (.cons (.inp 2) .nil)) .nil)) (.cst (.tuple #[]))) .nil) (.eff (.ld false 1) (.cons (.inp 1) .nil) (.chk none (.bin .eql) (.cons (.bv 2) (.cons (.bv 3) .nil)) (.isb none (.bv 1) (.done [(3, (.op (.bin .eql) (.cons (.bv 2) (.cons (.bv 3) .nil))))] none))))) (.isb none (.bv 1) (.done [(3, (.cst (.bool false)))] none)))))))) .ret)
@[simp] theorem h39_0_wp {P : Program} {F : PF P} {Q : EX → List Value → World → Prop} {env : List Value} {w : World} : h39_0.wp F Q env w = HC.wp F (.seq (.reg (.eff (.ld true 4) (.cons (.inp 2) .nil) (.eff (.call 35) (.cons (.bv 0) .nil) (.chk (some ((.bv 1), true)) (.fld 0) (.cons (.inp 2) .nil) (.chk (some ((.bv 1), true)) (.fld 3) (.cons (.op (.fld 0) (.cons (.inp 2) .nil)) .nil) (.ite (.bv 1) true (.eff (.ld false 1) (.cons (.ite (.bv 1) true (.op (.fld 3) (.cons (.op (.fld 0) (.cons (.inp 2) .nil)) .nil)) (.cst (.tuple #[]))) .nil) (.eff (.ld false 1) (.cons (.inp 1) .nil) (.chk none (.bin .eql) (.cons (.bv 2) (.cons (.bv 3) .nil)) (.isb none (.bv 1) (.done [(3, (.op (.bin .eql) (.cons (.bv 2) (.cons (.bv 3) .nil))))] none))))) (.isb none (.bv 1) (.done [(3, (.cst (.bool false)))] none)))))))) .ret) Q env w := rfl
def l39 : Lifted := ⟨[0, 1, 2, 3], 13, [.slot 3], (.seq (.reg (.eff (.box 73) (.cons (.inp 0) .nil) (.done [(2, (.bv 0)), (3, (.cst (.bool false)))] none))) h39_0)⟩
theorem l39_ok : liftFn G1 39 400 = some l39 := by kernel_rfl

-- (*bazaar/goods.Goods).Of
def h19_0 : HC := (.seq (.reg (.chk none (.mkf (.func 38) 0) (.cons (.inp 2) .nil) (.eff (.call 37) (.cons (.inp 0) (.cons (.op (.mkf (.func 38) 0) (.cons (.inp 2) .nil)) .nil)) (.done [(3, (.bv 0))] none)))) .ret)
@[simp] theorem h19_0_wp {P : Program} {F : PF P} {Q : EX → List Value → World → Prop} {env : List Value} {w : World} : h19_0.wp F Q env w = HC.wp F (.seq (.reg (.chk none (.mkf (.func 38) 0) (.cons (.inp 2) .nil) (.eff (.call 37) (.cons (.inp 0) (.cons (.op (.mkf (.func 38) 0) (.cons (.inp 2) .nil)) .nil)) (.done [(3, (.bv 0))] none)))) .ret) Q env w := rfl
def l19 : Lifted := ⟨[0, 1, 3, 4], 8, [.slot 3], (.seq (.reg (.eff (.box 3) (.cons (.inp 1) .nil) (.done [(2, (.bv 0)), (3, (.cst (.slice none 0 0)))] none))) h19_0)⟩
theorem l19_ok : liftFn G1 19 400 = some l19 := by kernel_rfl

-- (*bazaar/goods.Goods).In
def h20_0 : HC := (.seq (.reg (.chk none (.mkf (.func 39) 0) (.cons (.inp 2) .nil) (.eff (.call 37) (.cons (.inp 0) (.cons (.op (.mkf (.func 39) 0) (.cons (.inp 2) .nil)) .nil)) (.done [(3, (.bv 0))] none)))) .ret)
@[simp] theorem h20_0_wp {P : Program} {F : PF P} {Q : EX → List Value → World → Prop} {env : List Value} {w : World} : h20_0.wp F Q env w = HC.wp F (.seq (.reg (.chk none (.mkf (.func 39) 0) (.cons (.inp 2) .nil) (.eff (.call 37) (.cons (.inp 0) (.cons (.op (.mkf (.func 39) 0) (.cons (.inp 2) .nil)) .nil)) (.done [(3, (.bv 0))] none)))) .ret) Q env w := rfl
def l20 : Lifted := ⟨[0, 1, 3, 4], 8, [.slot 3], (.seq (.reg (.eff (.box 3) (.cons (.inp 1) .nil) (.done [(2, (.bv 0)), (3, (.cst (.slice none 0 0)))] none))) h20_0)⟩
theorem l20_ok : liftFn G1 20 400 = some l20 := by kernel_rfl

-- (*bazaar/goods.Goods).Kinds
def h31_0 : HC := (.seq (.reg (.eff (.ld true 16) (.cons (.inp 2) .nil) (.eff (.st 16) (.cons (.inp 2) (.cons (.bv 0) .nil)) (.done [] none)))) .ret)
@[simp] theorem h31_0_wp {P : Program} {F : PF P} {Q : EX → List Value → World → Prop} {env : List Value} {w : World} : h31_0.wp F Q env w = HC.wp F (.seq (.reg (.eff (.ld true 16) (.cons (.inp 2) .nil) (.eff (.st 16) (.cons (.inp 2) (.cons (.bv 0) .nil)) (.done [] none)))) .ret) Q env w := rfl
def h31_1 : HC := (.reg (.chk none (.bin .add) (.cons (.inp 6) (.cons (.cst (.int .i64 1)) .nil)) (.done [(6, (.op (.bin .add) (.cons (.inp 6) (.cons (.cst (.int .i64 1)) .nil))))] none)))
@[simp] theorem h31_1_wp {P : Program} {F : PF P} {Q : EX → List Value → World → Prop} {env : List Value} {w : World} : h31_1.wp F Q env w = HC.wp F (.reg (.chk none (.bin .add) (.cons (.inp 6) (.cons (.cst (.int .i64 1)) .nil)) (.done [(6, (.op (.bin .add) (.cons (.inp 6) (.cons (.cst (.int .i64 1)) .nil))))] none))) Q env w := rfl
def h31_2 : HC := (.reg (.chk none .chkp (.cons (.inp 0) .nil) (.chk none (.fld 1) (.cons (.op .chkp (.cons (.inp 0) .nil)) .nil) (.eff (.ld false 1) (.cons (.op (.fld 1) (.cons (.op .chkp (.cons (.inp 0) .nil)) .nil)) .nil) (.chk none (.bin .sub) (.cons (.inp 3) (.cons (.cst (.int .i64 1)) .nil)) (.chk none (.idxL 4) (.cons (.bv 0) (.cons (.op (.bin .sub) (.cons (.inp 3) (.cons (.cst (.int .i64 1)) .nil))) .nil)) (.chk none (.fld 0) (.cons (.op (.idxL 4) (.cons (.bv 0) (.cons (.op (.bin .sub) (.cons (.inp 3) (.cons (.cst (.int .i64 1)) .nil))) .nil))) .nil) (.chk none (.fld 1) (.cons (.op (.fld 0) (.cons (.op (.idxL 4) (.cons (.bv 0) (.cons (.op (.bin .sub) (.cons (.inp 3) (.cons (.cst (.int .i64 1)) .nil))) .nil))) .nil)) .nil) (.eff (.ld false 1) (.cons (.op (.fld 1) (.cons (.op (.fld 0) (.cons (.op (.idxL 4) (.cons (.bv 0) (.cons (.op (.bin .sub) (.cons (.inp 3) (.cons (.cst (.int .i64 1)) .nil))) .nil))) .nil)) .nil)) .nil) (.chk none (.idxP 16 1) (.cons (.inp 2) (.cons (.bv 1) .nil)) (.eff (.ld false 1) (.cons (.op (.idxP 16 1) (.cons (.inp 2) (.cons (.bv 1) .nil))) .nil) (.chk none (.bin .add) (.cons (.bv 2) (.cons (.cst (.int .i64 1)) .nil)) (.chk none (.idxP 16 1) (.cons (.inp 2) (.cons (.bv 1) .nil)) (.eff (.st 1) (.cons (.op (.idxP 16 1) (.cons (.inp 2) (.cons (.bv 1) .nil))) (.cons (.op (.bin .add) (.cons (.bv 2) (.cons (.cst (.int .i64 1)) .nil))) .nil)) (.done [] none)))))))))))))))
@[simp] theorem h31_2_wp {P : Program} {F : PF P} {Q : EX → List Value → World → Prop} {env : List Value} {w : World} : h31_2.wp F Q env w = HC.wp F (.reg (.chk none .chkp (.cons (.inp 0) .nil) (.chk none (.fld 1) (.cons (.op .chkp (.cons (.inp 0) .nil)) .nil) (.eff (.ld false 1) (.cons (.op (.fld 1) (.cons (.op .chkp (.cons (.inp 0) .nil)) .nil)) .nil) (.chk none (.bin .sub) (.cons (.inp 3) (.cons (.cst (.int .i64 1)) .nil)) (.chk none (.idxL 4) (.cons (.bv 0) (.cons (.op (.bin .sub) (.cons (.inp 3) (.cons (.cst (.int .i64 1)) .nil))) .nil)) (.chk none (.fld 0) (.cons (.op (.idxL 4) (.cons (.bv 0) (.cons (.op (.bin .sub) (.cons (.inp 3) (.cons (.cst (.int .i64 1)) .nil))) .nil))) .nil) (.chk none (.fld 1) (.cons (.op (.fld 0) (.cons (.op (.idxL 4) (.cons (.bv 0) (.cons (.op (.bin .sub) (.cons (.inp 3) (.cons (.cst (.int .i64 1)) .nil))) .nil))) .nil)) .nil) (.eff (.ld false 1) (.cons (.op (.fld 1) (.cons (.op (.fld 0) (.cons (.op (.idxL 4) (.cons (.bv 0) (.cons (.op (.bin .sub) (.cons (.inp 3) (.cons (.cst (.int .i64 1)) .nil))) .nil))) .nil)) .nil)) .nil) (.chk none (.idxP 16 1) (.cons (.inp 2) (.cons (.bv 1) .nil)) (.eff (.ld false 1) (.cons (.op (.idxP 16 1) (.cons (.inp 2) (.cons (.bv 1) .nil))) .nil) (.chk none (.bin .add) (.cons (.bv 2) (.cons (.cst (.int .i64 1)) .nil)) (.chk none (.idxP 16 1) (.cons (.inp 2) (.cons (.bv 1) .nil)) (.eff (.st 1) (.cons (.op (.idxP 16 1) (.cons (.inp 2) (.cons (.bv 1) .nil))) (.cons (.op (.bin .add) (.cons (.bv 2) (.cons (.cst (.int .i64 1)) .nil))) .nil)) (.done [] none))))))))))))))) Q env w := rfl
def h31_3 : HC := (.seq (.reg (.chk none (.idxL 1) (.cons (.inp 4) (.cons (.inp 6) .nil)) (.eff (.ld false 1) (.cons (.op (.idxL 1) (.cons (.inp 4) (.cons (.inp 6) .nil))) .nil) (.done [(3, (.bv 0))] none)))) h31_2)
@[simp] theorem h31_3_wp {P : Program} {F : PF P} {Q : EX → List Value → World → Prop} {env : List Value} {w : World} : h31_3.wp F Q env w = HC.wp F (.seq (.reg (.chk none (.idxL 1) (.cons (.inp 4) (.cons (.inp 6) .nil)) (.eff (.ld false 1) (.cons (.op (.idxL 1) (.cons (.inp 4) (.cons (.inp 6) .nil))) .nil) (.done [(3, (.bv 0))] none)))) h31_2) Q env w := rfl
def h31_4 : HC := (.seq (.block 1 h31_3) h31_1)
@[simp] theorem h31_4_wp {P : Program} {F : PF P} {Q : EX → List Value → World → Prop} {env : List Value} {w : World} : h31_4.wp F Q env w = HC.wp F (.seq (.block 1 h31_3) h31_1) Q env w := rfl
def h31_5 : HC := (.seq (.br (.chk none (.bin .lss) (.cons (.inp 6) (.cons (.inp 5) .nil)) (.done [] (some (.op (.bin .lss) (.cons (.inp 6) (.cons (.inp 5) .nil)))))) .skip (.exit 0)) h31_4)
@[simp] theorem h31_5_wp {P : Program} {F : PF P} {Q : EX → List Value → World → Prop} {env : List Value} {w : World} : h31_5.wp F Q env w = HC.wp F (.seq (.br (.chk none (.bin .lss) (.cons (.inp 6) (.cons (.inp 5) .nil)) (.done [] (some (.op (.bin .lss) (.cons (.inp 6) (.cons (.inp 5) .nil)))))) .skip (.exit 0)) h31_4) Q env w := rfl
def h31_6 : HC := (.loop h31_5)
@[simp] theorem h31_6_wp {P : Program} {F : PF P} {Q : EX → List Value → World → Prop} {env : List Value} {w : World} : h31_6.wp F Q env w = HC.wp F (.loop h31_5) Q env w := rfl
def h31_7 : HC := (.seq (.block 0 h31_6) h31_0)
@[simp] theorem h31_7_wp {P : Program} {F : PF P} {Q : EX → List Value → World → Prop} {env : List Value} {w : World} : h31_7.wp F Q env w = HC.wp F (.seq (.block 0 h31_6) h31_0) Q env w := rfl
def h31_8 : HC := (.seq (.reg (.eff (.call 19) (.cons (.inp 0) (.cons (.inp 1) .nil)) (.chk none .lenL (.cons (.bv 0) .nil) (.done [(4, (.bv 0)), (5, (.op .lenL (.cons (.bv 0) .nil))), (6, (.cst (.int .i64 0)))] none)))) h31_7)
@[simp] theorem h31_8_wp {P : Program} {F : PF P} {Q : EX → List Value → World → Prop} {env : List Value} {w : World} : h31_8.wp F Q env w = HC.wp F (.seq (.reg (.eff (.call 19) (.cons (.inp 0) (.cons (.inp 1) .nil)) (.chk none .lenL (.cons (.bv 0) .nil) (.done [(4, (.bv 0)), (5, (.op .lenL (.cons (.bv 0) .nil))), (6, (.cst (.int .i64 0)))] none)))) h31_7) Q env w := rfl
def l31 : Lifted := ⟨[0, 1, 4, 6, 9, 10, 11], 31, [.cell 2 true 16], (.seq (.reg (.eff (.new 74 (.agg #[(.int .i64 0), (.int .i64 0), (.int .i64 0), (.int .i64 0), (.int .i64 0), (.int .i64 0), (.int .i64 0), (.int .i64 0), (.int .i64 0), (.int .i64 0), (.int .i64 0), (.int .i64 0), (.int .i64 0), (.int .i64 0), (.int .i64 0), (.int .i64 0)])) .nil (.done [(2, (.bv 0))] none))) h31_8)⟩
theorem l31_ok : liftFn G1 31 400 = some l31 := by kernel_rfl


def getF (its : List It) (n : Int) : It × Int := if 1 ≤ n ∧ n ≤ its.length then (its.getD (n.toNat - 1) ⟨0, 0, 0, 0⟩, 0) else (⟨0, 0, 0, 0⟩, 151)
theorem Get_spec (p : Nat) (lim : Int) (its : List It) (n : Int) (w0 w : World) (A : Asn) (hl : its.length ≤ 1048576) (s : St w0 (A * gds p lim its) w) :
    CallW Try.prog 32 [.pointer (some ⟨p, 0, none⟩), .int .i64 n]
      (fun r w' => r = .tuple #[.agg (getF its n).1.cs.toArray, .int .i64 (getF its n).2] ∧ St w0 (A * gds p lim its) w') w := by
  refine callW_of_lift l32_ok (by simp [l32]) ?_
  simp [l32]
  refine eff_new s ?_
  intro b w1 s1
  simp
  obtain ⟨v, s2⟩ := gopen s1.swap
  obtain ⟨a, cap, rfl, _⟩ := s2.own_val
  by_cases h1 : n < 1
  · have hg : getF its n = (⟨0, 0, 0, 0⟩, 151) := by unfold getF; rw [if_neg (by omega)]
    simp [h1, hg, Instr.fill, Value.cells]
    refine eff_stA (vs := It.cs ⟨0, 0, 0, 0⟩) s1 rfl rfl (cs_one _) (by simp) ?_
    intro w2 s3
    simp
    have s4 : St w0 (A * gds p lim its * pt b (.cells (It.cs ⟨0, 0, 0, 0⟩).toArray 44 (0, 0))) w2 := by simpa using s3
    refine rv_cellA (vs := It.cs ⟨0, 0, 0, 0⟩) rfl s4.row_cells rfl ?_
    simp
    exact s4.drop
  simp [h1]
  refine eff_ldc (v := .slice a its.length cap) (by rw [cell_of s2.swap.look]; rfl) ?_
  by_cases h2 : its.length < n
  · have hg : getF its n = (⟨0, 0, 0, 0⟩, 151) := by unfold getF; rw [if_neg (by omega)]
    simp [h2, hg, Instr.fill, Value.cells]
    refine eff_stA (vs := It.cs ⟨0, 0, 0, 0⟩) s1 rfl rfl (cs_one _) (by simp) ?_
    intro w2 s3
    simp
    have s4 : St w0 (A * gds p lim its * pt b (.cells (It.cs ⟨0, 0, 0, 0⟩).toArray 44 (0, 0))) w2 := by simpa using s3
    refine rv_cellA (vs := It.cs ⟨0, 0, 0, 0⟩) rfl s4.row_cells rfl ?_
    simp
    exact s4.drop
  simp [h2]
  obtain ⟨i, rfl⟩ : ∃ i : Nat, n = i + 1 := ⟨n.toNat - 1, by omega⟩
  have hi : i < its.length := by omega
  obtain ⟨g, cap', hv, _, hc⟩ := s2.own_at (by omega)
  cases hv
  refine eff_ldc (v := .slice (some ⟨g, 0, none⟩) its.length cap) (by rw [cell_of s2.swap.look]; rfl) ?_
  have hw : IntKind.i64.wrap (i : Int) = i := wrap64 (by omega) (by omega)
  simp [hw, hi]
  refine eff_ldcs (vs := its[i].cs) (fun j u hu => hc _ _ (flat_at hi j u hu)) rfl ?_
  simp
  have hg : getF its (i + 1) = (its[i], 0) := by
    unfold getF
    rw [if_pos (by omega)]
    have : ((i : Int) + 1).toNat - 1 = i := by omega
    simp [this, hi]
  refine eff_stA (vs := its[i].cs) s1 rfl rfl (cs_one _) (by simp) ?_
  intro w3 s3
  simp [hg]
  have s4 : St w0 (A * gds p lim its * pt b (.cells its[i].cs.toArray 44 (0, 0))) w3 := by simpa using s3
  refine rv_cellA (vs := its[i].cs) rfl s4.row_cells rfl ?_
  simp
  exact s4.drop
theorem Rows_spec (p : Nat) (lim : Int) (its : List It) (w0 w : World) (A : Asn) (hl : its.length ≤ 1048576) (s : St w0 (A * gds p lim its) w) :
    CallW Try.prog 11 [.pointer (some ⟨p, 0, none⟩)]
      (fun r w' => St w0 (A * gds p lim its * own 44 4 r its.length (flat its)) w') w := by
  refine callW_of_lift l11_ok (by simp [l11]) ?_
  simp [l11]
  obtain ⟨v, s2⟩ := gopen s
  obtain ⟨a, cap, rfl, _⟩ := s2.own_val
  refine eff_ldc (v := .slice a its.length cap) (by rw [cell_of s2.swap.look]; rfl) ?_
  simp
  refine loopI (fun env w' => ∃ (i : Nat) (v o : Value), env = [.pointer (some ⟨p, 0, none⟩), .slice none 0 0, v, o, .slice a its.length cap, .int .i64 its.length, .int .i64 i] ∧ i ≤ its.length ∧
      St w0 (A * pt p (.cells #[.int .i64 lim, .slice a its.length cap] 71 (0, 0)) * own 73 4 (.slice a its.length cap) its.length (flat its) * own 44 4 v i (flat (its.take i))) w')
    (fun env _ => its.length - slotN env 6) ⟨0, _, _, rfl, by omega, s2.own_nil _ _⟩ ?_
  rintro LQ env w' ⟨i, v, o, rfl, hi, s'⟩ hN hE hR
  simp
  refine cndI (fun h => ?_) (fun h => ?_)
  · simp at h
    obtain ⟨g, cap', hv, _, hc⟩ := s'.swap.own_at (by omega)
    cases hv
    simp [h]
    refine eff_ldcs (vs := its[i].cs) (fun j u hu => hc _ _ (flat_at h j u hu)) rfl ?_
    simp
    refine eff_new s' ?_
    intro b w1 s1
    simp
    refine eff_stA (vs := its[i].cs) s1 rfl rfl (cs_one _) (by simp) ?_
    intro w2 s2
    simp
    have s3 : St w0 (A * pt p (.cells #[.int .i64 lim, .slice (some ⟨g, 0, none⟩) its.length cap] 71 (0, 0)) * own 73 4 (.slice (some ⟨g, 0, none⟩) its.length cap) its.length (flat its) * own 44 4 v i (flat (its.take i)) * pt b (.cells its[i].cs.toArray 73 (0, 0))) w2 := by simpa using s2
    refine eff_ldcs (vs := its[i].cs) s3.row_cells rfl ?_
    simp
    refine eff_bslV s3 rfl ?_
    intro c w4 s4
    simp
    refine eff_app (m := 1) (news := its[i].cs) s4.p3 rfl s4.cells_look (cs_one _) (by decide) rfl (by unfold maxLen; omega) (by omega) ?_
    intro v' w5 s5
    simp
    try simp (disch := omega) only [wrap64]
    refine hN _ _ ⟨i + 1, v', _, by simp; exact rfl, by omega, ?_⟩ (by simp [slotN]; omega)
    have e : flat (its.take i) ++ its[i].cs = flat (its.take (i + 1)) := by rw [List.take_succ_eq_append_getElem h]; simp only [flat, List.flatMap_append, List.flatMap_cons, List.flatMap_nil, List.append_nil]
    rw [e] at s5
    exact s5.swap.drop.swap.drop
  · simp at h
    simp
    refine hE _ _ _ ?_
    simp
    have : i = its.length := by omega
    subst this
    rw [List.take_length] at s'
    exact (gclose s'.p3.p3).swap
theorem Of1_spec (x : It) (q : Nat) (a : Int) (w0 w : World) (A : Asn) (s : St w0 (A * pt q (.cells #[.int .i64 a] 3 (0, 0))) w) :
    CallW Try.prog 38 [.agg x.cs.toArray, .pointer (some ⟨q, 0, none⟩)] (fun r w' => r = .bool (!decide (0 < x.con) && decide (x.acc = a)) ∧ St w0 (A * pt q (.cells #[.int .i64 a] 3 (0, 0))) w') w := by
  refine callW_of_lift l38_ok (by simp [l38]) ?_
  simp [l38]
  refine eff_box s ?_
  intro b w1 s1
  simp
  have hc : ∀ j u, x.cs[j]? = some u → w1.cell? ⟨b, 0 + j, none⟩ = some u := fun j u hu => by rw [cell_of s1.look]; simpa using hu
  refine eff_ldcs (vs := x.cs) hc rfl ?_
  simp
  refine eff_call ((held_spec x w0 w1 _ s1).mono ?_)
  rintro r w2 ⟨rfl, s2⟩
  have hc2 : w2.cell? ⟨b, 2, none⟩ = some (.int .i64 x.acc) := by rw [cell_of s2.look]; rfl
  have hc3 : w2.cell? ⟨q, 0, none⟩ = some (.int .i64 a) := by rw [cell_of s2.swap.look]; rfl
  by_cases h : 0 < x.con
  · simp [h]
    exact s2.drop
  · simp [h]
    refine eff_ldc hc2 ?_
    simp
    refine eff_ldc hc3 ?_
    simp
    exact s2.drop
theorem In1_spec (x : It) (q : Nat) (a : Int) (w0 w : World) (A : Asn) (s : St w0 (A * pt q (.cells #[.int .i64 a] 3 (0, 0))) w) :
    CallW Try.prog 39 [.agg x.cs.toArray, .pointer (some ⟨q, 0, none⟩)] (fun r w' => r = .bool (decide (0 < x.con) && decide (x.con = a)) ∧ St w0 (A * pt q (.cells #[.int .i64 a] 3 (0, 0))) w') w := by
  refine callW_of_lift l39_ok (by simp [l39]) ?_
  simp [l39]
  refine eff_box s ?_
  intro b w1 s1
  simp
  have hc : ∀ j u, x.cs[j]? = some u → w1.cell? ⟨b, 0 + j, none⟩ = some u := fun j u hu => by rw [cell_of s1.look]; simpa using hu
  refine eff_ldcs (vs := x.cs) hc rfl ?_
  simp
  refine eff_call ((held_spec x w0 w1 _ s1).mono ?_)
  rintro r w2 ⟨rfl, s2⟩
  have hc2 : w2.cell? ⟨b, 3, none⟩ = some (.int .i64 x.con) := by rw [cell_of s2.look]; rfl
  have hc3 : w2.cell? ⟨q, 0, none⟩ = some (.int .i64 a) := by rw [cell_of s2.swap.look]; rfl
  by_cases h : 0 < x.con
  · simp [h]
    refine eff_ldc hc2 ?_
    simp
    refine eff_ldc hc3 ?_
    simp
    exact s2.drop
  · simp [h]
    exact s2.drop
def ofF (its : List It) (a : Int) : List Int := (its.filter fun x => !decide (0 < x.con) && decide (x.acc = a)).map It.num
def inF (its : List It) (c : Int) : List Int := (its.filter fun x => decide (0 < x.con) && decide (x.con = c)).map It.num
def ints (l : List Int) : List Value := l.map (Value.int .i64)
theorem ints_one (l : List Int) : ∀ u ∈ ints l, u.oneCell' = true := by intro u h; simp only [ints, List.mem_map] at h; obtain ⟨x, _, rfl⟩ := h; rfl
theorem where_spec (p : Nat) (lim : Int) (its : List It) (f : FuncId) (q : Nat) (a : Int) (pred : It → Bool) (hb : hasBody Try.prog f = true)
    (hf : ∀ (x : It) (w0 w : World) (A : Asn), St w0 (A * pt q (.cells #[.int .i64 a] 3 (0, 0))) w → CallW Try.prog f [.agg x.cs.toArray, .pointer (some ⟨q, 0, none⟩)] (fun r w' => r = .bool (pred x) ∧ St w0 (A * pt q (.cells #[.int .i64 a] 3 (0, 0))) w') w)
    (w0 w : World) (A : Asn) (hl : its.length ≤ 1048576) (s : St w0 (A * gds p lim its * pt q (.cells #[.int .i64 a] 3 (0, 0))) w) :
    CallW Try.prog 37 [.pointer (some ⟨p, 0, none⟩), .func (.func f) #[] #[.pointer (some ⟨q, 0, none⟩)]]
      (fun r w' => St w0 (A * gds p lim its * own 3 1 r ((its.filter pred).map It.num).length (ints ((its.filter pred).map It.num))) w') w := by
  refine callW_of_lift l37_ok (by simp [l37]) ?_
  simp [l37]
  obtain ⟨v, s2⟩ := gopen s.swap
  obtain ⟨c, cap, rfl, _⟩ := s2.own_val
  refine eff_ldc (v := .slice c its.length cap) (by rw [cell_of s2.swap.look]; rfl) ?_
  simp
  refine loopI (fun env w' => ∃ (i : Nat) (v o : Value), env = [.pointer (some ⟨p, 0, none⟩), .func (.func f) #[] #[.pointer (some ⟨q, 0, none⟩)], .slice none 0 0, v, o, .slice c its.length cap, .int .i64 its.length, .int .i64 i] ∧ i ≤ its.length ∧
      St w0 (A * pt p (.cells #[.int .i64 lim, .slice c its.length cap] 71 (0, 0)) * own 73 4 (.slice c its.length cap) its.length (flat its) * own 3 1 v (((its.take i).filter pred).map It.num).length (ints (((its.take i).filter pred).map It.num)) * pt q (.cells #[.int .i64 a] 3 (0, 0))) w')
    (fun env _ => its.length - slotN env 7) ⟨0, _, _, rfl, by omega, ?_⟩ ?_
  · exact (s2.own_nil _ _).to (by simp [ints]; ac_rfl)
  rintro LQ env w' ⟨i, v, o, rfl, hi, s'⟩ hN hE hR
  simp
  refine cndI (fun h => ?_) (fun h => ?_)
  · simp at h
    obtain ⟨g, cap', hv, _, hc⟩ := s'.swap.drop.swap.own_at (by omega)
    cases hv
    simp [h]
    refine eff_ldcs (vs := its[i].cs) (fun j u hu => hc _ _ (flat_at h j u hu)) rfl ?_
    simp
    refine eff_new s' ?_
    intro b w1 s1
    simp
    refine eff_stA (vs := its[i].cs) s1 rfl rfl (cs_one _) (by simp) ?_
    intro w2 s2
    simp
    have s3 : St w0 (A * pt p (.cells #[.int .i64 lim, .slice (some ⟨g, 0, none⟩) its.length cap] 71 (0, 0)) * own 73 4 (.slice (some ⟨g, 0, none⟩) its.length cap) its.length (flat its) * own 3 1 v (((its.take i).filter pred).map It.num).length (ints (((its.take i).filter pred).map It.num)) * pt b (.cells its[i].cs.toArray 73 (0, 0)) * pt q (.cells #[.int .i64 a] 3 (0, 0))) w2 := by simpa using s2.swap
    refine eff_ldcs (vs := its[i].cs) s3.swap.row_cells rfl ?_
    simp
    refine eff_callv hb ((hf its[i] w0 w2 _ s3).mono ?_)
    rintro r w3 ⟨rfl, s4⟩
    have htake : its.take (i + 1) = its.take i ++ [its[i]] := List.take_succ_eq_append_getElem h
    simp
    refine cndI (fun hp => ?_) (fun hp => ?_)
    · have hp0 := hp
      simp
      refine eff_ldc (v := .int .i64 its[i].num) (by rw [cell_of s4.swap.look]; rfl) ?_
      simp
      refine eff_bsl1 s4 rfl ?_
      intro c1 w4 s5
      simp
      refine eff_app (m := 1) (news := [.int .i64 its[i].num]) (F := A * pt p (.cells #[.int .i64 lim, .slice (some ⟨g, 0, none⟩) its.length cap] 71 (0, 0)) * own 73 4 (.slice (some ⟨g, 0, none⟩) its.length cap) its.length (flat its) * pt b (.cells its[i].cs.toArray 73 (0, 0)) * pt q (.cells #[.int .i64 a] 3 (0, 0)) * pt c1 (.cells #[.int .i64 its[i].num] 3 (0, 0))) (s5.to (by ac_rfl)) rfl s5.cells_look (by simp [Value.oneCell']) (by decide) rfl ?_ ?_ ?_
      · have := List.length_filter_le pred (its.take i)
        simp only [List.length_map, List.length_take] at this ⊢
        unfold maxLen; omega
      · have := List.length_filter_le pred (its.take i)
        simp only [List.length_map, List.length_take] at this ⊢
        omega
      intro v' w5 s6
      simp
      try simp (disch := omega) only [wrap64]
      refine hN _ _ ⟨i + 1, v', _, by simp; exact rfl, by omega, ?_⟩ (by simp [slotN]; omega)
      refine St.cut (pt b (.cells its[i].cs.toArray 73 (0, 0)) * pt c1 (.cells #[.int .i64 its[i].num] 3 (0, 0))) s6 ?_
      rw [htake]
      simp only [List.filter_append, List.map_append, hp0, List.filter_cons_of_pos, List.filter_nil, List.map_cons, List.map_nil, ints, List.length_append, List.length_map, List.length_cons, List.length_nil]
      ac_rfl
    · have hp0 := hp
      simp
      try simp (disch := omega) only [wrap64]
      refine hN _ _ ⟨i + 1, v, _, by simp; exact rfl, by omega, ?_⟩ (by simp [slotN]; omega)
      refine St.cut (pt b (.cells its[i].cs.toArray 73 (0, 0))) s4 ?_
      rw [htake, List.filter_append, List.filter_cons_of_neg (by simp [hp0]), List.filter_nil, List.append_nil]
      ac_rfl
  · simp at h
    simp
    refine hE _ _ _ ?_
    simp
    have : i = its.length := by omega
    subst this
    rw [List.take_length] at s'
    exact ((gclose (A := A * own 3 1 v ((its.filter pred).map It.num).length (ints ((its.filter pred).map It.num))) (s'.drop.to (by ac_rfl))).swap).to (by simp)
theorem Of_spec (p : Nat) (lim : Int) (its : List It) (a : Int) (w0 w : World) (A : Asn) (hl : its.length ≤ 1048576) (s : St w0 (A * gds p lim its) w) :
    CallW Try.prog 19 [.pointer (some ⟨p, 0, none⟩), .int .i64 a]
      (fun r w' => St w0 (A * gds p lim its * own 3 1 r (ofF its a).length (ints (ofF its a))) w') w := by
  refine callW_of_lift l19_ok (by simp [l19]) ?_
  simp [l19]
  refine eff_box s ?_
  intro q w1 s1
  simp
  refine eff_call ((where_spec p lim its 38 q a _ (by kernel_rfl) (fun x w0 w A s => Of1_spec x q a w0 w A s) w0 w1 A hl s1).mono ?_)
  intro r w2 s2
  simp
  exact s2
theorem In_spec (p : Nat) (lim : Int) (its : List It) (a : Int) (w0 w : World) (A : Asn) (hl : its.length ≤ 1048576) (s : St w0 (A * gds p lim its) w) :
    CallW Try.prog 20 [.pointer (some ⟨p, 0, none⟩), .int .i64 a]
      (fun r w' => St w0 (A * gds p lim its * own 3 1 r (inF its a).length (ints (inF its a))) w') w := by
  refine callW_of_lift l20_ok (by simp [l20]) ?_
  simp [l20]
  refine eff_box s ?_
  intro q w1 s1
  simp
  refine eff_call ((where_spec p lim its 39 q a _ (by kernel_rfl) (fun x w0 w A s => In1_spec x q a w0 w A s) w0 w1 A hl s1).mono ?_)
  intro r w2 s2
  simp
  exact s2
end Go.HL.Gd
