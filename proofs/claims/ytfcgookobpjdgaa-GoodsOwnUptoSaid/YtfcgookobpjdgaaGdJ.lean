/-
  Goods: Clone, Copy, Load. Conditions: so many items at most.
-/
import Derived.Test.YtfcgookobpjdgaaGdH
namespace Go.HL.Gd
open Go.HL Go.Proofs
set_option maxRecDepth 4000
set_option linter.unusedSimpArgs false
set_option linter.unusedVariables false
-- slices.Clone[[]bazaar/goods.thing,bazaar/goods.thing]
def h33_0 : HC := (.seq (.reg (.eff (.bsl 73 0 4 #[] []) .nil (.eff (.app 69 69 73 4 32 (.agg #[(.int .i64 0), (.int .i64 0), (.int .i64 0), (.int .i64 0)])) (.cons (.bv 0) (.cons (.inp 0) .nil)) (.done [(1, (.bv 1))] none)))) .ret)
@[simp] theorem h33_0_wp {P : Program} {F : PF P} {Q : EX → List Value → World → Prop} {env : List Value} {w : World} : h33_0.wp F Q env w = HC.wp F (.seq (.reg (.eff (.bsl 73 0 4 #[] []) .nil (.eff (.app 69 69 73 4 32 (.agg #[(.int .i64 0), (.int .i64 0), (.int .i64 0), (.int .i64 0)])) (.cons (.bv 0) (.cons (.inp 0) .nil)) (.done [(1, (.bv 1))] none)))) .ret) Q env w := rfl
def h33_1 : HC := (.seq (.reg (.done [(1, (.cst (.slice none 0 0)))] none)) .ret)
@[simp] theorem h33_1_wp {P : Program} {F : PF P} {Q : EX → List Value → World → Prop} {env : List Value} {w : World} : h33_1.wp F Q env w = HC.wp F (.seq (.reg (.done [(1, (.cst (.slice none 0 0)))] none)) .ret) Q env w := rfl
def h33_2 : HC := (.seq (.br (.chk none (.eqNil false (.slice 73) (.slice none 0 0)) (.cons (.inp 0) .nil) (.done [] (some (.op (.eqNil false (.slice 73) (.slice none 0 0)) (.cons (.inp 0) .nil))))) h33_1 .skip) h33_0)
@[simp] theorem h33_2_wp {P : Program} {F : PF P} {Q : EX → List Value → World → Prop} {env : List Value} {w : World} : h33_2.wp F Q env w = HC.wp F (.seq (.br (.chk none (.eqNil false (.slice 73) (.slice none 0 0)) (.cons (.inp 0) .nil) (.done [] (some (.op (.eqNil false (.slice 73) (.slice none 0 0)) (.cons (.inp 0) .nil))))) h33_1 .skip) h33_0) Q env w := rfl
def l33 : Lifted := ⟨[0, 2], 8, [.slot 1], (.seq (.reg (.done [(1, (.cst (.slice none 0 0)))] none)) h33_2)⟩
theorem l33_ok : liftFn G1 33 400 = some l33 := by kernel_rfl

-- (*bazaar/goods.Goods).Copy
def h16_0 : HC := (.seq (.regq (some 2) (.chk none .chkp (.cons (.inp 0) .nil) (.chk none (.fld 0) (.cons (.op .chkp (.cons (.inp 0) .nil)) .nil) (.eff (.ld false 1) (.cons (.op (.fld 0) (.cons (.op .chkp (.cons (.inp 0) .nil)) .nil)) .nil) (.chk none .chkp (.cons (.inp 0) .nil) (.chk none (.fld 1) (.cons (.op .chkp (.cons (.inp 0) .nil)) .nil) (.eff (.ld false 1) (.cons (.op (.fld 1) (.cons (.op .chkp (.cons (.inp 0) .nil)) .nil)) .nil) (.eff (.call 33) (.cons (.bv 1) .nil) (.chk none (.build #[(.int .i64 0), (.slice none 0 0)] [(0, 1), (1, 1)] [0, 1]) (.cons (.bv 0) (.cons (.bv 2) .nil)) (.eff (.box 71) (.cons (.op (.build #[(.int .i64 0), (.slice none 0 0)] [(0, 1), (1, 1)] [0, 1]) (.cons (.bv 0) (.cons (.bv 2) .nil))) .nil) (.done [(1, (.bv 3))] none))))))))))) .ret)
@[simp] theorem h16_0_wp {P : Program} {F : PF P} {Q : EX → List Value → World → Prop} {env : List Value} {w : World} : h16_0.wp F Q env w = HC.wp F (.seq (.regq (some 2) (.chk none .chkp (.cons (.inp 0) .nil) (.chk none (.fld 0) (.cons (.op .chkp (.cons (.inp 0) .nil)) .nil) (.eff (.ld false 1) (.cons (.op (.fld 0) (.cons (.op .chkp (.cons (.inp 0) .nil)) .nil)) .nil) (.chk none .chkp (.cons (.inp 0) .nil) (.chk none (.fld 1) (.cons (.op .chkp (.cons (.inp 0) .nil)) .nil) (.eff (.ld false 1) (.cons (.op (.fld 1) (.cons (.op .chkp (.cons (.inp 0) .nil)) .nil)) .nil) (.eff (.call 33) (.cons (.bv 1) .nil) (.chk none (.build #[(.int .i64 0), (.slice none 0 0)] [(0, 1), (1, 1)] [0, 1]) (.cons (.bv 0) (.cons (.bv 2) .nil)) (.eff (.box 71) (.cons (.op (.build #[(.int .i64 0), (.slice none 0 0)] [(0, 1), (1, 1)] [0, 1]) (.cons (.bv 0) (.cons (.bv 2) .nil))) .nil) (.done [(1, (.bv 3))] none))))))))))) .ret) Q env w := rfl
def h16_1 : HC := (.seq (.reg (.done [(1, (.cst (.pointer none)))] none)) .ret)
@[simp] theorem h16_1_wp {P : Program} {F : PF P} {Q : EX → List Value → World → Prop} {env : List Value} {w : World} : h16_1.wp F Q env w = HC.wp F (.seq (.reg (.done [(1, (.cst (.pointer none)))] none)) .ret) Q env w := rfl
def h16_2 : HC := (.seq (.br (.chk none (.eqNil false (.pointer 71) (.pointer none)) (.cons (.inp 0) .nil) (.done [] (some (.op (.eqNil false (.pointer 71) (.pointer none)) (.cons (.inp 0) .nil))))) h16_1 .skip) h16_0)
@[simp] theorem h16_2_wp {P : Program} {F : PF P} {Q : EX → List Value → World → Prop} {env : List Value} {w : World} : h16_2.wp F Q env w = HC.wp F (.seq (.br (.chk none (.eqNil false (.pointer 71) (.pointer none)) (.cons (.inp 0) .nil) (.done [] (some (.op (.eqNil false (.pointer 71) (.pointer none)) (.cons (.inp 0) .nil))))) h16_1 .skip) h16_0) Q env w := rfl
def l16 : Lifted := ⟨[0, 2], 16, [.slot 1], (.seq (.reg (.done [(1, (.cst (.pointer none)))] none)) h16_2)⟩
theorem l16_ok : liftFn G1 16 400 = some l16 := by kernel_rfl

-- bazaar/goods.Load
def h17_0 : HC := (.seq (.reg (.done [(2, (.inp 4)), (3, (.cst (.int .i64 0)))] none)) .ret)
@[simp] theorem h17_0_wp {P : Program} {F : PF P} {Q : EX → List Value → World → Prop} {env : List Value} {w : World} : h17_0.wp F Q env w = HC.wp F (.seq (.reg (.done [(2, (.inp 4)), (3, (.cst (.int .i64 0)))] none)) .ret) Q env w := rfl
def h17_1 : HC := (.reg (.chk none (.bin .add) (.cons (.inp 11) (.cons (.cst (.int .i64 1)) .nil)) (.done [(11, (.op (.bin .add) (.cons (.inp 11) (.cons (.cst (.int .i64 1)) .nil))))] none)))
@[simp] theorem h17_1_wp {P : Program} {F : PF P} {Q : EX → List Value → World → Prop} {env : List Value} {w : World} : h17_1.wp F Q env w = HC.wp F (.reg (.chk none (.bin .add) (.cons (.inp 11) (.cons (.cst (.int .i64 1)) .nil)) (.done [(11, (.op (.bin .add) (.cons (.inp 11) (.cons (.cst (.int .i64 1)) .nil))))] none))) Q env w := rfl
def h17_2 : HC := (.regq (some 3) (.chk none .chkp (.cons (.inp 4) .nil) (.chk none (.fld 1) (.cons (.op .chkp (.cons (.inp 4) .nil)) .nil) (.eff (.ld false 1) (.cons (.op (.fld 1) (.cons (.op .chkp (.cons (.inp 4) .nil)) .nil)) .nil) (.eff (.ld true 4) (.cons (.inp 8) .nil) (.eff (.bsl 73 1 4 #[(.int .i64 0), (.int .i64 0), (.int .i64 0), (.int .i64 0)] [0]) (.cons (.bv 1) .nil) (.eff (.app 69 69 73 4 32 (.agg #[(.int .i64 0), (.int .i64 0), (.int .i64 0), (.int .i64 0)])) (.cons (.bv 0) (.cons (.bv 2) .nil)) (.chk none .chkp (.cons (.inp 4) .nil) (.chk none (.fld 1) (.cons (.op .chkp (.cons (.inp 4) .nil)) .nil) (.eff (.st 1) (.cons (.op (.fld 1) (.cons (.op .chkp (.cons (.inp 4) .nil)) .nil)) (.cons (.bv 3) .nil)) (.done [] none)))))))))))
@[simp] theorem h17_2_wp {P : Program} {F : PF P} {Q : EX → List Value → World → Prop} {env : List Value} {w : World} : h17_2.wp F Q env w = HC.wp F (.regq (some 3) (.chk none .chkp (.cons (.inp 4) .nil) (.chk none (.fld 1) (.cons (.op .chkp (.cons (.inp 4) .nil)) .nil) (.eff (.ld false 1) (.cons (.op (.fld 1) (.cons (.op .chkp (.cons (.inp 4) .nil)) .nil)) .nil) (.eff (.ld true 4) (.cons (.inp 8) .nil) (.eff (.bsl 73 1 4 #[(.int .i64 0), (.int .i64 0), (.int .i64 0), (.int .i64 0)] [0]) (.cons (.bv 1) .nil) (.eff (.app 69 69 73 4 32 (.agg #[(.int .i64 0), (.int .i64 0), (.int .i64 0), (.int .i64 0)])) (.cons (.bv 0) (.cons (.bv 2) .nil)) (.chk none .chkp (.cons (.inp 4) .nil) (.chk none (.fld 1) (.cons (.op .chkp (.cons (.inp 4) .nil)) .nil) (.eff (.st 1) (.cons (.op (.fld 1) (.cons (.op .chkp (.cons (.inp 4) .nil)) .nil)) (.cons (.bv 3) .nil)) (.done [] none))))))))))) Q env w := rfl
def h17_3 : HC := (.seq (.reg (.done [(2, (.cst (.pointer none))), (3, (.cst (.int .i64 151)))] none)) .ret)
@[simp] theorem h17_3_wp {P : Program} {F : PF P} {Q : EX → List Value → World → Prop} {env : List Value} {w : World} : h17_3.wp F Q env w = HC.wp F (.seq (.reg (.done [(2, (.cst (.pointer none))), (3, (.cst (.int .i64 151)))] none)) .ret) Q env w := rfl
def h17_4 : HC := (.seq (.reg (.done [(2, (.cst (.pointer none))), (3, (.cst (.int .i64 152)))] none)) .ret)
@[simp] theorem h17_4_wp {P : Program} {F : PF P} {Q : EX → List Value → World → Prop} {env : List Value} {w : World} : h17_4.wp F Q env w = HC.wp F (.seq (.reg (.done [(2, (.cst (.pointer none))), (3, (.cst (.int .i64 152)))] none)) .ret) Q env w := rfl
def h17_5 : HC := (.seq (.reg (.done [(2, (.cst (.pointer none))), (3, (.cst (.int .i64 2)))] none)) .ret)
@[simp] theorem h17_5_wp {P : Program} {F : PF P} {Q : EX → List Value → World → Prop} {env : List Value} {w : World} : h17_5.wp F Q env w = HC.wp F (.seq (.reg (.done [(2, (.cst (.pointer none))), (3, (.cst (.int .i64 2)))] none)) .ret) Q env w := rfl
def h17_6 : HC := (.cnd 12 h17_5 .skip)
@[simp] theorem h17_6_wp {P : Program} {F : PF P} {Q : EX → List Value → World → Prop} {env : List Value} {w : World} : h17_6.wp F Q env w = HC.wp F (.cnd 12 h17_5 .skip) Q env w := rfl
def h17_7 : HC := (.reg (.eff (.ld true 4) (.cons (.inp 8) .nil) (.eff (.call 35) (.cons (.bv 0) .nil) (.chk none (.un .not) (.cons (.bv 1) .nil) (.bnd (.op (.un .not) (.cons (.bv 1) .nil)) (.chk (some ((.bv 2), true)) (.fld 0) (.cons (.inp 8) .nil) (.chk (some ((.bv 2), true)) (.fld 2) (.cons (.op (.fld 0) (.cons (.inp 8) .nil)) .nil) (.ite (.bv 2) true (.eff (.ld false 1) (.cons (.ite (.bv 2) true (.op (.fld 2) (.cons (.op (.fld 0) (.cons (.inp 8) .nil)) .nil)) (.cst (.tuple #[]))) .nil) (.chk none (.cal 36) (.cons (.bv 3) .nil) (.chk none (.un .not) (.cons (.op (.cal 36) (.cons (.bv 3) .nil)) .nil) (.isb none (.bv 2) (.done [(12, (.op (.un .not) (.cons (.op (.cal 36) (.cons (.bv 3) .nil)) .nil)))] none))))) (.isb none (.bv 2) (.done [(12, (.cst (.bool false)))] none))))))))))
@[simp] theorem h17_7_wp {P : Program} {F : PF P} {Q : EX → List Value → World → Prop} {env : List Value} {w : World} : h17_7.wp F Q env w = HC.wp F (.reg (.eff (.ld true 4) (.cons (.inp 8) .nil) (.eff (.call 35) (.cons (.bv 0) .nil) (.chk none (.un .not) (.cons (.bv 1) .nil) (.bnd (.op (.un .not) (.cons (.bv 1) .nil)) (.chk (some ((.bv 2), true)) (.fld 0) (.cons (.inp 8) .nil) (.chk (some ((.bv 2), true)) (.fld 2) (.cons (.op (.fld 0) (.cons (.inp 8) .nil)) .nil) (.ite (.bv 2) true (.eff (.ld false 1) (.cons (.ite (.bv 2) true (.op (.fld 2) (.cons (.op (.fld 0) (.cons (.inp 8) .nil)) .nil)) (.cst (.tuple #[]))) .nil) (.chk none (.cal 36) (.cons (.bv 3) .nil) (.chk none (.un .not) (.cons (.op (.cal 36) (.cons (.bv 3) .nil)) .nil) (.isb none (.bv 2) (.done [(12, (.op (.un .not) (.cons (.op (.cal 36) (.cons (.bv 3) .nil)) .nil)))] none))))) (.isb none (.bv 2) (.done [(12, (.cst (.bool false)))] none)))))))))) Q env w := rfl
def h17_8 : HC := (.cnd 12 .skip h17_7)
@[simp] theorem h17_8_wp {P : Program} {F : PF P} {Q : EX → List Value → World → Prop} {env : List Value} {w : World} : h17_8.wp F Q env w = HC.wp F (.cnd 12 .skip h17_7) Q env w := rfl
def h17_9 : HC := (.seq (.reg (.eff (.ld true 4) (.cons (.inp 8) .nil) (.eff (.call 35) (.cons (.bv 0) .nil) (.chk (some ((.bv 1), true)) (.fld 0) (.cons (.inp 8) .nil) (.chk (some ((.bv 1), true)) (.fld 2) (.cons (.op (.fld 0) (.cons (.inp 8) .nil)) .nil) (.ite (.bv 1) true (.eff (.ld false 1) (.cons (.ite (.bv 1) true (.op (.fld 2) (.cons (.op (.fld 0) (.cons (.inp 8) .nil)) .nil)) (.cst (.tuple #[]))) .nil) (.chk none (.bin .neq) (.cons (.bv 2) (.cons (.cst (.int .i64 (-1))) .nil)) (.isb none (.bv 1) (.done [(12, (.op (.bin .neq) (.cons (.bv 2) (.cons (.cst (.int .i64 (-1))) .nil))))] none)))) (.isb none (.bv 1) (.done [(12, (.cst (.bool false)))] none)))))))) h17_8)
@[simp] theorem h17_9_wp {P : Program} {F : PF P} {Q : EX → List Value → World → Prop} {env : List Value} {w : World} : h17_9.wp F Q env w = HC.wp F (.seq (.reg (.eff (.ld true 4) (.cons (.inp 8) .nil) (.eff (.call 35) (.cons (.bv 0) .nil) (.chk (some ((.bv 1), true)) (.fld 0) (.cons (.inp 8) .nil) (.chk (some ((.bv 1), true)) (.fld 2) (.cons (.op (.fld 0) (.cons (.inp 8) .nil)) .nil) (.ite (.bv 1) true (.eff (.ld false 1) (.cons (.ite (.bv 1) true (.op (.fld 2) (.cons (.op (.fld 0) (.cons (.inp 8) .nil)) .nil)) (.cst (.tuple #[]))) .nil) (.chk none (.bin .neq) (.cons (.bv 2) (.cons (.cst (.int .i64 (-1))) .nil)) (.isb none (.bv 1) (.done [(12, (.op (.bin .neq) (.cons (.bv 2) (.cons (.cst (.int .i64 (-1))) .nil))))] none)))) (.isb none (.bv 1) (.done [(12, (.cst (.bool false)))] none)))))))) h17_8) Q env w := rfl
def h17_10 : HC := (.seq (.cnd 12 .skip h17_9) h17_6)
@[simp] theorem h17_10_wp {P : Program} {F : PF P} {Q : EX → List Value → World → Prop} {env : List Value} {w : World} : h17_10.wp F Q env w = HC.wp F (.seq (.cnd 12 .skip h17_9) h17_6) Q env w := rfl
def h17_11 : HC := (.seq (.reg (.chk none (.fld 0) (.cons (.inp 8) .nil) (.chk none (.fld 3) (.cons (.op (.fld 0) (.cons (.inp 8) .nil)) .nil) (.eff (.ld false 1) (.cons (.op (.fld 3) (.cons (.op (.fld 0) (.cons (.inp 8) .nil)) .nil)) .nil) (.chk none (.bin .lss) (.cons (.bv 0) (.cons (.cst (.int .i64 0)) .nil)) (.done [(12, (.op (.bin .lss) (.cons (.bv 0) (.cons (.cst (.int .i64 0)) .nil))))] none)))))) h17_10)
@[simp] theorem h17_11_wp {P : Program} {F : PF P} {Q : EX → List Value → World → Prop} {env : List Value} {w : World} : h17_11.wp F Q env w = HC.wp F (.seq (.reg (.chk none (.fld 0) (.cons (.inp 8) .nil) (.chk none (.fld 3) (.cons (.op (.fld 0) (.cons (.inp 8) .nil)) .nil) (.eff (.ld false 1) (.cons (.op (.fld 3) (.cons (.op (.fld 0) (.cons (.inp 8) .nil)) .nil)) .nil) (.chk none (.bin .lss) (.cons (.bv 0) (.cons (.cst (.int .i64 0)) .nil)) (.done [(12, (.op (.bin .lss) (.cons (.bv 0) (.cons (.cst (.int .i64 0)) .nil))))] none)))))) h17_10) Q env w := rfl
def h17_12 : HC := (.br (.chk none (.fld 0) (.cons (.inp 8) .nil) (.chk none (.fld 1) (.cons (.op (.fld 0) (.cons (.inp 8) .nil)) .nil) (.eff (.ld false 1) (.cons (.op (.fld 1) (.cons (.op (.fld 0) (.cons (.inp 8) .nil)) .nil)) .nil) (.chk none (.cal 34) (.cons (.bv 0) .nil) (.chk none (.un .not) (.cons (.op (.cal 34) (.cons (.bv 0) .nil)) .nil) (.done [] (some (.op (.un .not) (.cons (.op (.cal 34) (.cons (.bv 0) .nil)) .nil))))))))) h17_4 h17_11)
@[simp] theorem h17_12_wp {P : Program} {F : PF P} {Q : EX → List Value → World → Prop} {env : List Value} {w : World} : h17_12.wp F Q env w = HC.wp F (.br (.chk none (.fld 0) (.cons (.inp 8) .nil) (.chk none (.fld 1) (.cons (.op (.fld 0) (.cons (.inp 8) .nil)) .nil) (.eff (.ld false 1) (.cons (.op (.fld 1) (.cons (.op (.fld 0) (.cons (.inp 8) .nil)) .nil)) .nil) (.chk none (.cal 34) (.cons (.bv 0) .nil) (.chk none (.un .not) (.cons (.op (.cal 34) (.cons (.bv 0) .nil)) .nil) (.done [] (some (.op (.un .not) (.cons (.op (.cal 34) (.cons (.bv 0) .nil)) .nil))))))))) h17_4 h17_11) Q env w := rfl
def h17_13 : HC := (.br (.chk none (.fld 0) (.cons (.inp 8) .nil) (.chk none (.fld 0) (.cons (.op (.fld 0) (.cons (.inp 8) .nil)) .nil) (.eff (.ld false 1) (.cons (.op (.fld 0) (.cons (.op (.fld 0) (.cons (.inp 8) .nil)) .nil)) .nil) (.chk none (.bin .add) (.cons (.inp 6) (.cons (.cst (.int .i64 1)) .nil)) (.chk none (.bin .neq) (.cons (.bv 0) (.cons (.op (.bin .add) (.cons (.inp 6) (.cons (.cst (.int .i64 1)) .nil))) .nil)) (.done [] (some (.op (.bin .neq) (.cons (.bv 0) (.cons (.op (.bin .add) (.cons (.inp 6) (.cons (.cst (.int .i64 1)) .nil))) .nil)))))))))) h17_3 h17_12)
@[simp] theorem h17_13_wp {P : Program} {F : PF P} {Q : EX → List Value → World → Prop} {env : List Value} {w : World} : h17_13.wp F Q env w = HC.wp F (.br (.chk none (.fld 0) (.cons (.inp 8) .nil) (.chk none (.fld 0) (.cons (.op (.fld 0) (.cons (.inp 8) .nil)) .nil) (.eff (.ld false 1) (.cons (.op (.fld 0) (.cons (.op (.fld 0) (.cons (.inp 8) .nil)) .nil)) .nil) (.chk none (.bin .add) (.cons (.inp 6) (.cons (.cst (.int .i64 1)) .nil)) (.chk none (.bin .neq) (.cons (.bv 0) (.cons (.op (.bin .add) (.cons (.inp 6) (.cons (.cst (.int .i64 1)) .nil))) .nil)) (.done [] (some (.op (.bin .neq) (.cons (.bv 0) (.cons (.op (.bin .add) (.cons (.inp 6) (.cons (.cst (.int .i64 1)) .nil))) .nil)))))))))) h17_3 h17_12) Q env w := rfl
def h17_14 : HC := (.seq (.block 2 h17_13) h17_2)
@[simp] theorem h17_14_wp {P : Program} {F : PF P} {Q : EX → List Value → World → Prop} {env : List Value} {w : World} : h17_14.wp F Q env w = HC.wp F (.seq (.block 2 h17_13) h17_2) Q env w := rfl
def h17_15 : HC := (.seq (.reg (.eff (.ld true 4) (.cons (.inp 7) .nil) (.chk none (.build #[(.int .i64 0), (.int .i64 0), (.int .i64 0), (.int .i64 0)] [(0, 4)] [0]) (.cons (.bv 0) .nil) (.eff (.new 73 (.agg #[(.int .i64 0), (.int .i64 0), (.int .i64 0), (.int .i64 0)])) .nil (.eff (.st 4) (.cons (.bv 1) (.cons (.op (.build #[(.int .i64 0), (.int .i64 0), (.int .i64 0), (.int .i64 0)] [(0, 4)] [0]) (.cons (.bv 0) .nil)) .nil)) (.done [(8, (.bv 1))] none)))))) h17_14)
@[simp] theorem h17_15_wp {P : Program} {F : PF P} {Q : EX → List Value → World → Prop} {env : List Value} {w : World} : h17_15.wp F Q env w = HC.wp F (.seq (.reg (.eff (.ld true 4) (.cons (.inp 7) .nil) (.chk none (.build #[(.int .i64 0), (.int .i64 0), (.int .i64 0), (.int .i64 0)] [(0, 4)] [0]) (.cons (.bv 0) .nil) (.eff (.new 73 (.agg #[(.int .i64 0), (.int .i64 0), (.int .i64 0), (.int .i64 0)])) .nil (.eff (.st 4) (.cons (.bv 1) (.cons (.op (.build #[(.int .i64 0), (.int .i64 0), (.int .i64 0), (.int .i64 0)] [(0, 4)] [0]) (.cons (.bv 0) .nil)) .nil)) (.done [(8, (.bv 1))] none)))))) h17_14) Q env w := rfl
def h17_16 : HC := (.seq (.reg (.chk none (.idxL 4) (.cons (.inp 9) (.cons (.inp 11) .nil)) (.eff (.ld true 4) (.cons (.op (.idxL 4) (.cons (.inp 9) (.cons (.inp 11) .nil))) .nil) (.eff (.new 44 (.agg #[(.int .i64 0), (.int .i64 0), (.int .i64 0), (.int .i64 0)])) .nil (.eff (.st 4) (.cons (.bv 1) (.cons (.bv 0) .nil)) (.done [(6, (.inp 11)), (7, (.bv 1))] none)))))) h17_15)
@[simp] theorem h17_16_wp {P : Program} {F : PF P} {Q : EX → List Value → World → Prop} {env : List Value} {w : World} : h17_16.wp F Q env w = HC.wp F (.seq (.reg (.chk none (.idxL 4) (.cons (.inp 9) (.cons (.inp 11) .nil)) (.eff (.ld true 4) (.cons (.op (.idxL 4) (.cons (.inp 9) (.cons (.inp 11) .nil))) .nil) (.eff (.new 44 (.agg #[(.int .i64 0), (.int .i64 0), (.int .i64 0), (.int .i64 0)])) .nil (.eff (.st 4) (.cons (.bv 1) (.cons (.bv 0) .nil)) (.done [(6, (.inp 11)), (7, (.bv 1))] none)))))) h17_15) Q env w := rfl
def h17_17 : HC := (.seq (.block 1 h17_16) h17_1)
@[simp] theorem h17_17_wp {P : Program} {F : PF P} {Q : EX → List Value → World → Prop} {env : List Value} {w : World} : h17_17.wp F Q env w = HC.wp F (.seq (.block 1 h17_16) h17_1) Q env w := rfl
def h17_18 : HC := (.seq (.br (.chk none (.bin .lss) (.cons (.inp 11) (.cons (.inp 10) .nil)) (.done [] (some (.op (.bin .lss) (.cons (.inp 11) (.cons (.inp 10) .nil)))))) .skip (.exit 0)) h17_17)
@[simp] theorem h17_18_wp {P : Program} {F : PF P} {Q : EX → List Value → World → Prop} {env : List Value} {w : World} : h17_18.wp F Q env w = HC.wp F (.seq (.br (.chk none (.bin .lss) (.cons (.inp 11) (.cons (.inp 10) .nil)) (.done [] (some (.op (.bin .lss) (.cons (.inp 11) (.cons (.inp 10) .nil)))))) .skip (.exit 0)) h17_17) Q env w := rfl
def h17_19 : HC := (.loop h17_18)
@[simp] theorem h17_19_wp {P : Program} {F : PF P} {Q : EX → List Value → World → Prop} {env : List Value} {w : World} : h17_19.wp F Q env w = HC.wp F (.loop h17_18) Q env w := rfl
def h17_20 : HC := (.seq (.block 0 h17_19) h17_0)
@[simp] theorem h17_20_wp {P : Program} {F : PF P} {Q : EX → List Value → World → Prop} {env : List Value} {w : World} : h17_20.wp F Q env w = HC.wp F (.seq (.block 0 h17_19) h17_0) Q env w := rfl
def h17_21 : HC := (.seq (.reg (.chk none .lenL (.cons (.inp 1) .nil) (.done [(9, (.inp 1)), (10, (.op .lenL (.cons (.inp 1) .nil))), (11, (.cst (.int .i64 0)))] none))) h17_20)
@[simp] theorem h17_21_wp {P : Program} {F : PF P} {Q : EX → List Value → World → Prop} {env : List Value} {w : World} : h17_21.wp F Q env w = HC.wp F (.seq (.reg (.chk none .lenL (.cons (.inp 1) .nil) (.done [(9, (.inp 1)), (10, (.op .lenL (.cons (.inp 1) .nil))), (11, (.cst (.int .i64 0)))] none))) h17_20) Q env w := rfl
def h17_22 : HC := (.seq (.reg (.done [(2, (.cst (.pointer none))), (3, (.cst (.int .i64 150)))] none)) .ret)
@[simp] theorem h17_22_wp {P : Program} {F : PF P} {Q : EX → List Value → World → Prop} {env : List Value} {w : World} : h17_22.wp F Q env w = HC.wp F (.seq (.reg (.done [(2, (.cst (.pointer none))), (3, (.cst (.int .i64 150)))] none)) .ret) Q env w := rfl
def h17_23 : HC := (.seq (.br (.chk none .lenL (.cons (.inp 1) .nil) (.chk none (.bin .gtr) (.cons (.op .lenL (.cons (.inp 1) .nil)) (.cons (.inp 0) .nil)) (.done [] (some (.op (.bin .gtr) (.cons (.op .lenL (.cons (.inp 1) .nil)) (.cons (.inp 0) .nil))))))) h17_22 .skip) h17_21)
@[simp] theorem h17_23_wp {P : Program} {F : PF P} {Q : EX → List Value → World → Prop} {env : List Value} {w : World} : h17_23.wp F Q env w = HC.wp F (.seq (.br (.chk none .lenL (.cons (.inp 1) .nil) (.chk none (.bin .gtr) (.cons (.op .lenL (.cons (.inp 1) .nil)) (.cons (.inp 0) .nil)) (.done [] (some (.op (.bin .gtr) (.cons (.op .lenL (.cons (.inp 1) .nil)) (.cons (.inp 0) .nil))))))) h17_22 .skip) h17_21) Q env w := rfl
def h17_24 : HC := (.seq (.reg (.done [(2, (.cst (.pointer none))), (3, (.inp 5))] none)) .ret)
@[simp] theorem h17_24_wp {P : Program} {F : PF P} {Q : EX → List Value → World → Prop} {env : List Value} {w : World} : h17_24.wp F Q env w = HC.wp F (.seq (.reg (.done [(2, (.cst (.pointer none))), (3, (.inp 5))] none)) .ret) Q env w := rfl
def h17_25 : HC := (.seq (.br (.chk none (.bin .neq) (.cons (.inp 5) (.cons (.cst (.int .i64 0)) .nil)) (.done [] (some (.op (.bin .neq) (.cons (.inp 5) (.cons (.cst (.int .i64 0)) .nil)))))) h17_24 .skip) h17_23)
@[simp] theorem h17_25_wp {P : Program} {F : PF P} {Q : EX → List Value → World → Prop} {env : List Value} {w : World} : h17_25.wp F Q env w = HC.wp F (.seq (.br (.chk none (.bin .neq) (.cons (.inp 5) (.cons (.cst (.int .i64 0)) .nil)) (.done [] (some (.op (.bin .neq) (.cons (.inp 5) (.cons (.cst (.int .i64 0)) .nil)))))) h17_24 .skip) h17_23) Q env w := rfl
def h17_26 : HC := (.seq (.reg (.eff (.call 8) (.cons (.inp 0) .nil) (.chk none (.ext 0) (.cons (.bv 0) .nil) (.chk none (.ext 1) (.cons (.bv 0) .nil) (.done [(4, (.op (.ext 0) (.cons (.bv 0) .nil))), (5, (.op (.ext 1) (.cons (.bv 0) .nil)))] none))))) h17_25)
@[simp] theorem h17_26_wp {P : Program} {F : PF P} {Q : EX → List Value → World → Prop} {env : List Value} {w : World} : h17_26.wp F Q env w = HC.wp F (.seq (.reg (.eff (.call 8) (.cons (.inp 0) .nil) (.chk none (.ext 0) (.cons (.bv 0) .nil) (.chk none (.ext 1) (.cons (.bv 0) .nil) (.done [(4, (.op (.ext 0) (.cons (.bv 0) .nil))), (5, (.op (.ext 1) (.cons (.bv 0) .nil)))] none))))) h17_25) Q env w := rfl
def l17 : Lifted := ⟨[0, 1, 4, 5, 6, 7, 8, 9, 10, 23, 24, 25, 45], 80, [.slot 2, .slot 3], (.seq (.reg (.done [(2, (.cst (.pointer none))), (3, (.cst (.int .i64 0)))] none)) h17_26)⟩
theorem l17_ok : liftFn G1 17 400 = some l17 := by kernel_rfl


theorem Clone_spec (v : Value) (its : List It) (w0 w : World) (A : Asn) (hl : its.length ≤ 1048576) (s : St w0 (A * own 73 4 v its.length (flat its)) w) :
    CallW Try.prog 33 [v] (fun r w' => St w0 (A * own 73 4 v its.length (flat its) * own 73 4 r its.length (flat its)) w') w := by
  obtain ⟨a, cap, rfl, hcap, _⟩ := s.own_val
  refine callW_of_lift l33_ok (by simp [l33]) ?_
  simp [l33]
  cases a with
  | none =>
    simp
    rcases s.own.2 with ⟨h, h0, _⟩ | ⟨_, _, _, h, _⟩
    · have hi : its = [] := List.eq_nil_of_length_eq_zero h0
      subst hi
      exact s.own_nil _ _
    · cases h
  | some a =>
    simp
    refine eff_bsl0 s ?_
    intro v0 w1 s1
    simp
    have hr : Row w0 (A * own 73 4 (.slice (some a) its.length cap) its.length (flat its) * own 73 4 v0 0 []) (.slice (some a) its.length cap) its.length 4 (flat its) := (row_own s).mono fun w s => s.drop
    refine eff_appR s1 hr (flat_one _) (by decide) rfl (by unfold maxLen; omega) (by omega) ?_
    intro v' w2 s2
    simp
    simpa using s2
theorem Copy_spec (p : Nat) (lim : Int) (its : List It) (w0 w : World) (A : Asn) (hl : its.length ≤ 1048576) (s : St w0 (A * gds p lim its) w) :
    CallW Try.prog 16 [.pointer (some ⟨p, 0, none⟩)] (fun r w' => ∃ q, r = .pointer (some ⟨q, 0, none⟩) ∧ St w0 (A * gds p lim its * gds q lim its) w') w := by
  refine callW_of_lift l16_ok (by simp [l16]) ?_
  simp [l16]
  obtain ⟨v, s1⟩ := gopen s
  obtain ⟨a, cap, rfl, _⟩ := s1.own_val
  have L : ∀ {B : Asn} {w : World}, St w0 (A * pt p (.cells #[.int .i64 lim, .slice a its.length cap] 71 (0, 0)) * B) w → w.cell? ⟨p, 0, none⟩ = some (.int .i64 lim) ∧ w.cell? ⟨p, 1, none⟩ = some (.slice a its.length cap) :=
    fun s => ⟨by rw [cell_of s.swap.look]; rfl, by rw [cell_of s.swap.look]; rfl⟩
  refine regmI (fun vs w => match vs with
    | [] => St w0 (A * pt p (.cells #[.int .i64 lim, .slice a its.length cap] 71 (0, 0)) * own 73 4 (.slice a its.length cap) its.length (flat its)) w
    | [r] => St w0 (A * pt p (.cells #[.int .i64 lim, .slice a its.length cap] 71 (0, 0)) * own 73 4 (.slice a its.length cap) its.length (flat its) * own 73 4 r its.length (flat its)) w
    | [r, q] => ∃ qb, q = .pointer (some ⟨qb, 0, none⟩) ∧ St w0 (A * pt p (.cells #[.int .i64 lim, .slice a its.length cap] 71 (0, 0)) * own 73 4 (.slice a its.length cap) its.length (flat its) * own 73 4 r its.length (flat its) * pt qb (.cells #[.int .i64 lim, r] 71 (0, 0))) w
    | _ => False) s1.drew ?_
  simp
  refine effm_ldc (v := .int .i64 lim) (fun vs' w he hw => ?_) ?_
  · match vs', hw with
    | [], hw => exact (L hw).1
    | [_], hw => exact (L hw.drop).1
    | [_, _], hw => simp [era] at he
  simp
  refine effm_ldc (v := .slice a its.length cap) (fun vs' w he hw => ?_) ?_
  · match vs', hw with
    | [], hw => exact (L hw).2
    | [_], hw => exact (L hw.drop).2
    | [_, _], hw => simp [era] at he
  simp
  refine effm_mv rfl (fun w hw => eff_call (Clone_spec _ its w0 w _ hl hw)) (fun r hr => ?_)
  simp
  obtain ⟨w5, hr⟩ := hr
  obtain ⟨ra, rcap, rfl, _⟩ := St.own_val hr
  simp [Instr.fill, Value.cells]
  refine effm_mv rfl (fun w hw => eff_box hw fun qb w' h => ⟨qb, rfl, h⟩) (fun q hq => ?_)
  simp
  rintro w6 x rfl h7
  refine ⟨x, rfl, ?_⟩
  have t1 := gclose (A := A * own 73 4 (.slice ra its.length rcap) its.length (flat its) * pt x (.cells #[.int .i64 lim, .slice ra its.length rcap] 71 (0, 0))) (lim := lim) (p := p) (its := its) (v := .slice a its.length cap) (h7.to (by ac_rfl))
  exact gclose (A := A * gds p lim its) (lim := lim) (p := x) (its := its) (v := .slice ra its.length rcap) (t1.to (by ac_rfl))
theorem fill_thing (x : It) : Instr.fill (fun i => ([(0, 4)] : List (Nat × Nat))[i]?) #[.int .i64 0, .int .i64 0, .int .i64 0, .int .i64 0] [(0, .agg x.cs.toArray)] = some x.cs.toArray := by
  cases x
  simp [Instr.fill, It.cs, Value.cells]
def itemE (i : Nat) (x : It) : Int := if x.num ≠ (i : Int) + 1 then 151 else if kindF x.kind = false then 152 else if x.con < 0 ∨ (0 < x.con ∧ x.acc ≠ -1) ∨ (¬ 0 < x.con ∧ accF x.acc = false) then 2 else 0
def scanE : Nat → List It → Int
  | _, [] => 0
  | i, x :: l => if itemE i x = 0 then scanE (i + 1) l else itemE i x
def loadE (lim : Int) (rows : List It) : Int := if 0 ≤ lim ∧ lim ≤ 512 then (if lim < rows.length then 150 else scanE 0 rows) else 2
theorem Load_spec (lim : Int) (rows : List It) (v : Value) (w0 w : World) (A : Asn) (hl : rows.length ≤ 1048576) (hrow : Row w0 A v rows.length 4 (flat rows)) (s : St w0 A w) :
    CallW Try.prog 17 [.int .i64 lim, v] (fun r w' => if loadE lim rows = 0 then ∃ p, r = .tuple #[.pointer (some ⟨p, 0, none⟩), .int .i64 0] ∧ St w0 (A * gds p lim rows) w' else r = .tuple #[.pointer none, .int .i64 (loadE lim rows)] ∧ St w0 A w') w := by
  obtain ⟨a, cap, rfl⟩ := hrow.val
  refine callW_of_lift l17_ok (by simp [l17]) ?_
  simp [l17]
  refine eff_call ((New_spec lim w0 w A s).mono ?_)
  intro r w1 h1
  by_cases h0 : 0 ≤ lim ∧ lim ≤ 512
  · rw [if_pos h0] at h1
    obtain ⟨p, rfl, s1⟩ := h1
    simp
    refine cndI (fun h2 => ?_) (fun h2 => ?_)
    · simp at h2
      have e : loadE lim rows = 150 := by unfold loadE; rw [if_pos h0, if_pos h2]
      simp [e]
      exact s1.drop
    simp at h2
    have e : loadE lim rows = scanE 0 rows := by unfold loadE; rw [if_pos h0, if_neg (by omega)]
    rw [e]
    simp
    have e0 : scanE 0 rows = scanE 0 (rows.drop 0) := rfl
    rw [e0]
    refine loopI (fun env w' => ∃ (i : Nat) (o6 o7 o8 o12 : Value), env = [.int .i64 lim, .slice a rows.length cap, .pointer none, .int .i64 0, .pointer (some ⟨p, 0, none⟩), .int .i64 0, o6, o7, o8, .slice a rows.length cap, .int .i64 rows.length, .int .i64 i, o12] ∧ i ≤ rows.length ∧ scanE 0 (rows.drop 0) = scanE i (rows.drop i) ∧
        St w0 (A * gds p lim (rows.take i)) w')
      (fun env _ => rows.length - slotN env 11) ⟨0, _, _, _, _, rfl, by omega, rfl, s1⟩ ?_
    rintro LQ env w' ⟨i, o6, o7, o8, o12, rfl, hi, hsc, s'⟩ hN hE hR
    simp
    refine cndI (fun h => ?_) (fun h => ?_)
    · simp at h
      have hcur : scanE i (rows.drop i) = if itemE i rows[i] = 0 then scanE (i + 1) (rows.drop (i + 1)) else itemE i rows[i] := by rw [List.drop_eq_getElem_cons h]; rfl
      obtain ⟨g, o, cap', hv, hc⟩ := hrow.at (by omega)
      cases hv
      simp [h]
      refine eff_ldcs (vs := rows[i].cs) (fun j u hu => by rw [Nat.add_assoc]; exact hc _ s'.drop _ _ (flat_at h j u hu)) rfl ?_
      simp
      refine eff_new s' ?_
      intro rb w2 s2
      simp
      refine eff_stA (vs := rows[i].cs) s2 rfl rfl (cs_one _) (by simp) ?_
      intro w3 s3
      simp
      have s4 : St w0 (A * gds p lim (rows.take i) * pt rb (.cells rows[i].cs.toArray 44 (0, 0))) w3 := by simpa using s3
      refine eff_ldcs (vs := rows[i].cs) s4.row_cells rfl ?_
      simp [fill_thing]
      refine eff_new s4 ?_
      intro tb w4 s5
      simp [fill_thing]
      refine eff_stA (vs := rows[i].cs) s5 rfl rfl (cs_one _) (by simp) ?_
      intro w5 s6
      simp
      have s7 : St w0 (A * gds p lim (rows.take i) * pt rb (.cells rows[i].cs.toArray 44 (0, 0)) * pt tb (.cells rows[i].cs.toArray 73 (0, 0))) w5 := by simpa using s6
      have c0 : ∀ {B : Asn} {w : World}, St w0 (B * pt tb (.cells rows[i].cs.toArray 73 (0, 0))) w → w.cell? ⟨tb, 0, none⟩ = some (.int .i64 rows[i].num) ∧ w.cell? ⟨tb, 1, none⟩ = some (.int .i64 rows[i].kind) ∧ w.cell? ⟨tb, 2, none⟩ = some (.int .i64 rows[i].acc) ∧ w.cell? ⟨tb, 3, none⟩ = some (.int .i64 rows[i].con) :=
        fun s => ⟨by rw [cell_of s.look]; rfl, by rw [cell_of s.look]; rfl, by rw [cell_of s.look]; rfl, by rw [cell_of s.look]; rfl⟩
      have hw1 : IntKind.i64.wrap ((i : Int) + 1) = (i : Int) + 1 := wrap64 (by omega) (by omega)
      refine eff_ldc (c0 s7).1 ?_
      simp [hw1]
      refine cndI (fun e1 => ?_) (fun e1 => ?_)
      · simp at e1
        have hE1 : itemE i rows[i] = 151 := by unfold itemE; rw [if_pos e1]
        simp
        refine hR _ _ ?_
        rw [hsc, hcur, hE1]
        simp
        exact s7.drop.drop.drop
      simp at e1
      simp
      refine eff_ldc (c0 s7).2.1 ?_
      simp
      refine cndI (fun e2 => ?_) (fun e2 => ?_)
      · simp at e2
        have hE1 : itemE i rows[i] = 152 := by unfold itemE; rw [if_neg (by omega), if_pos e2]
        simp
        refine hR _ _ ?_
        rw [hsc, hcur, hE1]
        simp
        exact s7.drop.drop.drop
      simp at e2
      simp
      refine eff_ldc (c0 s7).2.2.2 ?_
      simp
      have bad : ∀ w, St w0 (A * gds p lim (rows.take i) * pt rb (.cells rows[i].cs.toArray 44 (0, 0)) * pt tb (.cells rows[i].cs.toArray 73 (0, 0))) w → itemE i rows[i] = 2 →
          HC.wp G1 h17_6 (blockQ 2 (seqQ G1 h17_2 (blockQ 1 (seqQ G1 h17_1 LQ))))
            [.int .i64 lim, .slice (some ⟨g, o, none⟩) rows.length cap, .pointer none, .int .i64 0, .pointer (some ⟨p, 0, none⟩), .int .i64 0, .int .i64 i, .pointer (some ⟨rb, 0, none⟩), .pointer (some ⟨tb, 0, none⟩), .slice (some ⟨g, o, none⟩) rows.length cap, .int .i64 rows.length, .int .i64 i, .bool true] w := by
        intro w s hE1
        simp
        refine hR _ _ ?_
        rw [hsc, hcur, hE1]
        simp
        exact s.drop.drop.drop
      have good : ∀ w, St w0 (A * gds p lim (rows.take i) * pt rb (.cells rows[i].cs.toArray 44 (0, 0)) * pt tb (.cells rows[i].cs.toArray 73 (0, 0))) w → itemE i rows[i] = 0 →
          HC.wp G1 h17_6 (blockQ 2 (seqQ G1 h17_2 (blockQ 1 (seqQ G1 h17_1 LQ))))
            [.int .i64 lim, .slice (some ⟨g, o, none⟩) rows.length cap, .pointer none, .int .i64 0, .pointer (some ⟨p, 0, none⟩), .int .i64 0, .int .i64 i, .pointer (some ⟨rb, 0, none⟩), .pointer (some ⟨tb, 0, none⟩), .slice (some ⟨g, o, none⟩) rows.length cap, .int .i64 rows.length, .int .i64 i, .bool false] w := by
        intro w s hE1
        simp
        obtain ⟨v0, t⟩ := gopen (s.to (B := A * pt rb (.cells rows[i].cs.toArray 44 (0, 0)) * pt tb (.cells rows[i].cs.toArray 73 (0, 0)) * gds p lim (rows.take i)) (by ac_rfl))
        obtain ⟨va, vc, rfl, _⟩ := t.own_val
        have hti : (rows.take i).length = i := by rw [List.length_take]; omega
        generalize hT : rows.take i = T at t hti
        refine regmI (fun vs w => match vs with
          | [] => St w0 (A * pt rb (.cells rows[i].cs.toArray 44 (0, 0)) * pt tb (.cells rows[i].cs.toArray 73 (0, 0)) * pt p (.cells #[.int .i64 lim, .slice va T.length vc] 71 (0, 0)) * own 73 4 (.slice va T.length vc) T.length (flat T)) w
          | [sl] => ∃ c, sl = .slice (some ⟨c, 0, none⟩) 1 1 ∧ St w0 (A * pt rb (.cells rows[i].cs.toArray 44 (0, 0)) * pt tb (.cells rows[i].cs.toArray 73 (0, 0)) * pt p (.cells #[.int .i64 lim, .slice va T.length vc] 71 (0, 0)) * own 73 4 (.slice va T.length vc) T.length (flat T) * pt c (.cells rows[i].cs.toArray 73 (0, 0))) w
          | [sl, v'] => ∃ c, sl = .slice (some ⟨c, 0, none⟩) 1 1 ∧ St w0 (A * pt rb (.cells rows[i].cs.toArray 44 (0, 0)) * pt tb (.cells rows[i].cs.toArray 73 (0, 0)) * pt p (.cells #[.int .i64 lim, .slice va T.length vc] 71 (0, 0)) * pt c (.cells rows[i].cs.toArray 73 (0, 0)) * own 73 4 v' (T.length + 1) (flat T ++ rows[i].cs)) w
          | _ :: v' :: _ => ∃ c, St w0 (A * pt rb (.cells rows[i].cs.toArray 44 (0, 0)) * pt tb (.cells rows[i].cs.toArray 73 (0, 0)) * pt c (.cells rows[i].cs.toArray 73 (0, 0)) * own 73 4 v' (T.length + 1) (flat T ++ rows[i].cs) * pt p (.cells #[.int .i64 lim, v'] 71 (0, 0))) w) t.drew ?_
        simp
        refine effm_ldc (v := .slice va T.length vc) (fun vs' w he hw => ?_) ?_
        · match vs', hw with
          | [], hw => rw [cell_of (St.swap hw).look]; rfl
          | [_], ⟨c, _, hw⟩ => rw [cell_of (St.swap hw.drop).look]; rfl
          | [_, _], ⟨c, _, hw⟩ => rw [cell_of hw.drop.drop.look]; rfl
          | _ :: _ :: _ :: _, hw => simp [era] at he
        simp
        refine effm_ldcs (us := rows[i].cs) (off := 0) (fun vs' w he hw => ?_) rfl ?_
        · match vs', hw with
          | [], hw => exact (St.drop (St.drop hw)).row_cells
          | [_], ⟨c, _, hw⟩ => exact hw.drop.drop.drop.row_cells
          | [_, _], ⟨c, _, hw⟩ => exact hw.drop.drop.drop.row_cells
          | _ :: _ :: _ :: _, hw => simp [era] at he
        simp
        refine effm_mv rfl (fun w hw => eff_bslV hw rfl fun c w' h => ⟨c, rfl, h⟩) (fun sl hsl => ?_)
        obtain ⟨w7, c, rfl, _⟩ := hsl
        simp
        refine effm_mv rfl (fun w hw => ?_) (fun v' hv' => ?_)
        · obtain ⟨c', e, hw⟩ := hw
          cases e
          have hw' := hw.to (B := A * pt rb (.cells rows[i].cs.toArray 44 (0, 0)) * pt tb (.cells rows[i].cs.toArray 73 (0, 0)) * pt p (.cells #[.int .i64 lim, .slice va T.length vc] 71 (0, 0)) * pt c (.cells rows[i].cs.toArray 73 (0, 0)) * own 73 4 (.slice va T.length vc) T.length (flat T)) (by ac_rfl)
          exact eff_app (m := 1) (news := rows[i].cs) hw' rfl hw.cells_look (cs_one _) (by decide) rfl (by unfold maxLen; omega) (by omega) fun v'' w' h => ⟨c, rfl, h⟩
        obtain ⟨w8, c', _, hv'⟩ := hv'
        obtain ⟨na, nc, rfl, _⟩ := hv'.own_val
        simp
        refine effm_mv rfl (fun w hw => ?_) (fun u _ => ?_)
        · obtain ⟨c', e, hw⟩ := hw
          have hw' := hw.to (B := A * pt rb (.cells rows[i].cs.toArray 44 (0, 0)) * pt tb (.cells rows[i].cs.toArray 73 (0, 0)) * pt c' (.cells rows[i].cs.toArray 73 (0, 0)) * own 73 4 (.slice na (T.length + 1) nc) (T.length + 1) (flat T ++ rows[i].cs) * pt p (.cells #[.int .i64 lim, .slice va T.length vc] 71 (0, 0))) (by ac_rfl)
          exact eff_st1 hw' rfl (by simp) fun w' h => ⟨c', by simpa using h⟩
        simp
        intro w9 c9 h9
        try simp (disch := omega) only [wrap64]
        refine hN _ _ ⟨i + 1, _, _, _, _, by simp; exact ⟨rfl, rfl, rfl, rfl⟩, by omega, ?_, ?_⟩ (by simp [slotN]; omega)
        · rw [hsc, hcur, if_pos hE1]
        · have htake : rows.take (i + 1) = T ++ [rows[i]] := by rw [← hT]; exact List.take_succ_eq_append_getElem h
          have e9 : flat T ++ rows[i].cs = flat (rows.take (i + 1)) := by rw [htake]; simp only [flat, List.flatMap_append, List.flatMap_cons, List.flatMap_nil, List.append_nil]
          have hl9 : T.length + 1 = (rows.take (i + 1)).length := by rw [htake]; simp
          rw [e9, hl9] at h9
          refine gclose (v := .slice na (rows.take (i + 1)).length nc) ?_
          exact St.cut (pt rb (.cells rows[i].cs.toArray 44 (0, 0)) * pt tb (.cells rows[i].cs.toArray 73 (0, 0)) * pt c9 (.cells rows[i].cs.toArray 73 (0, 0))) h9 (by ac_rfl)
      refine cndI (fun e3 => ?_) (fun e3 => ?_)
      · simp at e3
        have hE1 : itemE i rows[i] = 2 := by unfold itemE; rw [if_neg (by omega), if_neg (by simp [e2]), if_pos (.inl e3)]
        have := bad w5 s7 hE1
        simp at this
        simpa [e3] using this
      simp at e3
      simp
      refine eff_ldcs (vs := rows[i].cs) s7.row_cells rfl ?_
      simp
      refine eff_call ((held_spec rows[i] w0 w5 _ s7).mono ?_)
      rintro r w6 ⟨rfl, s8⟩
      simp
      by_cases hc0 : 0 < rows[i].con
      · simp [hc0]
        refine eff_ldc (c0 s8).2.2.1 ?_
        simp
        refine cndI (fun e4 => ?_) (fun e4 => ?_)
        · simp at e4
          have hE1 : itemE i rows[i] = 2 := by unfold itemE; rw [if_neg (by omega), if_neg (by simp [e2]), if_pos (.inr (.inl ⟨hc0, e4⟩))]
          have := bad w6 s8 hE1
          simp at this
          simpa [e4] using this
        · simp at e4
          have hE1 : itemE i rows[i] = 0 := by
            unfold itemE; rw [if_neg (by omega), if_neg (by simp [e2]), if_neg]
            rintro (h' | ⟨_, h'⟩ | ⟨h', _⟩) <;> omega
          simp
          refine eff_ldcs (vs := rows[i].cs) s8.row_cells rfl ?_
          simp
          refine eff_call ((held_spec rows[i] w0 w6 _ s8).mono ?_)
          rintro r w7 ⟨rfl, s9⟩
          simp [hc0]
          have := good w7 s9 hE1
          simp at this
          simpa using this
      · simp [hc0]
        refine eff_ldcs (vs := rows[i].cs) s8.row_cells rfl ?_
        simp
        refine eff_call ((held_spec rows[i] w0 w6 _ s8).mono ?_)
        rintro r w7 ⟨rfl, s9⟩
        simp [hc0]
        refine eff_ldc (c0 s9).2.2.1 ?_
        cases hac : accF rows[i].acc with
        | true =>
          have hE1 : itemE i rows[i] = 0 := by
            unfold itemE; rw [if_neg (by omega), if_neg (by simp [e2]), if_neg]
            rintro (h' | ⟨h', _⟩ | ⟨_, h'⟩)
            · omega
            · omega
            · rw [hac] at h'; cases h'
          simp [hac]
          have := good w7 s9 hE1
          simp at this
          simpa using this
        | false =>
          have hE1 : itemE i rows[i] = 2 := by
            unfold itemE; rw [if_neg (by omega), if_neg (by simp [e2]), if_pos (.inr (.inr ⟨hc0, hac⟩))]
          simp [hac]
          have := bad w7 s9 hE1
          simp at this
          simpa using this
    · simp at h
      simp
      refine hE _ _ _ ?_
      have e : i = rows.length := by omega
      subst e
      rw [hsc]
      simp [scanE]
      rw [List.take_length] at s'
      exact s'
  · rw [if_neg h0] at h1
    obtain ⟨rfl, s1⟩ := h1
    have e : loadE lim rows = 2 := by unfold loadE; rw [if_neg h0]
    simp [e]
    exact s1
end Go.HL.Gd
