/-
  Purse: what it tells; Copy. Conditions: accounts within bounds.
-/
import Derived.Test.YtliofpihaemglaaPuC
namespace Go.HL.Pu
open Go.HL Go.HL.Nm Go.Proofs
set_option maxRecDepth 4000
set_option linter.unusedSimpArgs false
set_option linter.unusedVariables false
-- (*bazaar/purse.Purse).Find
def h14_0 : HC := (.seq (.reg (.chk none .chkp (.cons (.inp 0) .nil) (.chk none (.fld 0) (.cons (.op .chkp (.cons (.inp 0) .nil)) .nil) (.eff (.call 47) (.cons (.op (.fld 0) (.cons (.op .chkp (.cons (.inp 0) .nil)) .nil)) (.cons (.inp 1) .nil)) (.chk none (.ext 0) (.cons (.bv 0) .nil) (.chk none (.ext 1) (.cons (.bv 0) .nil) (.done [(2, (.op (.ext 0) (.cons (.bv 0) .nil))), (3, (.op (.ext 1) (.cons (.bv 0) .nil)))] none))))))) .ret)
@[simp] theorem h14_0_wp {P : Program} {F : PF P} {Q : EX → List Value → World → Prop} {env : List Value} {w : World} : h14_0.wp F Q env w = HC.wp F (.seq (.reg (.chk none .chkp (.cons (.inp 0) .nil) (.chk none (.fld 0) (.cons (.op .chkp (.cons (.inp 0) .nil)) .nil) (.eff (.call 47) (.cons (.op (.fld 0) (.cons (.op .chkp (.cons (.inp 0) .nil)) .nil)) (.cons (.inp 1) .nil)) (.chk none (.ext 0) (.cons (.bv 0) .nil) (.chk none (.ext 1) (.cons (.bv 0) .nil) (.done [(2, (.op (.ext 0) (.cons (.bv 0) .nil))), (3, (.op (.ext 1) (.cons (.bv 0) .nil)))] none))))))) .ret) Q env w := rfl
def h14_1 : HC := (.seq (.reg (.done [(2, (.cst (.int .i64 0))), (3, (.cst (.bool false)))] none)) .ret)
@[simp] theorem h14_1_wp {P : Program} {F : PF P} {Q : EX → List Value → World → Prop} {env : List Value} {w : World} : h14_1.wp F Q env w = HC.wp F (.seq (.reg (.done [(2, (.cst (.int .i64 0))), (3, (.cst (.bool false)))] none)) .ret) Q env w := rfl
def h14_2 : HC := (.seq (.br (.chk none (.eqNil false (.pointer 81) (.pointer none)) (.cons (.inp 0) .nil) (.done [] (some (.op (.eqNil false (.pointer 81) (.pointer none)) (.cons (.inp 0) .nil))))) h14_1 .skip) h14_0)
@[simp] theorem h14_2_wp {P : Program} {F : PF P} {Q : EX → List Value → World → Prop} {env : List Value} {w : World} : h14_2.wp F Q env w = HC.wp F (.seq (.br (.chk none (.eqNil false (.pointer 81) (.pointer none)) (.cons (.inp 0) .nil) (.done [] (some (.op (.eqNil false (.pointer 81) (.pointer none)) (.cons (.inp 0) .nil))))) h14_1 .skip) h14_0) Q env w := rfl
def l14 : Lifted := ⟨[0, 1, 4, 5], 15, [.slot 2, .slot 3], (.seq (.reg (.done [(2, (.cst (.int .i64 0))), (3, (.cst (.bool false)))] none)) h14_2)⟩
theorem l14_ok : liftFn U0 14 400 = some l14 := by kernel_rfl

-- (*bazaar/purse.Purse).Near
def h16_0 : HC := (.seq (.reg (.eff (.call 52) (.cons (.inp 3) .nil) (.done [(2, (.bv 0))] none))) .ret)
@[simp] theorem h16_0_wp {P : Program} {F : PF P} {Q : EX → List Value → World → Prop} {env : List Value} {w : World} : h16_0.wp F Q env w = HC.wp F (.seq (.reg (.eff (.call 52) (.cons (.inp 3) .nil) (.done [(2, (.bv 0))] none))) .ret) Q env w := rfl
def h16_1 : HC := (.reg (.chk none (.bin .add) (.cons (.inp 9) (.cons (.cst (.int .i64 1)) .nil)) (.done [(9, (.op (.bin .add) (.cons (.inp 9) (.cons (.cst (.int .i64 1)) .nil))))] none)))
@[simp] theorem h16_1_wp {P : Program} {F : PF P} {Q : EX → List Value → World → Prop} {env : List Value} {w : World} : h16_1.wp F Q env w = HC.wp F (.reg (.chk none (.bin .add) (.cons (.inp 9) (.cons (.cst (.int .i64 1)) .nil)) (.done [(9, (.op (.bin .add) (.cons (.inp 9) (.cons (.cst (.int .i64 1)) .nil))))] none))) Q env w := rfl
def h16_2 : HC := (.reg (.eff (.bsl 3 1 1 #[(.int .i64 0)] [0]) (.cons (.inp 5) .nil) (.eff (.app 35 35 3 1 8 (.int .i64 0)) (.cons (.inp 3) (.cons (.bv 0) .nil)) (.done [(3, (.bv 1))] none))))
@[simp] theorem h16_2_wp {P : Program} {F : PF P} {Q : EX → List Value → World → Prop} {env : List Value} {w : World} : h16_2.wp F Q env w = HC.wp F (.reg (.eff (.bsl 3 1 1 #[(.int .i64 0)] [0]) (.cons (.inp 5) .nil) (.eff (.app 35 35 3 1 8 (.int .i64 0)) (.cons (.inp 3) (.cons (.bv 0) .nil)) (.done [(3, (.bv 1))] none)))) Q env w := rfl
def h16_3 : HC := (.br (.chk none (.fld 0) (.cons (.inp 6) .nil) (.eff (.ld false 1) (.cons (.op (.fld 0) (.cons (.inp 6) .nil)) .nil) (.eff (.call 51) (.cons (.bv 0) .nil) (.chk none (.bin .eql) (.cons (.bv 1) (.cons (.inp 4) .nil)) (.done [] (some (.op (.bin .eql) (.cons (.bv 1) (.cons (.inp 4) .nil))))))))) h16_2 .skip)
@[simp] theorem h16_3_wp {P : Program} {F : PF P} {Q : EX → List Value → World → Prop} {env : List Value} {w : World} : h16_3.wp F Q env w = HC.wp F (.br (.chk none (.fld 0) (.cons (.inp 6) .nil) (.eff (.ld false 1) (.cons (.op (.fld 0) (.cons (.inp 6) .nil)) .nil) (.eff (.call 51) (.cons (.bv 0) .nil) (.chk none (.bin .eql) (.cons (.bv 1) (.cons (.inp 4) .nil)) (.done [] (some (.op (.bin .eql) (.cons (.bv 1) (.cons (.inp 4) .nil))))))))) h16_2 .skip) Q env w := rfl
def h16_4 : HC := (.seq (.reg (.chk none (.idxL 2) (.cons (.inp 7) (.cons (.inp 9) .nil)) (.eff (.ld true 2) (.cons (.op (.idxL 2) (.cons (.inp 7) (.cons (.inp 9) .nil))) .nil) (.eff (.new 66 (.agg #[(.string ⟨#[]⟩), (.int .u64 0)])) .nil (.eff (.st 2) (.cons (.bv 1) (.cons (.bv 0) .nil)) (.done [(5, (.inp 9)), (6, (.bv 1))] none)))))) h16_3)
@[simp] theorem h16_4_wp {P : Program} {F : PF P} {Q : EX → List Value → World → Prop} {env : List Value} {w : World} : h16_4.wp F Q env w = HC.wp F (.seq (.reg (.chk none (.idxL 2) (.cons (.inp 7) (.cons (.inp 9) .nil)) (.eff (.ld true 2) (.cons (.op (.idxL 2) (.cons (.inp 7) (.cons (.inp 9) .nil))) .nil) (.eff (.new 66 (.agg #[(.string ⟨#[]⟩), (.int .u64 0)])) .nil (.eff (.st 2) (.cons (.bv 1) (.cons (.bv 0) .nil)) (.done [(5, (.inp 9)), (6, (.bv 1))] none)))))) h16_3) Q env w := rfl
def h16_5 : HC := (.seq (.block 1 h16_4) h16_1)
@[simp] theorem h16_5_wp {P : Program} {F : PF P} {Q : EX → List Value → World → Prop} {env : List Value} {w : World} : h16_5.wp F Q env w = HC.wp F (.seq (.block 1 h16_4) h16_1) Q env w := rfl
def h16_6 : HC := (.seq (.br (.chk none (.bin .lss) (.cons (.inp 9) (.cons (.inp 8) .nil)) (.done [] (some (.op (.bin .lss) (.cons (.inp 9) (.cons (.inp 8) .nil)))))) .skip (.exit 0)) h16_5)
@[simp] theorem h16_6_wp {P : Program} {F : PF P} {Q : EX → List Value → World → Prop} {env : List Value} {w : World} : h16_6.wp F Q env w = HC.wp F (.seq (.br (.chk none (.bin .lss) (.cons (.inp 9) (.cons (.inp 8) .nil)) (.done [] (some (.op (.bin .lss) (.cons (.inp 9) (.cons (.inp 8) .nil)))))) .skip (.exit 0)) h16_5) Q env w := rfl
def h16_7 : HC := (.loop h16_6)
@[simp] theorem h16_7_wp {P : Program} {F : PF P} {Q : EX → List Value → World → Prop} {env : List Value} {w : World} : h16_7.wp F Q env w = HC.wp F (.loop h16_6) Q env w := rfl
def h16_8 : HC := (.seq (.block 0 h16_7) h16_0)
@[simp] theorem h16_8_wp {P : Program} {F : PF P} {Q : EX → List Value → World → Prop} {env : List Value} {w : World} : h16_8.wp F Q env w = HC.wp F (.seq (.block 0 h16_7) h16_0) Q env w := rfl
def h16_9 : HC := (.seq (.reg (.chk none .chkp (.cons (.inp 0) .nil) (.chk none (.fld 2) (.cons (.op .chkp (.cons (.inp 0) .nil)) .nil) (.eff (.ld false 1) (.cons (.op (.fld 2) (.cons (.op .chkp (.cons (.inp 0) .nil)) .nil)) .nil) (.chk none .lenL (.cons (.bv 0) .nil) (.done [(7, (.bv 0)), (8, (.op .lenL (.cons (.bv 0) .nil))), (9, (.cst (.int .i64 0)))] none)))))) h16_8)
@[simp] theorem h16_9_wp {P : Program} {F : PF P} {Q : EX → List Value → World → Prop} {env : List Value} {w : World} : h16_9.wp F Q env w = HC.wp F (.seq (.reg (.chk none .chkp (.cons (.inp 0) .nil) (.chk none (.fld 2) (.cons (.op .chkp (.cons (.inp 0) .nil)) .nil) (.eff (.ld false 1) (.cons (.op (.fld 2) (.cons (.op .chkp (.cons (.inp 0) .nil)) .nil)) .nil) (.chk none .lenL (.cons (.bv 0) .nil) (.done [(7, (.bv 0)), (8, (.op .lenL (.cons (.bv 0) .nil))), (9, (.cst (.int .i64 0)))] none)))))) h16_8) Q env w := rfl
def h16_10 : HC := (.seq (.reg (.eff (.call 51) (.cons (.inp 1) .nil) (.done [(4, (.bv 0))] none))) h16_9)
@[simp] theorem h16_10_wp {P : Program} {F : PF P} {Q : EX → List Value → World → Prop} {env : List Value} {w : World} : h16_10.wp F Q env w = HC.wp F (.seq (.reg (.eff (.call 51) (.cons (.inp 1) .nil) (.done [(4, (.bv 0))] none))) h16_9) Q env w := rfl
def h16_11 : HC := (.seq (.reg (.done [(3, (.cst (.slice none 0 0)))] none)) h16_10)
@[simp] theorem h16_11_wp {P : Program} {F : PF P} {Q : EX → List Value → World → Prop} {env : List Value} {w : World} : h16_11.wp F Q env w = HC.wp F (.seq (.reg (.done [(3, (.cst (.slice none 0 0)))] none)) h16_10) Q env w := rfl
def h16_12 : HC := (.seq (.reg (.done [(2, (.cst (.slice none 0 0)))] none)) .ret)
@[simp] theorem h16_12_wp {P : Program} {F : PF P} {Q : EX → List Value → World → Prop} {env : List Value} {w : World} : h16_12.wp F Q env w = HC.wp F (.seq (.reg (.done [(2, (.cst (.slice none 0 0)))] none)) .ret) Q env w := rfl
def h16_13 : HC := (.seq (.br (.chk none (.eqNil false (.pointer 81) (.pointer none)) (.cons (.inp 0) .nil) (.done [] (some (.op (.eqNil false (.pointer 81) (.pointer none)) (.cons (.inp 0) .nil))))) h16_12 .skip) h16_11)
@[simp] theorem h16_13_wp {P : Program} {F : PF P} {Q : EX → List Value → World → Prop} {env : List Value} {w : World} : h16_13.wp F Q env w = HC.wp F (.seq (.br (.chk none (.eqNil false (.pointer 81) (.pointer none)) (.cons (.inp 0) .nil) (.done [] (some (.op (.eqNil false (.pointer 81) (.pointer none)) (.cons (.inp 0) .nil))))) h16_12 .skip) h16_11) Q env w := rfl
def l16 : Lifted := ⟨[0, 1, 4, 5, 6, 7, 8, 16, 17, 18], 35, [.slot 2], (.seq (.reg (.done [(2, (.cst (.slice none 0 0)))] none)) h16_13)⟩
theorem l16_ok : liftFn U0 16 400 = some l16 := by kernel_rfl

-- (*bazaar/purse.Purse).Supply
def h30_0 : HC := (.seq (.reg (.chk none .chkp (.cons (.inp 0) .nil) (.chk none (.fld 3) (.cons (.op .chkp (.cons (.inp 0) .nil)) .nil) (.eff (.ld false 1) (.cons (.op (.fld 3) (.cons (.op .chkp (.cons (.inp 0) .nil)) .nil)) .nil) (.done [(1, (.bv 0))] none))))) .ret)
@[simp] theorem h30_0_wp {P : Program} {F : PF P} {Q : EX → List Value → World → Prop} {env : List Value} {w : World} : h30_0.wp F Q env w = HC.wp F (.seq (.reg (.chk none .chkp (.cons (.inp 0) .nil) (.chk none (.fld 3) (.cons (.op .chkp (.cons (.inp 0) .nil)) .nil) (.eff (.ld false 1) (.cons (.op (.fld 3) (.cons (.op .chkp (.cons (.inp 0) .nil)) .nil)) .nil) (.done [(1, (.bv 0))] none))))) .ret) Q env w := rfl
def h30_1 : HC := (.seq (.reg (.done [(1, (.cst (.int .u64 0)))] none)) .ret)
@[simp] theorem h30_1_wp {P : Program} {F : PF P} {Q : EX → List Value → World → Prop} {env : List Value} {w : World} : h30_1.wp F Q env w = HC.wp F (.seq (.reg (.done [(1, (.cst (.int .u64 0)))] none)) .ret) Q env w := rfl
def h30_2 : HC := (.seq (.br (.chk none (.eqNil false (.pointer 81) (.pointer none)) (.cons (.inp 0) .nil) (.done [] (some (.op (.eqNil false (.pointer 81) (.pointer none)) (.cons (.inp 0) .nil))))) h30_1 .skip) h30_0)
@[simp] theorem h30_2_wp {P : Program} {F : PF P} {Q : EX → List Value → World → Prop} {env : List Value} {w : World} : h30_2.wp F Q env w = HC.wp F (.seq (.br (.chk none (.eqNil false (.pointer 81) (.pointer none)) (.cons (.inp 0) .nil) (.done [] (some (.op (.eqNil false (.pointer 81) (.pointer none)) (.cons (.inp 0) .nil))))) h30_1 .skip) h30_0) Q env w := rfl
def l30 : Lifted := ⟨[0, 2], 9, [.slot 1], (.seq (.reg (.done [(1, (.cst (.int .u64 0)))] none)) h30_2)⟩
theorem l30_ok : liftFn U0 30 400 = some l30 := by kernel_rfl

-- (*bazaar/purse.Purse).Held
def h37_0 : HC := (.seq (.reg (.chk none .chkp (.cons (.inp 0) .nil) (.chk none (.fld 4) (.cons (.op .chkp (.cons (.inp 0) .nil)) .nil) (.eff (.ld false 1) (.cons (.op (.fld 4) (.cons (.op .chkp (.cons (.inp 0) .nil)) .nil)) .nil) (.done [(1, (.bv 0))] none))))) .ret)
@[simp] theorem h37_0_wp {P : Program} {F : PF P} {Q : EX → List Value → World → Prop} {env : List Value} {w : World} : h37_0.wp F Q env w = HC.wp F (.seq (.reg (.chk none .chkp (.cons (.inp 0) .nil) (.chk none (.fld 4) (.cons (.op .chkp (.cons (.inp 0) .nil)) .nil) (.eff (.ld false 1) (.cons (.op (.fld 4) (.cons (.op .chkp (.cons (.inp 0) .nil)) .nil)) .nil) (.done [(1, (.bv 0))] none))))) .ret) Q env w := rfl
def h37_1 : HC := (.seq (.reg (.done [(1, (.cst (.int .u64 0)))] none)) .ret)
@[simp] theorem h37_1_wp {P : Program} {F : PF P} {Q : EX → List Value → World → Prop} {env : List Value} {w : World} : h37_1.wp F Q env w = HC.wp F (.seq (.reg (.done [(1, (.cst (.int .u64 0)))] none)) .ret) Q env w := rfl
def h37_2 : HC := (.seq (.br (.chk none (.eqNil false (.pointer 81) (.pointer none)) (.cons (.inp 0) .nil) (.done [] (some (.op (.eqNil false (.pointer 81) (.pointer none)) (.cons (.inp 0) .nil))))) h37_1 .skip) h37_0)
@[simp] theorem h37_2_wp {P : Program} {F : PF P} {Q : EX → List Value → World → Prop} {env : List Value} {w : World} : h37_2.wp F Q env w = HC.wp F (.seq (.br (.chk none (.eqNil false (.pointer 81) (.pointer none)) (.cons (.inp 0) .nil) (.done [] (some (.op (.eqNil false (.pointer 81) (.pointer none)) (.cons (.inp 0) .nil))))) h37_1 .skip) h37_0) Q env w := rfl
def l37 : Lifted := ⟨[0, 2], 9, [.slot 1], (.seq (.reg (.done [(1, (.cst (.int .u64 0)))] none)) h37_2)⟩
theorem l37_ok : liftFn U0 37 400 = some l37 := by kernel_rfl

-- (*bazaar/purse.Purse).Limit
def h28_0 : HC := (.seq (.reg (.chk none .chkp (.cons (.inp 0) .nil) (.chk none (.fld 1) (.cons (.op .chkp (.cons (.inp 0) .nil)) .nil) (.eff (.ld false 1) (.cons (.op (.fld 1) (.cons (.op .chkp (.cons (.inp 0) .nil)) .nil)) .nil) (.done [(1, (.bv 0))] none))))) .ret)
@[simp] theorem h28_0_wp {P : Program} {F : PF P} {Q : EX → List Value → World → Prop} {env : List Value} {w : World} : h28_0.wp F Q env w = HC.wp F (.seq (.reg (.chk none .chkp (.cons (.inp 0) .nil) (.chk none (.fld 1) (.cons (.op .chkp (.cons (.inp 0) .nil)) .nil) (.eff (.ld false 1) (.cons (.op (.fld 1) (.cons (.op .chkp (.cons (.inp 0) .nil)) .nil)) .nil) (.done [(1, (.bv 0))] none))))) .ret) Q env w := rfl
def h28_1 : HC := (.seq (.reg (.done [(1, (.cst (.int .i64 0)))] none)) .ret)
@[simp] theorem h28_1_wp {P : Program} {F : PF P} {Q : EX → List Value → World → Prop} {env : List Value} {w : World} : h28_1.wp F Q env w = HC.wp F (.seq (.reg (.done [(1, (.cst (.int .i64 0)))] none)) .ret) Q env w := rfl
def h28_2 : HC := (.seq (.br (.chk none (.eqNil false (.pointer 81) (.pointer none)) (.cons (.inp 0) .nil) (.done [] (some (.op (.eqNil false (.pointer 81) (.pointer none)) (.cons (.inp 0) .nil))))) h28_1 .skip) h28_0)
@[simp] theorem h28_2_wp {P : Program} {F : PF P} {Q : EX → List Value → World → Prop} {env : List Value} {w : World} : h28_2.wp F Q env w = HC.wp F (.seq (.br (.chk none (.eqNil false (.pointer 81) (.pointer none)) (.cons (.inp 0) .nil) (.done [] (some (.op (.eqNil false (.pointer 81) (.pointer none)) (.cons (.inp 0) .nil))))) h28_1 .skip) h28_0) Q env w := rfl
def l28 : Lifted := ⟨[0, 2], 9, [.slot 1], (.seq (.reg (.done [(1, (.cst (.int .i64 0)))] none)) h28_2)⟩
theorem l28_ok : liftFn U0 28 400 = some l28 := by kernel_rfl

-- (*bazaar/purse.Purse).Len
def h18_0 : HC := (.seq (.reg (.chk none .chkp (.cons (.inp 0) .nil) (.chk none (.fld 2) (.cons (.op .chkp (.cons (.inp 0) .nil)) .nil) (.eff (.ld false 1) (.cons (.op (.fld 2) (.cons (.op .chkp (.cons (.inp 0) .nil)) .nil)) .nil) (.chk none .lenL (.cons (.bv 0) .nil) (.done [(1, (.op .lenL (.cons (.bv 0) .nil)))] none)))))) .ret)
@[simp] theorem h18_0_wp {P : Program} {F : PF P} {Q : EX → List Value → World → Prop} {env : List Value} {w : World} : h18_0.wp F Q env w = HC.wp F (.seq (.reg (.chk none .chkp (.cons (.inp 0) .nil) (.chk none (.fld 2) (.cons (.op .chkp (.cons (.inp 0) .nil)) .nil) (.eff (.ld false 1) (.cons (.op (.fld 2) (.cons (.op .chkp (.cons (.inp 0) .nil)) .nil)) .nil) (.chk none .lenL (.cons (.bv 0) .nil) (.done [(1, (.op .lenL (.cons (.bv 0) .nil)))] none)))))) .ret) Q env w := rfl
def h18_1 : HC := (.seq (.reg (.done [(1, (.cst (.int .i64 0)))] none)) .ret)
@[simp] theorem h18_1_wp {P : Program} {F : PF P} {Q : EX → List Value → World → Prop} {env : List Value} {w : World} : h18_1.wp F Q env w = HC.wp F (.seq (.reg (.done [(1, (.cst (.int .i64 0)))] none)) .ret) Q env w := rfl
def h18_2 : HC := (.seq (.br (.chk none (.eqNil false (.pointer 81) (.pointer none)) (.cons (.inp 0) .nil) (.done [] (some (.op (.eqNil false (.pointer 81) (.pointer none)) (.cons (.inp 0) .nil))))) h18_1 .skip) h18_0)
@[simp] theorem h18_2_wp {P : Program} {F : PF P} {Q : EX → List Value → World → Prop} {env : List Value} {w : World} : h18_2.wp F Q env w = HC.wp F (.seq (.br (.chk none (.eqNil false (.pointer 81) (.pointer none)) (.cons (.inp 0) .nil) (.done [] (some (.op (.eqNil false (.pointer 81) (.pointer none)) (.cons (.inp 0) .nil))))) h18_1 .skip) h18_0) Q env w := rfl
def l18 : Lifted := ⟨[0, 2], 10, [.slot 1], (.seq (.reg (.done [(1, (.cst (.int .i64 0)))] none)) h18_2)⟩
theorem l18_ok : liftFn U0 18 400 = some l18 := by kernel_rfl

-- (*bazaar/purse.Purse).Rows
def h29_0 : HC := (.seq (.reg (.chk none .chkp (.cons (.inp 0) .nil) (.chk none (.fld 2) (.cons (.op .chkp (.cons (.inp 0) .nil)) .nil) (.eff (.ld false 1) (.cons (.op (.fld 2) (.cons (.op .chkp (.cons (.inp 0) .nil)) .nil)) .nil) (.eff (.call 56) (.cons (.bv 0) .nil) (.eff (.call 59) (.cons (.bv 1) .nil) (.done [(1, (.bv 2))] none))))))) .ret)
@[simp] theorem h29_0_wp {P : Program} {F : PF P} {Q : EX → List Value → World → Prop} {env : List Value} {w : World} : h29_0.wp F Q env w = HC.wp F (.seq (.reg (.chk none .chkp (.cons (.inp 0) .nil) (.chk none (.fld 2) (.cons (.op .chkp (.cons (.inp 0) .nil)) .nil) (.eff (.ld false 1) (.cons (.op (.fld 2) (.cons (.op .chkp (.cons (.inp 0) .nil)) .nil)) .nil) (.eff (.call 56) (.cons (.bv 0) .nil) (.eff (.call 59) (.cons (.bv 1) .nil) (.done [(1, (.bv 2))] none))))))) .ret) Q env w := rfl
def h29_1 : HC := (.seq (.reg (.done [(1, (.cst (.slice none 0 0)))] none)) .ret)
@[simp] theorem h29_1_wp {P : Program} {F : PF P} {Q : EX → List Value → World → Prop} {env : List Value} {w : World} : h29_1.wp F Q env w = HC.wp F (.seq (.reg (.done [(1, (.cst (.slice none 0 0)))] none)) .ret) Q env w := rfl
def h29_2 : HC := (.seq (.br (.chk none (.eqNil false (.pointer 81) (.pointer none)) (.cons (.inp 0) .nil) (.done [] (some (.op (.eqNil false (.pointer 81) (.pointer none)) (.cons (.inp 0) .nil))))) h29_1 .skip) h29_0)
@[simp] theorem h29_2_wp {P : Program} {F : PF P} {Q : EX → List Value → World → Prop} {env : List Value} {w : World} : h29_2.wp F Q env w = HC.wp F (.seq (.br (.chk none (.eqNil false (.pointer 81) (.pointer none)) (.cons (.inp 0) .nil) (.done [] (some (.op (.eqNil false (.pointer 81) (.pointer none)) (.cons (.inp 0) .nil))))) h29_1 .skip) h29_0) Q env w := rfl
def l29 : Lifted := ⟨[0, 2], 11, [.slot 1], (.seq (.reg (.done [(1, (.cst (.slice none 0 0)))] none)) h29_2)⟩
theorem l29_ok : liftFn U0 29 400 = some l29 := by kernel_rfl

-- (*bazaar/purse.Purse).Copy
def h26_0 : HC := (.seq (.reg (.done [(1, (.inp 2))] none)) .ret)
@[simp] theorem h26_0_wp {P : Program} {F : PF P} {Q : EX → List Value → World → Prop} {env : List Value} {w : World} : h26_0.wp F Q env w = HC.wp F (.seq (.reg (.done [(1, (.inp 2))] none)) .ret) Q env w := rfl
def h26_1 : HC := (.seq (.reg (.chk none .chkp (.cons (.inp 0) .nil) (.chk none (.fld 0) (.cons (.op .chkp (.cons (.inp 0) .nil)) .nil) (.chk none (.fld 0) (.cons (.op (.fld 0) (.cons (.op .chkp (.cons (.inp 0) .nil)) .nil)) .nil) (.eff (.ld false 1) (.cons (.op (.fld 0) (.cons (.op (.fld 0) (.cons (.op .chkp (.cons (.inp 0) .nil)) .nil)) .nil)) .nil) (.eff (.call 57) (.cons (.bv 0) .nil) (.chk none (.fld 0) (.cons (.inp 2) .nil) (.chk none (.fld 0) (.cons (.op (.fld 0) (.cons (.inp 2) .nil)) .nil) (.eff (.st 1) (.cons (.op (.fld 0) (.cons (.op (.fld 0) (.cons (.inp 2) .nil)) .nil)) (.cons (.bv 1) .nil)) (.done [] none)))))))))) h26_0)
@[simp] theorem h26_1_wp {P : Program} {F : PF P} {Q : EX → List Value → World → Prop} {env : List Value} {w : World} : h26_1.wp F Q env w = HC.wp F (.seq (.reg (.chk none .chkp (.cons (.inp 0) .nil) (.chk none (.fld 0) (.cons (.op .chkp (.cons (.inp 0) .nil)) .nil) (.chk none (.fld 0) (.cons (.op (.fld 0) (.cons (.op .chkp (.cons (.inp 0) .nil)) .nil)) .nil) (.eff (.ld false 1) (.cons (.op (.fld 0) (.cons (.op (.fld 0) (.cons (.op .chkp (.cons (.inp 0) .nil)) .nil)) .nil)) .nil) (.eff (.call 57) (.cons (.bv 0) .nil) (.chk none (.fld 0) (.cons (.inp 2) .nil) (.chk none (.fld 0) (.cons (.op (.fld 0) (.cons (.inp 2) .nil)) .nil) (.eff (.st 1) (.cons (.op (.fld 0) (.cons (.op (.fld 0) (.cons (.inp 2) .nil)) .nil)) (.cons (.bv 1) .nil)) (.done [] none)))))))))) h26_0) Q env w := rfl
def h26_2 : HC := (.seq (.reg (.chk none .chkp (.cons (.inp 0) .nil) (.chk none (.fld 2) (.cons (.op .chkp (.cons (.inp 0) .nil)) .nil) (.eff (.ld false 1) (.cons (.op (.fld 2) (.cons (.op .chkp (.cons (.inp 0) .nil)) .nil)) .nil) (.eff (.call 56) (.cons (.bv 0) .nil) (.chk none (.fld 2) (.cons (.inp 2) .nil) (.eff (.st 1) (.cons (.op (.fld 2) (.cons (.inp 2) .nil)) (.cons (.bv 1) .nil)) (.done [] none)))))))) h26_1)
@[simp] theorem h26_2_wp {P : Program} {F : PF P} {Q : EX → List Value → World → Prop} {env : List Value} {w : World} : h26_2.wp F Q env w = HC.wp F (.seq (.reg (.chk none .chkp (.cons (.inp 0) .nil) (.chk none (.fld 2) (.cons (.op .chkp (.cons (.inp 0) .nil)) .nil) (.eff (.ld false 1) (.cons (.op (.fld 2) (.cons (.op .chkp (.cons (.inp 0) .nil)) .nil)) .nil) (.eff (.call 56) (.cons (.bv 0) .nil) (.chk none (.fld 2) (.cons (.inp 2) .nil) (.eff (.st 1) (.cons (.op (.fld 2) (.cons (.inp 2) .nil)) (.cons (.bv 1) .nil)) (.done [] none)))))))) h26_1) Q env w := rfl
def h26_3 : HC := (.seq (.reg (.chk none .chkp (.cons (.inp 0) .nil) (.eff (.ld true 5) (.cons (.op .chkp (.cons (.inp 0) .nil)) .nil) (.eff (.new 81 (.agg #[(.map none), (.int .i64 0), (.slice none 0 0), (.int .u64 0), (.int .u64 0)])) .nil (.eff (.st 5) (.cons (.bv 1) (.cons (.bv 0) .nil)) (.done [(2, (.bv 1))] none)))))) h26_2)
@[simp] theorem h26_3_wp {P : Program} {F : PF P} {Q : EX → List Value → World → Prop} {env : List Value} {w : World} : h26_3.wp F Q env w = HC.wp F (.seq (.reg (.chk none .chkp (.cons (.inp 0) .nil) (.eff (.ld true 5) (.cons (.op .chkp (.cons (.inp 0) .nil)) .nil) (.eff (.new 81 (.agg #[(.map none), (.int .i64 0), (.slice none 0 0), (.int .u64 0), (.int .u64 0)])) .nil (.eff (.st 5) (.cons (.bv 1) (.cons (.bv 0) .nil)) (.done [(2, (.bv 1))] none)))))) h26_2) Q env w := rfl
def h26_4 : HC := (.seq (.reg (.done [(1, (.cst (.pointer none)))] none)) .ret)
@[simp] theorem h26_4_wp {P : Program} {F : PF P} {Q : EX → List Value → World → Prop} {env : List Value} {w : World} : h26_4.wp F Q env w = HC.wp F (.seq (.reg (.done [(1, (.cst (.pointer none)))] none)) .ret) Q env w := rfl
def h26_5 : HC := (.seq (.br (.chk none (.eqNil false (.pointer 81) (.pointer none)) (.cons (.inp 0) .nil) (.done [] (some (.op (.eqNil false (.pointer 81) (.pointer none)) (.cons (.inp 0) .nil))))) h26_4 .skip) h26_3)
@[simp] theorem h26_5_wp {P : Program} {F : PF P} {Q : EX → List Value → World → Prop} {env : List Value} {w : World} : h26_5.wp F Q env w = HC.wp F (.seq (.br (.chk none (.eqNil false (.pointer 81) (.pointer none)) (.cons (.inp 0) .nil) (.done [] (some (.op (.eqNil false (.pointer 81) (.pointer none)) (.cons (.inp 0) .nil))))) h26_4 .skip) h26_3) Q env w := rfl
def l26 : Lifted := ⟨[0, 2, 3], 23, [.slot 1], (.seq (.reg (.done [(1, (.cst (.pointer none)))] none)) h26_5)⟩
theorem l26_ok : liftFn U0 26 400 = some l26 := by kernel_rfl


theorem Find_spec (p : Nat) (P : Ps) (x : List UInt8) (w0 w : World) (A : Asn) (hx : x.length ≤ 1048576) (s : St w0 (A * pur p P) w) :
    CallW Try.prog 14 [.pointer (some ⟨p, 0, none⟩), .string (mk x)] (fun r w' => r = .tuple #[.int .i64 (askN (keyF x) (keys P.rows)), .bool (askB (keyF x) (keys P.rows))] ∧ St w0 (A * pur p P) w') w := by
  refine callW_of_lift l14_ok (by simp [l14]) ?_
  simp [l14]
  obtain ⟨m, v, s1⟩ := popen s
  refine eff_call ((known_p p P m v x w0 w (A * own 66 2 v P.rows.length (flat P.rows)) hx (s1.to (by ac_rfl))).mono ?_)
  rintro r w2 ⟨rfl, s2⟩
  simp
  exact pclose (m := m) (v := v) (s2.to (by ac_rfl))
theorem Supply_spec (p : Nat) (P : Ps) (w0 w : World) (A : Asn) (s : St w0 (A * pur p P) w) :
    CallW Try.prog 30 [.pointer (some ⟨p, 0, none⟩)] (fun r w' => r = .int .u64 P.sup ∧ St w0 (A * pur p P) w') w := by
  refine callW_of_lift l30_ok (by simp [l30]) ?_
  simp [l30]
  obtain ⟨m, v, s1⟩ := popen s
  refine eff_ldc (v := .int .u64 P.sup) (by rw [cell_of s1.drop.drop.look]; rfl) ?_
  simp
  exact s
theorem Held_spec (p : Nat) (P : Ps) (w0 w : World) (A : Asn) (s : St w0 (A * pur p P) w) :
    CallW Try.prog 37 [.pointer (some ⟨p, 0, none⟩)] (fun r w' => r = .int .u64 P.held ∧ St w0 (A * pur p P) w') w := by
  refine callW_of_lift l37_ok (by simp [l37]) ?_
  simp [l37]
  obtain ⟨m, v, s1⟩ := popen s
  refine eff_ldc (v := .int .u64 P.held) (by rw [cell_of s1.drop.drop.look]; rfl) ?_
  simp
  exact s
theorem Limit_spec (p : Nat) (P : Ps) (w0 w : World) (A : Asn) (s : St w0 (A * pur p P) w) :
    CallW Try.prog 28 [.pointer (some ⟨p, 0, none⟩)] (fun r w' => r = .int .i64 P.lim ∧ St w0 (A * pur p P) w') w := by
  refine callW_of_lift l28_ok (by simp [l28]) ?_
  simp [l28]
  obtain ⟨m, v, s1⟩ := popen s
  refine eff_ldc (v := .int .i64 P.lim) (by rw [cell_of s1.drop.drop.look]; rfl) ?_
  simp
  exact s
theorem Len_spec (p : Nat) (P : Ps) (w0 w : World) (A : Asn) (s : St w0 (A * pur p P) w) :
    CallW Try.prog 18 [.pointer (some ⟨p, 0, none⟩)] (fun r w' => r = .int .i64 P.rows.length ∧ St w0 (A * pur p P) w') w := by
  refine callW_of_lift l18_ok (by simp [l18]) ?_
  simp [l18]
  obtain ⟨m, v, s1⟩ := popen s
  obtain ⟨a, cap, rfl, _⟩ := s1.own_val
  refine eff_ldc (v := .slice a P.rows.length cap) (by rw [cell_of s1.drop.drop.look]; rfl) ?_
  simp
  exact s
theorem Rows_spec (p : Nat) (P : Ps) (w0 w : World) (A : Asn) (hl : P.rows.length ≤ 1048576) (s : St w0 (A * pur p P) w) :
    CallW Try.prog 29 [.pointer (some ⟨p, 0, none⟩)] (fun r w' => St w0 (A * pur p P * own 66 2 r P.rows.length (flat P.rows)) w') w := by
  refine callW_of_lift l29_ok (by simp [l29]) ?_
  simp [l29]
  obtain ⟨m, v, s1⟩ := popen s
  refine eff_ldc (v := v) (by rw [cell_of s1.drop.drop.look]; rfl) ?_
  simp
  refine eff_call ((clone_spec v P.rows w0 w _ hl s1).mono ?_)
  intro r w2 s2
  simp
  refine eff_call ((clipA_spec r P.rows.length _ _ w0 w2 _ hl s2).mono ?_)
  intro r2 w3 s3
  simp
  have s4 := s3.to (B := A * own 66 2 r2 P.rows.length (flat P.rows) * pt4 p P m v * mpt m P.rows * own 66 2 v P.rows.length (flat P.rows)) (by ac_rfl)
  exact (pclose s4).to (by ac_rfl)
theorem Copy_spec (p : Nat) (P : Ps) (w0 w : World) (A : Asn) (hl : P.rows.length ≤ 1048576) (s : St w0 (A * pur p P) w) :
    CallW Try.prog 26 [.pointer (some ⟨p, 0, none⟩)] (fun r w' => ∃ q, r = .pointer (some ⟨q, 0, none⟩) ∧ St w0 (A * pur p P * pur q P) w') w := by
  refine callW_of_lift l26_ok (by simp [l26]) ?_
  simp [l26]
  obtain ⟨m, v, s1⟩ := popen s
  obtain ⟨a, cap, hv, _⟩ := s1.own_val
  refine eff_ldcs (vs := [.map (some m), .int .i64 P.lim, v, .int .u64 P.sup, .int .u64 P.held]) (fun j u hu => St.row_cells s1.drop.drop j u hu) rfl ?_
  simp
  refine eff_new s1 ?_
  intro q w2 s2
  simp
  refine eff_stA (vs := [.map (some m), .int .i64 P.lim, v, .int .u64 P.sup, .int .u64 P.held]) s2 rfl rfl (by rw [hv]; simp [Value.oneCell']) (by simp) ?_
  intro w3 s3
  simp at s3
  simp
  have s4 : St w0 (A * pt4 p P m v * mpt m P.rows * own 66 2 v P.rows.length (flat P.rows) * pt4 q P m v) w3 := s3
  clear s3 s2 s1 s
  refine eff_ldc (v := v) (by rw [cell_of s4.drop.drop.drop.look]; rfl) ?_
  simp
  refine eff_call ((clone_spec v P.rows w0 w3 (A * pt4 p P m v * mpt m P.rows * pt4 q P m v) hl (s4.to (by ac_rfl))).mono ?_)
  intro r w4 s5
  simp
  obtain ⟨ra, rc, hr, _⟩ := s5.own_val
  refine eff_st1 (s5.to (B := A * pt4 p P m v * mpt m P.rows * own 66 2 v P.rows.length (flat P.rows) * own 66 2 r P.rows.length (flat P.rows) * pt4 q P m v) (by ac_rfl)) (by rw [hr]; rfl) (by simp) ?_
  intro w5 s6
  simp at s6
  simp
  have s7 : St w0 (A * pt4 p P m v * mpt m P.rows * own 66 2 v P.rows.length (flat P.rows) * own 66 2 r P.rows.length (flat P.rows) * pt4 q P m r) w5 := s6
  clear s6 s5 s4
  refine eff_ldc (v := .map (some m)) (by rw [cell_of s7.drop.drop.drop.drop.look]; rfl) ?_
  simp
  refine eff_call ((mclone_spec m (keys P.rows) (keys P.rows).length w0 w5 (A * pt4 p P m v * own 66 2 v P.rows.length (flat P.rows) * own 66 2 r P.rows.length (flat P.rows) * pt4 q P m r) (s7.to (by ac_rfl))).mono ?_)
  rintro r2 w6 ⟨m2, rfl, s8⟩
  simp
  refine eff_st1 (s8.to (B := A * pt4 p P m v * own 66 2 v P.rows.length (flat P.rows) * own 66 2 r P.rows.length (flat P.rows) * mpt m P.rows * mpt m2 P.rows * pt4 q P m r) (by ac_rfl)) rfl (by simp) ?_
  intro w7 s9
  simp at s9
  simp
  have s10 : St w0 (A * pt4 p P m v * own 66 2 v P.rows.length (flat P.rows) * own 66 2 r P.rows.length (flat P.rows) * mpt m P.rows * mpt m2 P.rows * pt4 q P m2 r) w7 := s9
  have s11 := pclose (m := m) (v := v) (P := P) (s10.to (B := A * own 66 2 r P.rows.length (flat P.rows) * mpt m2 P.rows * pt4 q P m2 r * pt4 p P m v * mpt m P.rows * own 66 2 v P.rows.length (flat P.rows)) (by ac_rfl))
  exact pclose (m := m2) (v := r) (P := P) (s11.to (by ac_rfl))
/-- who looks alike -/
def nearF : List Ac → List UInt8 → Nat → List Int
  | [], _, _ => []
  | a :: l, x, i => if seemF a.name = seemF x then (i : Int) :: nearF l x (i + 1) else nearF l x (i + 1)
theorem nearF_len : ∀ (l : List Ac) (x : List UInt8) (i : Nat), (nearF l x i).length ≤ l.length
  | [], _, _ => Nat.le_refl 0
  | a :: l, x, i => by
    have := nearF_len l x (i + 1)
    simp only [nearF]
    split <;> simp <;> omega
theorem nearF_snoc (x : List UInt8) (a : Ac) : ∀ (l : List Ac) (i : Nat), nearF (l ++ [a]) x i = nearF l x i ++ (if seemF a.name = seemF x then [((i + l.length : Nat) : Int)] else [])
  | [], i => by simp only [List.nil_append, nearF]; split <;> simp
  | b :: l, i => by
    simp only [List.cons_append, nearF, nearF_snoc x a l (i + 1), List.length_cons]
    have e : i + 1 + l.length = i + (l.length + 1) := by omega
    rw [e]
    split <;> simp
theorem Near_spec (p : Nat) (P : Ps) (x : List UInt8) (w0 w : World) (A : Asn) (hx : x.length ≤ 1048576) (hl : P.rows.length ≤ 64) (hn : ∀ i, (h : i < P.rows.length) → P.rows[i].name.length ≤ 1048576) (s : St w0 (A * pur p P) w) :
    CallW Try.prog 16 [.pointer (some ⟨p, 0, none⟩), .string (mk x)] (fun r w' => St w0 (A * pur p P * own 3 1 r (nearF P.rows x 0).length (ints (nearF P.rows x 0))) w') w := by
  refine callW_of_lift l16_ok (by simp [l16]) ?_
  simp [l16]
  refine eff_call ((Look_spec x w0 w _ hx s).mono ?_)
  rintro r w1 ⟨rfl, s1⟩
  simp
  obtain ⟨m, v, s2⟩ := popen s1
  obtain ⟨a, cap, rfl, _⟩ := s2.own_val
  refine eff_ldc (v := .slice a P.rows.length cap) (by rw [cell_of s2.drop.drop.look]; rfl) ?_
  simp
  generalize hz : seemF x = z
  have hz2 : encAll (lookF x) = z := hz
  rw [hz2]
  refine loopI (fun env w' => ∃ (i : Nat) (lv o5 o6 : Value), env = [.pointer (some ⟨p, 0, none⟩), .string (mk x), .slice none 0 0, lv, .string (mk z), o5, o6, .slice a P.rows.length cap, .int .i64 P.rows.length, .int .i64 i] ∧ i ≤ P.rows.length ∧
      St w0 (A * pt4 p P m (.slice a P.rows.length cap) * mpt m P.rows * own 66 2 (.slice a P.rows.length cap) P.rows.length (flat P.rows) * own 3 1 lv (nearF (P.rows.take i) x 0).length (ints (nearF (P.rows.take i) x 0))) w')
    (fun env _ => P.rows.length - slotN env 9) ⟨0, _, _, _, rfl, by omega, s2.own_nil _ _⟩ ?_
  clear s2 s1 s
  rintro LQ env w' ⟨i, lv, o5, o6, rfl, hi, s⟩ hN hE hR
  simp
  refine cndI (fun h => ?_) (fun h => ?_)
  · simp at h
    have h : i < P.rows.length := by omega
    obtain ⟨g, gcap, hv, _, hcell⟩ := s.swap.own_at (by omega)
    cases hv
    simp [h]
    refine eff_ldcs (vs := P.rows[i].cs) (fun j u hu => hcell _ _ (flat_at h j u hu)) rfl ?_
    simp
    refine eff_new s ?_
    intro b w2 s2
    simp
    refine eff_stA (vs := P.rows[i].cs) s2 rfl rfl (cs_one _) (by simp) ?_
    intro w3 s3
    simp
    have s4 : St w0 (A * pt4 p P m (.slice (some ⟨g, 0, none⟩) P.rows.length cap) * mpt m P.rows * own 66 2 (.slice (some ⟨g, 0, none⟩) P.rows.length cap) P.rows.length (flat P.rows) * own 3 1 lv (nearF (P.rows.take i) x 0).length (ints (nearF (P.rows.take i) x 0)) * pt b (.cells P.rows[i].cs.toArray 66 (0, 0))) w3 := by simpa using s3
    refine eff_ldc (v := .string (mk P.rows[i].name)) (by rw [cell_of s4.look]; rfl) ?_
    simp
    refine eff_call ((Look_spec P.rows[i].name w0 w3 _ (hn i h) s4).mono ?_)
    rintro r w4 ⟨rfl, s5⟩
    simp
    have htk : P.rows.take (i + 1) = P.rows.take i ++ [P.rows[i]] := List.take_succ_eq_append_getElem h
    have hti : (P.rows.take i).length = i := by rw [List.length_take]; omega
    have hnl := nearF_len (P.rows.take i) x 0
    refine cndI (fun h2 => ?_) (fun h2 => ?_)
    · simp at h2
      simp
      refine eff_bsl1 s5.drop rfl ?_
      intro c w5 s6
      simp
      refine eff_app (m := 1) (news := [.int .i64 i]) (s6.to (B := A * pt4 p P m (.slice (some ⟨g, 0, none⟩) P.rows.length cap) * mpt m P.rows * own 66 2 (.slice (some ⟨g, 0, none⟩) P.rows.length cap) P.rows.length (flat P.rows) * pt c (.cells #[.int .i64 i] 3 (0, 0)) * own 3 1 lv (nearF (P.rows.take i) x 0).length (ints (nearF (P.rows.take i) x 0))) (by ac_rfl)) rfl s6.cells_look (by simp [Value.oneCell']) (by decide) rfl (by unfold maxLen; omega) (by omega) ?_
      intro lv2 w6 s7
      simp
      try simp (disch := omega) only [wrap64]
      refine hN _ _ ⟨i + 1, lv2, _, _, by simp; exact ⟨rfl, rfl⟩, by omega, ?_⟩ (by simp [slotN]; omega)
      have e : nearF (P.rows.take (i + 1)) x 0 = nearF (P.rows.take i) x 0 ++ [(i : Int)] := by
        rw [htk, nearF_snoc, hti, if_pos (by rw [hz]; exact h2), Nat.zero_add]
      rw [e, List.length_append]
      have e2 : ints (nearF (P.rows.take i) x 0 ++ [(i : Int)]) = ints (nearF (P.rows.take i) x 0) ++ [.int .i64 i] := by simp [ints]
      rw [e2]
      exact St.cut (pt c (.cells #[.int .i64 i] 3 (0, 0))) s7 (by simp only [List.length_singleton]; ac_rfl)
    · simp at h2
      simp
      try simp (disch := omega) only [wrap64]
      refine hN _ _ ⟨i + 1, lv, _, _, by simp; exact ⟨rfl, rfl⟩, by omega, ?_⟩ (by simp [slotN]; omega)
      have e : nearF (P.rows.take (i + 1)) x 0 = nearF (P.rows.take i) x 0 := by
        rw [htk, nearF_snoc, if_neg (by rw [hz]; exact h2), List.append_nil]
      rw [e]
      exact s5.drop
  simp at h
  simp
  refine hE _ _ _ ?_
  simp
  have hie : i = P.rows.length := by omega
  rw [hie, List.take_length] at s
  have hnl := nearF_len P.rows x 0
  refine eff_call ((clipI_spec lv _ _ _ w0 w' _ (by omega) s).mono ?_)
  intro r w2 s2
  simp
  exact (pclose (m := m) (v := .slice a P.rows.length cap) (P := P) (s2.to (B := A * own 3 1 r (nearF P.rows x 0).length (ints (nearF P.rows x 0)) * pt4 p P m (.slice a P.rows.length cap) * mpt m P.rows * own 66 2 (.slice a P.rows.length cap) P.rows.length (flat P.rows)) (by ac_rfl))).to (by ac_rfl)
end Go.HL.Pu
