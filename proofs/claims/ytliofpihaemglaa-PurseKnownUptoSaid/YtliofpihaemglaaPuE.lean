/-
  Purse: Load, New. Conditions: accounts within bounds.
-/
import Derived.Test.YtliofpihaemglaaPuD
namespace Go.HL.Pu
open Go.HL Go.HL.Nm Go.Proofs
set_option maxRecDepth 4000
set_option linter.unusedSimpArgs false
set_option linter.unusedVariables false
-- bazaar/purse.Load
def h20_0 : HC := (.seq (.reg (.done [(3, (.inp 5)), (4, (.cst (.int .i64 0)))] none)) .ret)
@[simp] theorem h20_0_wp {P : Program} {F : PF P} {Q : EX → List Value → World → Prop} {env : List Value} {w : World} : h20_0.wp F Q env w = HC.wp F (.seq (.reg (.done [(3, (.inp 5)), (4, (.cst (.int .i64 0)))] none)) .ret) Q env w := rfl
def h20_1 : HC := (.reg (.chk none (.bin .add) (.cons (.inp 12) (.cons (.cst (.int .i64 1)) .nil)) (.done [(12, (.op (.bin .add) (.cons (.inp 12) (.cons (.cst (.int .i64 1)) .nil))))] none)))
@[simp] theorem h20_1_wp {P : Program} {F : PF P} {Q : EX → List Value → World → Prop} {env : List Value} {w : World} : h20_1.wp F Q env w = HC.wp F (.reg (.chk none (.bin .add) (.cons (.inp 12) (.cons (.cst (.int .i64 1)) .nil)) (.done [(12, (.op (.bin .add) (.cons (.inp 12) (.cons (.cst (.int .i64 1)) .nil))))] none))) Q env w := rfl
def h20_2 : HC := (.regq (some 1) (.chk none .chkp (.cons (.inp 5) .nil) (.chk none (.fld 2) (.cons (.op .chkp (.cons (.inp 5) .nil)) .nil) (.eff (.ld false 1) (.cons (.op (.fld 2) (.cons (.op .chkp (.cons (.inp 5) .nil)) .nil)) .nil) (.chk none .chkp (.cons (.inp 5) .nil) (.chk none (.fld 2) (.cons (.op .chkp (.cons (.inp 5) .nil)) .nil) (.eff (.ld false 1) (.cons (.op (.fld 2) (.cons (.op .chkp (.cons (.inp 5) .nil)) .nil)) .nil) (.chk none .lenL (.cons (.bv 1) .nil) (.chk none (.bin .sub) (.cons (.op .lenL (.cons (.bv 1) .nil)) (.cons (.cst (.int .i64 1)) .nil)) (.chk none (.fld 1) (.cons (.inp 6) .nil) (.eff (.ld false 1) (.cons (.op (.fld 1) (.cons (.inp 6) .nil)) .nil) (.chk none (.idxL 2) (.cons (.bv 0) (.cons (.op (.bin .sub) (.cons (.op .lenL (.cons (.bv 1) .nil)) (.cons (.cst (.int .i64 1)) .nil))) .nil)) (.chk none (.fld 1) (.cons (.op (.idxL 2) (.cons (.bv 0) (.cons (.op (.bin .sub) (.cons (.op .lenL (.cons (.bv 1) .nil)) (.cons (.cst (.int .i64 1)) .nil))) .nil))) .nil) (.eff (.st 1) (.cons (.op (.fld 1) (.cons (.op (.idxL 2) (.cons (.bv 0) (.cons (.op (.bin .sub) (.cons (.op .lenL (.cons (.bv 1) .nil)) (.cons (.cst (.int .i64 1)) .nil))) .nil))) .nil)) (.cons (.bv 2) .nil)) (.done [] none)))))))))))))))
@[simp] theorem h20_2_wp {P : Program} {F : PF P} {Q : EX → List Value → World → Prop} {env : List Value} {w : World} : h20_2.wp F Q env w = HC.wp F (.regq (some 1) (.chk none .chkp (.cons (.inp 5) .nil) (.chk none (.fld 2) (.cons (.op .chkp (.cons (.inp 5) .nil)) .nil) (.eff (.ld false 1) (.cons (.op (.fld 2) (.cons (.op .chkp (.cons (.inp 5) .nil)) .nil)) .nil) (.chk none .chkp (.cons (.inp 5) .nil) (.chk none (.fld 2) (.cons (.op .chkp (.cons (.inp 5) .nil)) .nil) (.eff (.ld false 1) (.cons (.op (.fld 2) (.cons (.op .chkp (.cons (.inp 5) .nil)) .nil)) .nil) (.chk none .lenL (.cons (.bv 1) .nil) (.chk none (.bin .sub) (.cons (.op .lenL (.cons (.bv 1) .nil)) (.cons (.cst (.int .i64 1)) .nil)) (.chk none (.fld 1) (.cons (.inp 6) .nil) (.eff (.ld false 1) (.cons (.op (.fld 1) (.cons (.inp 6) .nil)) .nil) (.chk none (.idxL 2) (.cons (.bv 0) (.cons (.op (.bin .sub) (.cons (.op .lenL (.cons (.bv 1) .nil)) (.cons (.cst (.int .i64 1)) .nil))) .nil)) (.chk none (.fld 1) (.cons (.op (.idxL 2) (.cons (.bv 0) (.cons (.op (.bin .sub) (.cons (.op .lenL (.cons (.bv 1) .nil)) (.cons (.cst (.int .i64 1)) .nil))) .nil))) .nil) (.eff (.st 1) (.cons (.op (.fld 1) (.cons (.op (.idxL 2) (.cons (.bv 0) (.cons (.op (.bin .sub) (.cons (.op .lenL (.cons (.bv 1) .nil)) (.cons (.cst (.int .i64 1)) .nil))) .nil))) .nil)) (.cons (.bv 2) .nil)) (.done [] none))))))))))))))) Q env w := rfl
def h20_3 : HC := (.seq (.reg (.chk none .chkp (.cons (.inp 5) .nil) (.chk none (.fld 4) (.cons (.op .chkp (.cons (.inp 5) .nil)) .nil) (.eff (.st 1) (.cons (.op (.fld 4) (.cons (.op .chkp (.cons (.inp 5) .nil)) .nil)) (.cons (.inp 8) .nil)) (.done [] none))))) h20_2)
@[simp] theorem h20_3_wp {P : Program} {F : PF P} {Q : EX → List Value → World → Prop} {env : List Value} {w : World} : h20_3.wp F Q env w = HC.wp F (.seq (.reg (.chk none .chkp (.cons (.inp 5) .nil) (.chk none (.fld 4) (.cons (.op .chkp (.cons (.inp 5) .nil)) .nil) (.eff (.st 1) (.cons (.op (.fld 4) (.cons (.op .chkp (.cons (.inp 5) .nil)) .nil)) (.cons (.inp 8) .nil)) (.done [] none))))) h20_2) Q env w := rfl
def h20_4 : HC := (.seq (.reg (.done [(3, (.cst (.pointer none))), (4, (.cst (.int .i64 144)))] none)) .ret)
@[simp] theorem h20_4_wp {P : Program} {F : PF P} {Q : EX → List Value → World → Prop} {env : List Value} {w : World} : h20_4.wp F Q env w = HC.wp F (.seq (.reg (.done [(3, (.cst (.pointer none))), (4, (.cst (.int .i64 144)))] none)) .ret) Q env w := rfl
def h20_5 : HC := (.seq (.br (.chk none (.bin .neq) (.cons (.inp 9) (.cons (.cst (.int .i64 0)) .nil)) (.done [] (some (.op (.bin .neq) (.cons (.inp 9) (.cons (.cst (.int .i64 0)) .nil)))))) h20_4 .skip) h20_3)
@[simp] theorem h20_5_wp {P : Program} {F : PF P} {Q : EX → List Value → World → Prop} {env : List Value} {w : World} : h20_5.wp F Q env w = HC.wp F (.seq (.br (.chk none (.bin .neq) (.cons (.inp 9) (.cons (.cst (.int .i64 0)) .nil)) (.done [] (some (.op (.bin .neq) (.cons (.inp 9) (.cons (.cst (.int .i64 0)) .nil)))))) h20_4 .skip) h20_3) Q env w := rfl
def h20_6 : HC := (.seq (.regq (some 1) (.chk none .chkp (.cons (.inp 5) .nil) (.chk none (.fld 4) (.cons (.op .chkp (.cons (.inp 5) .nil)) .nil) (.eff (.ld false 1) (.cons (.op (.fld 4) (.cons (.op .chkp (.cons (.inp 5) .nil)) .nil)) .nil) (.chk none (.fld 1) (.cons (.inp 6) .nil) (.eff (.ld false 1) (.cons (.op (.fld 1) (.cons (.inp 6) .nil)) .nil) (.eff (.call 53) (.cons (.bv 0) (.cons (.bv 1) .nil)) (.chk none (.ext 0) (.cons (.bv 2) .nil) (.chk none (.ext 1) (.cons (.bv 2) .nil) (.done [(8, (.op (.ext 0) (.cons (.bv 2) .nil))), (9, (.op (.ext 1) (.cons (.bv 2) .nil)))] none)))))))))) h20_5)
@[simp] theorem h20_6_wp {P : Program} {F : PF P} {Q : EX → List Value → World → Prop} {env : List Value} {w : World} : h20_6.wp F Q env w = HC.wp F (.seq (.regq (some 1) (.chk none .chkp (.cons (.inp 5) .nil) (.chk none (.fld 4) (.cons (.op .chkp (.cons (.inp 5) .nil)) .nil) (.eff (.ld false 1) (.cons (.op (.fld 4) (.cons (.op .chkp (.cons (.inp 5) .nil)) .nil)) .nil) (.chk none (.fld 1) (.cons (.inp 6) .nil) (.eff (.ld false 1) (.cons (.op (.fld 1) (.cons (.inp 6) .nil)) .nil) (.eff (.call 53) (.cons (.bv 0) (.cons (.bv 1) .nil)) (.chk none (.ext 0) (.cons (.bv 2) .nil) (.chk none (.ext 1) (.cons (.bv 2) .nil) (.done [(8, (.op (.ext 0) (.cons (.bv 2) .nil))), (9, (.op (.ext 1) (.cons (.bv 2) .nil)))] none)))))))))) h20_5) Q env w := rfl
def h20_7 : HC := (.seq (.reg (.done [(3, (.cst (.pointer none))), (4, (.inp 7))] none)) .ret)
@[simp] theorem h20_7_wp {P : Program} {F : PF P} {Q : EX → List Value → World → Prop} {env : List Value} {w : World} : h20_7.wp F Q env w = HC.wp F (.seq (.reg (.done [(3, (.cst (.pointer none))), (4, (.inp 7))] none)) .ret) Q env w := rfl
def h20_8 : HC := (.seq (.br (.chk none (.bin .neq) (.cons (.inp 7) (.cons (.cst (.int .i64 0)) .nil)) (.done [] (some (.op (.bin .neq) (.cons (.inp 7) (.cons (.cst (.int .i64 0)) .nil)))))) h20_7 .skip) h20_6)
@[simp] theorem h20_8_wp {P : Program} {F : PF P} {Q : EX → List Value → World → Prop} {env : List Value} {w : World} : h20_8.wp F Q env w = HC.wp F (.seq (.br (.chk none (.bin .neq) (.cons (.inp 7) (.cons (.cst (.int .i64 0)) .nil)) (.done [] (some (.op (.bin .neq) (.cons (.inp 7) (.cons (.cst (.int .i64 0)) .nil)))))) h20_7 .skip) h20_6) Q env w := rfl
def h20_9 : HC := (.seq (.reg (.chk none (.fld 0) (.cons (.inp 6) .nil) (.eff (.ld false 1) (.cons (.op (.fld 0) (.cons (.inp 6) .nil)) .nil) (.eff (.call 13) (.cons (.inp 5) (.cons (.bv 0) .nil)) (.chk none (.ext 0) (.cons (.bv 1) .nil) (.chk none (.ext 1) (.cons (.bv 1) .nil) (.done [(7, (.op (.ext 1) (.cons (.bv 1) .nil)))] none))))))) h20_8)
@[simp] theorem h20_9_wp {P : Program} {F : PF P} {Q : EX → List Value → World → Prop} {env : List Value} {w : World} : h20_9.wp F Q env w = HC.wp F (.seq (.reg (.chk none (.fld 0) (.cons (.inp 6) .nil) (.eff (.ld false 1) (.cons (.op (.fld 0) (.cons (.inp 6) .nil)) .nil) (.eff (.call 13) (.cons (.inp 5) (.cons (.bv 0) .nil)) (.chk none (.ext 0) (.cons (.bv 1) .nil) (.chk none (.ext 1) (.cons (.bv 1) .nil) (.done [(7, (.op (.ext 1) (.cons (.bv 1) .nil)))] none))))))) h20_8) Q env w := rfl
def h20_10 : HC := (.seq (.reg (.chk none (.idxL 2) (.cons (.inp 10) (.cons (.inp 12) .nil)) (.eff (.ld true 2) (.cons (.op (.idxL 2) (.cons (.inp 10) (.cons (.inp 12) .nil))) .nil) (.eff (.new 66 (.agg #[(.string ⟨#[]⟩), (.int .u64 0)])) .nil (.eff (.st 2) (.cons (.bv 1) (.cons (.bv 0) .nil)) (.done [(6, (.bv 1))] none)))))) h20_9)
@[simp] theorem h20_10_wp {P : Program} {F : PF P} {Q : EX → List Value → World → Prop} {env : List Value} {w : World} : h20_10.wp F Q env w = HC.wp F (.seq (.reg (.chk none (.idxL 2) (.cons (.inp 10) (.cons (.inp 12) .nil)) (.eff (.ld true 2) (.cons (.op (.idxL 2) (.cons (.inp 10) (.cons (.inp 12) .nil))) .nil) (.eff (.new 66 (.agg #[(.string ⟨#[]⟩), (.int .u64 0)])) .nil (.eff (.st 2) (.cons (.bv 1) (.cons (.bv 0) .nil)) (.done [(6, (.bv 1))] none)))))) h20_9) Q env w := rfl
def h20_11 : HC := (.seq (.block 2 h20_10) h20_1)
@[simp] theorem h20_11_wp {P : Program} {F : PF P} {Q : EX → List Value → World → Prop} {env : List Value} {w : World} : h20_11.wp F Q env w = HC.wp F (.seq (.block 2 h20_10) h20_1) Q env w := rfl
def h20_12 : HC := (.seq (.br (.chk none (.bin .lss) (.cons (.inp 12) (.cons (.inp 11) .nil)) (.done [] (some (.op (.bin .lss) (.cons (.inp 12) (.cons (.inp 11) .nil)))))) .skip (.exit 1)) h20_11)
@[simp] theorem h20_12_wp {P : Program} {F : PF P} {Q : EX → List Value → World → Prop} {env : List Value} {w : World} : h20_12.wp F Q env w = HC.wp F (.seq (.br (.chk none (.bin .lss) (.cons (.inp 12) (.cons (.inp 11) .nil)) (.done [] (some (.op (.bin .lss) (.cons (.inp 12) (.cons (.inp 11) .nil)))))) .skip (.exit 1)) h20_11) Q env w := rfl
def h20_13 : HC := (.loop h20_12)
@[simp] theorem h20_13_wp {P : Program} {F : PF P} {Q : EX → List Value → World → Prop} {env : List Value} {w : World} : h20_13.wp F Q env w = HC.wp F (.loop h20_12) Q env w := rfl
def h20_14 : HC := (.seq (.block 1 h20_13) h20_0)
@[simp] theorem h20_14_wp {P : Program} {F : PF P} {Q : EX → List Value → World → Prop} {env : List Value} {w : World} : h20_14.wp F Q env w = HC.wp F (.seq (.block 1 h20_13) h20_0) Q env w := rfl
def h20_15 : HC := (.seq (.reg (.chk none .lenL (.cons (.inp 1) .nil) (.done [(10, (.inp 1)), (11, (.op .lenL (.cons (.inp 1) .nil))), (12, (.cst (.int .i64 0)))] none))) h20_14)
@[simp] theorem h20_15_wp {P : Program} {F : PF P} {Q : EX → List Value → World → Prop} {env : List Value} {w : World} : h20_15.wp F Q env w = HC.wp F (.seq (.reg (.chk none .lenL (.cons (.inp 1) .nil) (.done [(10, (.inp 1)), (11, (.op .lenL (.cons (.inp 1) .nil))), (12, (.cst (.int .i64 0)))] none))) h20_14) Q env w := rfl
def h20_16 : HC := (.seq (.reg (.eff (.mkm 77 false) .nil (.chk none (.build #[(.map none)] [(0, 1)] [0]) (.cons (.bv 0) .nil) (.chk none (.build #[(.map none), (.int .i64 0), (.slice none 0 0), (.int .u64 0), (.int .u64 0)] [(0, 1), (1, 1), (2, 1), (3, 1), (4, 1)] [0, 1, 3, 4]) (.cons (.op (.build #[(.map none)] [(0, 1)] [0]) (.cons (.bv 0) .nil)) (.cons (.inp 0) (.cons (.inp 2) (.cons (.inp 2) .nil)))) (.eff (.box 81) (.cons (.op (.build #[(.map none), (.int .i64 0), (.slice none 0 0), (.int .u64 0), (.int .u64 0)] [(0, 1), (1, 1), (2, 1), (3, 1), (4, 1)] [0, 1, 3, 4]) (.cons (.op (.build #[(.map none)] [(0, 1)] [0]) (.cons (.bv 0) .nil)) (.cons (.inp 0) (.cons (.inp 2) (.cons (.inp 2) .nil))))) .nil) (.done [(5, (.bv 1))] none)))))) h20_15)
@[simp] theorem h20_16_wp {P : Program} {F : PF P} {Q : EX → List Value → World → Prop} {env : List Value} {w : World} : h20_16.wp F Q env w = HC.wp F (.seq (.reg (.eff (.mkm 77 false) .nil (.chk none (.build #[(.map none)] [(0, 1)] [0]) (.cons (.bv 0) .nil) (.chk none (.build #[(.map none), (.int .i64 0), (.slice none 0 0), (.int .u64 0), (.int .u64 0)] [(0, 1), (1, 1), (2, 1), (3, 1), (4, 1)] [0, 1, 3, 4]) (.cons (.op (.build #[(.map none)] [(0, 1)] [0]) (.cons (.bv 0) .nil)) (.cons (.inp 0) (.cons (.inp 2) (.cons (.inp 2) .nil)))) (.eff (.box 81) (.cons (.op (.build #[(.map none), (.int .i64 0), (.slice none 0 0), (.int .u64 0), (.int .u64 0)] [(0, 1), (1, 1), (2, 1), (3, 1), (4, 1)] [0, 1, 3, 4]) (.cons (.op (.build #[(.map none)] [(0, 1)] [0]) (.cons (.bv 0) .nil)) (.cons (.inp 0) (.cons (.inp 2) (.cons (.inp 2) .nil))))) .nil) (.done [(5, (.bv 1))] none)))))) h20_15) Q env w := rfl
def h20_17 : HC := (.seq (.reg (.done [(3, (.cst (.pointer none))), (4, (.cst (.int .i64 2)))] none)) .ret)
@[simp] theorem h20_17_wp {P : Program} {F : PF P} {Q : EX → List Value → World → Prop} {env : List Value} {w : World} : h20_17.wp F Q env w = HC.wp F (.seq (.reg (.done [(3, (.cst (.pointer none))), (4, (.cst (.int .i64 2)))] none)) .ret) Q env w := rfl
def h20_18 : HC := (.seq (.reg (.done [(3, (.cst (.pointer none))), (4, (.cst (.int .i64 144)))] none)) .ret)
@[simp] theorem h20_18_wp {P : Program} {F : PF P} {Q : EX → List Value → World → Prop} {env : List Value} {w : World} : h20_18.wp F Q env w = HC.wp F (.seq (.reg (.done [(3, (.cst (.pointer none))), (4, (.cst (.int .i64 144)))] none)) .ret) Q env w := rfl
def h20_19 : HC := (.seq (.reg (.done [(3, (.cst (.pointer none))), (4, (.cst (.int .i64 141)))] none)) .ret)
@[simp] theorem h20_19_wp {P : Program} {F : PF P} {Q : EX → List Value → World → Prop} {env : List Value} {w : World} : h20_19.wp F Q env w = HC.wp F (.seq (.reg (.done [(3, (.cst (.pointer none))), (4, (.cst (.int .i64 141)))] none)) .ret) Q env w := rfl
def h20_20 : HC := (.seq (.reg (.done [(3, (.cst (.pointer none))), (4, (.cst (.int .i64 142)))] none)) .ret)
@[simp] theorem h20_20_wp {P : Program} {F : PF P} {Q : EX → List Value → World → Prop} {env : List Value} {w : World} : h20_20.wp F Q env w = HC.wp F (.seq (.reg (.done [(3, (.cst (.pointer none))), (4, (.cst (.int .i64 142)))] none)) .ret) Q env w := rfl
def h20_21 : HC := (.br (.chk none .lenL (.cons (.inp 1) .nil) (.chk none (.bin .eql) (.cons (.op .lenL (.cons (.inp 1) .nil)) (.cons (.cst (.int .i64 0)) .nil)) (.bnd (.op (.bin .eql) (.cons (.op .lenL (.cons (.inp 1) .nil)) (.cons (.cst (.int .i64 0)) .nil))) (.chk (some ((.bv 0), false)) (.idxL 2) (.cons (.inp 1) (.cons (.cst (.int .i64 0)) .nil)) (.chk (some ((.bv 0), false)) (.fld 0) (.cons (.op (.idxL 2) (.cons (.inp 1) (.cons (.cst (.int .i64 0)) .nil))) .nil) (.ite (.bv 0) false (.eff (.ld false 1) (.cons (.ite (.bv 0) false (.op (.fld 0) (.cons (.op (.idxL 2) (.cons (.inp 1) (.cons (.cst (.int .i64 0)) .nil))) .nil)) (.cst (.tuple #[]))) .nil) (.chk none (.bin .neq) (.cons (.bv 1) (.cons (.cst (.string ⟨#[98, 97, 110, 107]⟩)) .nil)) (.isb none (.bv 0) (.done [] (some (.op (.bin .neq) (.cons (.bv 1) (.cons (.cst (.string ⟨#[98, 97, 110, 107]⟩)) .nil)))))))) (.isb none (.bv 0) (.done [] (some (.cst (.bool true))))))))))) h20_20 .skip)
@[simp] theorem h20_21_wp {P : Program} {F : PF P} {Q : EX → List Value → World → Prop} {env : List Value} {w : World} : h20_21.wp F Q env w = HC.wp F (.br (.chk none .lenL (.cons (.inp 1) .nil) (.chk none (.bin .eql) (.cons (.op .lenL (.cons (.inp 1) .nil)) (.cons (.cst (.int .i64 0)) .nil)) (.bnd (.op (.bin .eql) (.cons (.op .lenL (.cons (.inp 1) .nil)) (.cons (.cst (.int .i64 0)) .nil))) (.chk (some ((.bv 0), false)) (.idxL 2) (.cons (.inp 1) (.cons (.cst (.int .i64 0)) .nil)) (.chk (some ((.bv 0), false)) (.fld 0) (.cons (.op (.idxL 2) (.cons (.inp 1) (.cons (.cst (.int .i64 0)) .nil))) .nil) (.ite (.bv 0) false (.eff (.ld false 1) (.cons (.ite (.bv 0) false (.op (.fld 0) (.cons (.op (.idxL 2) (.cons (.inp 1) (.cons (.cst (.int .i64 0)) .nil))) .nil)) (.cst (.tuple #[]))) .nil) (.chk none (.bin .neq) (.cons (.bv 1) (.cons (.cst (.string ⟨#[98, 97, 110, 107]⟩)) .nil)) (.isb none (.bv 0) (.done [] (some (.op (.bin .neq) (.cons (.bv 1) (.cons (.cst (.string ⟨#[98, 97, 110, 107]⟩)) .nil)))))))) (.isb none (.bv 0) (.done [] (some (.cst (.bool true))))))))))) h20_20 .skip) Q env w := rfl
def h20_22 : HC := (.br (.chk none .lenL (.cons (.inp 1) .nil) (.chk none (.bin .gtr) (.cons (.op .lenL (.cons (.inp 1) .nil)) (.cons (.inp 0) .nil)) (.done [] (some (.op (.bin .gtr) (.cons (.op .lenL (.cons (.inp 1) .nil)) (.cons (.inp 0) .nil))))))) h20_19 h20_21)
@[simp] theorem h20_22_wp {P : Program} {F : PF P} {Q : EX → List Value → World → Prop} {env : List Value} {w : World} : h20_22.wp F Q env w = HC.wp F (.br (.chk none .lenL (.cons (.inp 1) .nil) (.chk none (.bin .gtr) (.cons (.op .lenL (.cons (.inp 1) .nil)) (.cons (.inp 0) .nil)) (.done [] (some (.op (.bin .gtr) (.cons (.op .lenL (.cons (.inp 1) .nil)) (.cons (.inp 0) .nil))))))) h20_19 h20_21) Q env w := rfl
def h20_23 : HC := (.br (.chk none (.bin .gtr) (.cons (.inp 2) (.cons (.cst (.int .u64 4611686018427387904)) .nil)) (.done [] (some (.op (.bin .gtr) (.cons (.inp 2) (.cons (.cst (.int .u64 4611686018427387904)) .nil)))))) h20_18 h20_22)
@[simp] theorem h20_23_wp {P : Program} {F : PF P} {Q : EX → List Value → World → Prop} {env : List Value} {w : World} : h20_23.wp F Q env w = HC.wp F (.br (.chk none (.bin .gtr) (.cons (.inp 2) (.cons (.cst (.int .u64 4611686018427387904)) .nil)) (.done [] (some (.op (.bin .gtr) (.cons (.inp 2) (.cons (.cst (.int .u64 4611686018427387904)) .nil)))))) h20_18 h20_22) Q env w := rfl
def h20_24 : HC := (.br (.chk none (.bin .lss) (.cons (.inp 0) (.cons (.cst (.int .i64 1)) .nil)) (.bnd (.op (.bin .lss) (.cons (.inp 0) (.cons (.cst (.int .i64 1)) .nil))) (.chk (some ((.bv 0), false)) (.bin .gtr) (.cons (.inp 0) (.cons (.cst (.int .i64 64)) .nil)) (.isb none (.bv 0) (.done [] (some (.ite (.bv 0) true (.cst (.bool true)) (.op (.bin .gtr) (.cons (.inp 0) (.cons (.cst (.int .i64 64)) .nil)))))))))) h20_17 h20_23)
@[simp] theorem h20_24_wp {P : Program} {F : PF P} {Q : EX → List Value → World → Prop} {env : List Value} {w : World} : h20_24.wp F Q env w = HC.wp F (.br (.chk none (.bin .lss) (.cons (.inp 0) (.cons (.cst (.int .i64 1)) .nil)) (.bnd (.op (.bin .lss) (.cons (.inp 0) (.cons (.cst (.int .i64 1)) .nil))) (.chk (some ((.bv 0), false)) (.bin .gtr) (.cons (.inp 0) (.cons (.cst (.int .i64 64)) .nil)) (.isb none (.bv 0) (.done [] (some (.ite (.bv 0) true (.cst (.bool true)) (.op (.bin .gtr) (.cons (.inp 0) (.cons (.cst (.int .i64 64)) .nil)))))))))) h20_17 h20_23) Q env w := rfl
def h20_25 : HC := (.seq (.block 0 h20_24) h20_16)
@[simp] theorem h20_25_wp {P : Program} {F : PF P} {Q : EX → List Value → World → Prop} {env : List Value} {w : World} : h20_25.wp F Q env w = HC.wp F (.seq (.block 0 h20_24) h20_16) Q env w := rfl
def l20 : Lifted := ⟨[0, 1, 2, 6, 7, 8, 10, 12, 13, 14, 48, 49, 50], 96, [.slot 3, .slot 4], (.seq (.reg (.done [(3, (.cst (.pointer none))), (4, (.cst (.int .i64 0)))] none)) h20_25)⟩
theorem l20_ok : liftFn U0 20 400 = some l20 := by kernel_rfl

-- bazaar/purse.New
def h9_0 : HC := (.seq (.reg (.chk none (.build #[(.string ⟨#[]⟩), (.int .u64 0)] [(0, 1), (1, 1)] [0]) (.cons (.cst (.string ⟨#[98, 97, 110, 107]⟩)) .nil) (.eff (.bsl 66 1 2 #[(.string ⟨#[]⟩), (.int .u64 0)] [0]) (.cons (.op (.build #[(.string ⟨#[]⟩), (.int .u64 0)] [(0, 1), (1, 1)] [0]) (.cons (.cst (.string ⟨#[98, 97, 110, 107]⟩)) .nil)) .nil) (.eff (.call 20) (.cons (.inp 0) (.cons (.bv 0) (.cons (.cst (.int .u64 0)) .nil))) (.chk none (.ext 0) (.cons (.bv 1) .nil) (.chk none (.ext 1) (.cons (.bv 1) .nil) (.done [(1, (.op (.ext 0) (.cons (.bv 1) .nil))), (2, (.op (.ext 1) (.cons (.bv 1) .nil)))] none))))))) .ret)
@[simp] theorem h9_0_wp {P : Program} {F : PF P} {Q : EX → List Value → World → Prop} {env : List Value} {w : World} : h9_0.wp F Q env w = HC.wp F (.seq (.reg (.chk none (.build #[(.string ⟨#[]⟩), (.int .u64 0)] [(0, 1), (1, 1)] [0]) (.cons (.cst (.string ⟨#[98, 97, 110, 107]⟩)) .nil) (.eff (.bsl 66 1 2 #[(.string ⟨#[]⟩), (.int .u64 0)] [0]) (.cons (.op (.build #[(.string ⟨#[]⟩), (.int .u64 0)] [(0, 1), (1, 1)] [0]) (.cons (.cst (.string ⟨#[98, 97, 110, 107]⟩)) .nil)) .nil) (.eff (.call 20) (.cons (.inp 0) (.cons (.bv 0) (.cons (.cst (.int .u64 0)) .nil))) (.chk none (.ext 0) (.cons (.bv 1) .nil) (.chk none (.ext 1) (.cons (.bv 1) .nil) (.done [(1, (.op (.ext 0) (.cons (.bv 1) .nil))), (2, (.op (.ext 1) (.cons (.bv 1) .nil)))] none))))))) .ret) Q env w := rfl
def l9 : Lifted := ⟨[0, 2, 3], 10, [.slot 1, .slot 2], (.seq (.reg (.done [(1, (.cst (.pointer none))), (2, (.cst (.int .i64 0)))] none)) h9_0)⟩
theorem l9_ok : liftFn U0 9 400 = some l9 := by kernel_rfl


def bankB : List UInt8 := [98, 97, 110, 107]
def stepE (P : Ps) (a : Ac) : Int := if (openF P a.name).2.1 = 0 then (if P.held < a.coins then 144 else 0) else (openF P a.name).2.1
def stepP (P : Ps) (a : Ac) : Ps := { P with held := P.held - a.coins, rows := P.rows ++ [a] }
def loadL (P : Ps) : List Ac → Int × Ps
  | [] => (0, P)
  | a :: l => if stepE P a = 0 then loadL (stepP P a) l else (stepE P a, P)
def loadF (lim : Int) (rows : List Ac) (sup : Int) : Int × Ps :=
  if 1 ≤ lim ∧ lim ≤ 64 then
    if 4611686018427387904 < sup then (144, ⟨0, [], 0, 0⟩)
    else if lim < rows.length then (141, ⟨0, [], 0, 0⟩)
    else if (rows.getD 0 ⟨[], 0⟩).name = bankB then loadL ⟨lim, [], sup, sup⟩ rows
    else (142, ⟨0, [], 0, 0⟩)
  else (2, ⟨0, [], 0, 0⟩)
theorem open_ok {P : Ps} {x : List UInt8} (h : (openF P x).2.1 = 0) : (openF P x).2.2 = { P with rows := P.rows ++ [⟨x, 0⟩] } ∧ askB (keyF x) (keys P.rows) = false ∧ (P.rows.length : Int) ≠ P.lim ∧ (checkF x).2 = 0 := by
  unfold openF at h ⊢
  split at h
  · rename_i h1
    rw [if_pos h1]
    split at h
    · cases h
    · rename_i h2
      rw [if_neg h2]
      split at h
      · cases h
      · rename_i h3
        rw [if_neg h3]
        exact ⟨rfl, by simpa using h2, h3, h1⟩
  · rename_i h1
    exact absurd h h1
theorem open_bad {P : Ps} {x : List UInt8} (h : (openF P x).2.1 ≠ 0) : (openF P x).2.2 = P := by
  unfold openF at h ⊢
  split
  · split
    · rfl
    · split
      · rfl
      · rename_i h1 h2 h3
        rw [if_pos h1, if_neg h2, if_neg h3] at h
        exact absurd rfl h
  · rfl
def cls1 (X Y : World → Prop) : List Value → World → Prop
  | [], w => X w
  | _ :: _, w => Y w
@[simp] theorem cls1_nil (X Y : World → Prop) (w : World) : cls1 X Y [] w = X w := rfl
@[simp] theorem cls1_cons (X Y : World → Prop) (v : Value) (l : List Value) (w : World) : cls1 X Y (v :: l) w = Y w := rfl
theorem cls1_low {X Y : World → Prop} {R : Prop} {vs : List Value} {w : World} (h1 : X w → R) (h2 : Y w → R) (h : cls1 X Y vs w) : R := by
  cases vs with
  | nil => exact h1 h
  | cons _ _ => exact h2 h
theorem setC_last (l : List Ac) (x : List UInt8) (c : Int) : setC (l ++ [⟨x, 0⟩]) l.length c = l ++ [⟨x, c⟩] := by
  simp [setC]
theorem load_rest (lim : Int) (rows : List Ac) (sup : Int) (ra : Option Addr) (rcap : Nat) (w0 w : World) (A : Asn) (hl : rows.length ≤ 64) (hsup : 0 ≤ sup ∧ sup ≤ 4611686018427387904) (hn : ∀ x ∈ rows, x.name.length ≤ 1048576) (hc : ∀ x ∈ rows, 0 ≤ x.coins ∧ x.coins < 18446744073709551616)
    (hrow : Row w0 A (.slice ra rows.length rcap) rows.length 2 (flat rows)) (s : St w0 A w) :
    HC.wp U0 h20_16 (endQ Try.prog [RV.slot 3, RV.slot 4] fun r w' => if (loadL ⟨lim, [], sup, sup⟩ rows).1 = 0 then ∃ q, r = .tuple #[.pointer (some ⟨q, 0, none⟩), .int .i64 0] ∧ St w0 (A * pur q (loadL ⟨lim, [], sup, sup⟩ rows).2) w' else r = .tuple #[.pointer none, .int .i64 (loadL ⟨lim, [], sup, sup⟩ rows).1] ∧ St w0 A w')
      [.int .i64 lim, .slice ra rows.length rcap, .int .u64 sup, .pointer none, .int .i64 0, undef, undef, undef, undef, undef, undef, undef, undef] w := by
  simp
  refine eff_mkm s ?_
  intro m w1 s1
  simp [Instr.fill, Value.cells]
  refine eff_box s1 ?_
  intro p w2 s2
  simp
  have s3 : St w0 (A * pur p ⟨lim, [], sup, sup⟩) w2 := pclose (m := m) (v := .slice none 0 0) (P := ⟨lim, [], sup, sup⟩) (St.own_nil (s2.to (by ac_rfl)) _ _)
  clear s s1 s2
  generalize hP0 : (⟨lim, [], sup, sup⟩ : Ps) = P0 at *
  refine loopI (fun env w' => ∃ (i : Nat) (P : Ps) (o6 o7 o8 o9 : Value), env = [.int .i64 lim, .slice ra rows.length rcap, .int .u64 sup, .pointer none, .int .i64 0, .pointer (some ⟨p, 0, none⟩), o6, o7, o8, o9, .slice ra rows.length rcap, .int .i64 rows.length, .int .i64 i] ∧ i ≤ rows.length ∧
      loadL P0 rows = loadL P (rows.drop i) ∧ P.rows = rows.take i ∧ P.lim = lim ∧ P.sup = sup ∧ 0 ≤ P.held ∧ P.held ≤ sup ∧ St w0 (A * pur p P) w')
    (fun env _ => rows.length - slotN env 12) ⟨0, P0, _, _, _, _, rfl, by omega, rfl, by rw [← hP0]; rfl, by rw [← hP0], by rw [← hP0], by rw [← hP0]; exact hsup.1, by rw [← hP0]; exact Int.le_refl _, s3⟩ ?_
  clear s3
  rintro LQ env w' ⟨i, P, o6, o7, o8, o9, rfl, hi, hL, hPr, hPl, hPs, hh0, hh1, s⟩ hN hE hR
  simp
  refine cndI (fun h => ?_) (fun h => ?_)
  · simp at h
    have h : i < rows.length := by omega
    obtain ⟨g, o, gcap, hv, hcell⟩ := hrow.at (by omega)
    cases hv
    have hPlen : P.rows.length = i := by rw [hPr, List.length_take]; omega
    have hmem : rows[i] ∈ rows := List.getElem_mem h
    have hdrop : rows.drop i = rows[i] :: rows.drop (i + 1) := List.drop_eq_getElem_cons h
    have htk : rows.take (i + 1) = rows.take i ++ [rows[i]] := List.take_succ_eq_append_getElem h
    rw [hdrop] at hL
    have hna := hn _ hmem
    have hca := hc _ hmem
    obtain ⟨a, ha⟩ : ∃ a, rows[i] = a := ⟨_, rfl⟩
    rw [ha] at hmem hdrop htk hna hca hL
    simp [h]
    refine eff_ldcs (vs := a.cs) (fun j u hu => by rw [Nat.add_assoc]; exact hcell _ s.drop _ _ (flat_at h j u (by rw [ha]; exact hu))) rfl ?_
    simp
    refine eff_new s ?_
    intro b w3 s1
    simp
    refine eff_stA (vs := a.cs) s1 rfl rfl (cs_one _) (by simp) ?_
    intro w4 s2
    have s2 : St w0 (A * pur p P * pt b (.cells a.cs.toArray 66 (0, 0))) w4 := by simpa using s2
    simp
    refine eff_ldc (v := .string (mk a.name)) (by rw [cell_of s2.look]; rfl) ?_
    simp
    refine eff_call ((Open_spec p P a.name w0 w4 (A * pt b (.cells a.cs.toArray 66 (0, 0))) hna (by omega) (s2.to (by ac_rfl))).mono ?_)
    rintro r w5 ⟨rfl, s3⟩
    simp
    refine cndI (fun h1 => ?_) (fun h1 => ?_)
    · simp at h1
      have hse : stepE P a = (openF P a.name).2.1 := by unfold stepE; rw [if_neg h1]
      have hLL : loadL P0 rows = (stepE P a, P) := by rw [hL, loadL, if_neg (by rw [hse]; exact h1)]
      simp
      refine hR _ _ ?_
      simp
      rw [hLL, hse]
      simp [h1]
      rw [open_bad h1] at s3
      exact s3.drop.drop
    simp at h1
    obtain ⟨ho, hask, hlen, hchk⟩ := open_ok h1
    rw [ho] at s3
    simp
    obtain ⟨m2, v2, s4⟩ := popen s3
    clear s3
    generalize hB : (A * pt b (.cells a.cs.toArray 66 (0, 0)) * pt4 p { P with rows := P.rows ++ [⟨a.name, 0⟩] } m2 v2 * mpt m2 (P.rows ++ [(⟨a.name, 0⟩ : Ac)]) * own 66 2 v2 (P.rows ++ [(⟨a.name, 0⟩ : Ac)]).length (flat (P.rows ++ [(⟨a.name, 0⟩ : Ac)]))) = B
    have sB : St w0 B w5 := hB ▸ s4
    have hpc : ∀ {w}, St w0 B w → w.cell? ⟨p, 4, none⟩ = some (.int .u64 P.held) := fun h => by rw [← hB] at h; rw [cell_of h.drop.drop.look]; rfl
    have hbc : ∀ {w}, St w0 B w → w.cell? ⟨b, 1, none⟩ = some (.int .u64 a.coins) := fun h => by rw [← hB] at h; rw [cell_of h.drop.drop.drop.look]; rfl
    refine regmI (fun vs w => match vs with
      | [] => St w0 B w
      | r :: _ => r = .tuple #[.int .u64 (if P.held < a.coins then 0 else P.held - a.coins), .int .i64 (if P.held < a.coins then 11 else 0)] ∧ St w0 B w) sB.drew ?_
    simp
    refine effm_ldc (v := .int .u64 P.held) (fun vs' w he hw => ?_) ?_
    · match vs', hw with
      | [], hw => exact hpc hw
      | _ :: _, hw => exact hpc hw.2
    simp
    refine effm_ldc (v := .int .u64 a.coins) (fun vs' w he hw => ?_) ?_
    · match vs', hw with
      | [], hw => exact hbc hw
      | _ :: _, hw => exact hbc hw.2
    simp
    refine effm_mv rfl (fun w hw => eff_call ((take_spec P.held a.coins w (by omega) (by omega)).mono fun r w' h => ?_)) (fun r hr => ?_)
    · obtain ⟨rfl, rfl⟩ := h; exact ⟨rfl, hw⟩
    obtain ⟨_, rfl, _⟩ := hr
    simp
    intro w6 s6
    refine cndI (fun h2 => ?_) (fun h2 => ?_)
    · simp at h2
      have hse : stepE P a = 144 := by unfold stepE; rw [if_pos h1, if_pos h2]
      have hLL : loadL P0 rows = (stepE P a, P) := by rw [hL, loadL, if_neg (by rw [hse]; decide)]
      simp
      refine hR _ _ ?_
      simp
      rw [hLL, hse]
      simp
      rw [← hB] at s6
      exact s6.drop.drop.drop.drop
    simp at h2
    simp
    rw [if_neg (by omega)]
    rw [← hB] at s6
    refine eff_st1 (s6.to (B := A * pt b (.cells a.cs.toArray 66 (0, 0)) * mpt m2 (P.rows ++ [(⟨a.name, 0⟩ : Ac)]) * own 66 2 v2 (P.rows ++ [(⟨a.name, 0⟩ : Ac)]).length (flat (P.rows ++ [(⟨a.name, 0⟩ : Ac)])) * pt4 p { P with rows := P.rows ++ [⟨a.name, 0⟩] } m2 v2) (by ac_rfl)) rfl (by simp) ?_
    intro w7 s7
    simp only [List.setIfInBounds_toArray, List.set_cons_succ, List.set_cons_zero] at s7
    simp
    obtain ⟨g2, cap2, hv, _, _⟩ := s4.own_at (by simp)
    subst hv
    have hPl1 : (P.rows ++ [(⟨a.name, 0⟩ : Ac)]).length = i + 1 := by simp [hPlen]
    have s8 : St w0 (A * pt b (.cells a.cs.toArray 66 (0, 0)) * mpt m2 (P.rows ++ [(⟨a.name, 0⟩ : Ac)]) * pt4 p { P with held := P.held - a.coins } m2 (.slice (some ⟨g2, 0, none⟩) (P.rows ++ [(⟨a.name, 0⟩ : Ac)]).length cap2) * own 66 2 (.slice (some ⟨g2, 0, none⟩) (P.rows ++ [(⟨a.name, 0⟩ : Ac)]).length cap2) (P.rows ++ [(⟨a.name, 0⟩ : Ac)]).length (flat (P.rows ++ [(⟨a.name, 0⟩ : Ac)]))) w7 := s7.swap
    clear s7 s6
    have hii : i < (P.rows ++ [(⟨a.name, 0⟩ : Ac)]).length := by omega
    have hst : setC (P.rows ++ [(⟨a.name, 0⟩ : Ac)]) i a.coins = P.rows ++ [a] := by rw [← hPlen]; exact setC_last _ _ _
    have hfl := flat_len (P.rows ++ [(⟨a.name, 0⟩ : Ac)])
    generalize hC0 : (A * pt b (.cells a.cs.toArray 66 (0, 0)) * mpt m2 (P.rows ++ [(⟨a.name, 0⟩ : Ac)]) * pt4 p { P with held := P.held - a.coins } m2 (.slice (some ⟨g2, 0, none⟩) (P.rows ++ [(⟨a.name, 0⟩ : Ac)]).length cap2)) = C0 at s8
    have hpc : ∀ {w}, St w0 C0 w → w.cell? ⟨p, 2, none⟩ = some (.slice (some ⟨g2, 0, none⟩) (i + 1) cap2) := fun h => by rw [← hC0] at h; rw [cell_of h.look, ← hPl1]; rfl
    have hbc : ∀ {w}, St w0 C0 w → w.cell? ⟨b, 1, none⟩ = some (.int .u64 a.coins) := fun h => by rw [← hC0] at h; rw [cell_of h.drop.drop.look]; rfl
    refine regmI (cls1 (St w0 (C0 * own 66 2 (.slice (some ⟨g2, 0, none⟩) (P.rows ++ [(⟨a.name, 0⟩ : Ac)]).length cap2) (P.rows ++ [(⟨a.name, 0⟩ : Ac)]).length (flat (P.rows ++ [(⟨a.name, 0⟩ : Ac)]))))
      (St w0 (C0 * own 66 2 (.slice (some ⟨g2, 0, none⟩) (P.rows ++ [(⟨a.name, 0⟩ : Ac)]).length cap2) (P.rows ++ [(⟨a.name, 0⟩ : Ac)]).length (flat (P.rows ++ [a]))))) s8.drew ?_
    simp
    refine effm_ldc (v := .slice (some ⟨g2, 0, none⟩) (i + 1) cap2) (fun vs' w he hw => cls1_low (fun h => hpc h.drop) (fun h => hpc h.drop) hw) ?_
    simp
    refine effm_ldc (v := .slice (some ⟨g2, 0, none⟩) (i + 1) cap2) (fun vs' w he hw => cls1_low (fun h => hpc h.drop) (fun h => hpc h.drop) hw) ?_
    simp
    try simp (disch := omega) only [wrap64]
    refine effm_ldc (v := .int .u64 a.coins) (fun vs' w he hw => cls1_low (fun h => hbc h.drop) (fun h => hbc h.drop) hw) ?_
    have hwi : IntKind.i64.wrap (i : Int) = i := wrap64 (by omega) (by omega)
    simp [hwi]
    refine ⟨by omega, ?_⟩
    refine effm_mv (by rfl) (fun w hw => ?_) (fun r hr => ?_)
    · rw [cls1_nil] at hw
      refine eff_stC (u := .int .u64 a.coins) hw (by rw [hfl, hPl1]; omega) rfl fun w' h => ?_
      rw [setC_at hii, hst] at h
      exact h
    simp
    intro w8 s9
    try simp (disch := omega) only [wrap64]
    have hse : stepE P a = 0 := by unfold stepE; rw [if_pos h1, if_neg (by omega)]
    refine hN _ _ ⟨i + 1, stepP P a, _, _, _, _, by simp; exact ⟨rfl, rfl, rfl, rfl⟩, by omega, ?_, ?_, hPl, hPs, ?_, ?_, ?_⟩ (by simp [slotN]; omega)
    · rw [hL, loadL, if_pos hse]
    · rw [htk, ← hPr]; rfl
    · show 0 ≤ P.held - a.coins; omega
    · show P.held - a.coins ≤ sup; omega
    · have e1 : (P.rows ++ [(⟨a.name, 0⟩ : Ac)]).length = (stepP P a).rows.length := by simp [stepP]
      have e2 : keys (P.rows ++ [(⟨a.name, 0⟩ : Ac)]) = keys (stepP P a).rows := by simp [stepP, keys]
      have e3 : P.rows.length + 1 = (stepP P a).rows.length := by simp [stepP]
      rw [← hC0, mpt, e2, e1, e3] at s9
      have s10 : St w0 (A * pt b (.cells a.cs.toArray 66 (0, 0)) * mpt m2 (stepP P a).rows * pt4 p { P with held := P.held - a.coins } m2 (.slice (some ⟨g2, 0, none⟩) (stepP P a).rows.length cap2) * own 66 2 (.slice (some ⟨g2, 0, none⟩) (stepP P a).rows.length cap2) (stepP P a).rows.length (flat (P.rows ++ [a]))) w8 := s9
      refine pclose (m := m2) (v := .slice (some ⟨g2, 0, none⟩) (stepP P a).rows.length cap2) ?_
      exact St.cut (pt b (.cells a.cs.toArray 66 (0, 0))) s10 (by show _ = A * pt4 p { P with held := P.held - a.coins } m2 (.slice (some ⟨g2, 0, none⟩) (stepP P a).rows.length cap2) * mpt m2 (stepP P a).rows * own 66 2 (.slice (some ⟨g2, 0, none⟩) (stepP P a).rows.length cap2) (stepP P a).rows.length (flat (P.rows ++ [a])) * _; ac_rfl)
  simp at h
  simp
  refine hE _ _ _ ?_
  simp
  have hie : i = rows.length := by omega
  rw [hie, List.drop_length] at hL
  have hLL : loadL P0 rows = (0, P) := hL
  rw [hLL]
  simp
  exact s
theorem Load_spec (lim : Int) (rows : List Ac) (sup : Int) (v : Value) (w0 w : World) (A : Asn) (hl : rows.length ≤ 1048576) (hsup : 0 ≤ sup ∧ sup < 18446744073709551616) (hn : ∀ x ∈ rows, x.name.length ≤ 1048576) (hc : ∀ x ∈ rows, 0 ≤ x.coins ∧ x.coins < 18446744073709551616)
    (hrow : Row w0 A v rows.length 2 (flat rows)) (s : St w0 A w) :
    CallW Try.prog 20 [.int .i64 lim, v, .int .u64 sup] (fun r w' => if (loadF lim rows sup).1 = 0 then ∃ q, r = .tuple #[.pointer (some ⟨q, 0, none⟩), .int .i64 0] ∧ St w0 (A * pur q (loadF lim rows sup).2) w' else r = .tuple #[.pointer none, .int .i64 (loadF lim rows sup).1] ∧ St w0 A w') w := by
  obtain ⟨ra, rcap, rfl⟩ := hrow.val
  refine callW_of_lift l20_ok (by simp [l20]) ?_
  simp [l20]
  refine cndI (fun h => ?_) (fun h => ?_)
  · simp at h
    have e : (loadF lim rows sup).1 = 2 := by unfold loadF; rw [if_neg (by omega)]
    simp [e]
    exact s
  simp at h
  simp
  refine cndI (fun h1 => ?_) (fun h1 => ?_)
  · simp at h1
    have e : (loadF lim rows sup).1 = 144 := by unfold loadF; rw [if_pos (by omega), if_pos h1]
    simp [e]
    exact s
  simp at h1
  simp
  refine cndI (fun h2 => ?_) (fun h2 => ?_)
  · simp at h2
    have e : (loadF lim rows sup).1 = 141 := by unfold loadF; rw [if_pos (by omega), if_neg (by omega), if_pos h2]
    simp [e]
    exact s
  simp at h2
  by_cases hnil : rows = []
  · subst hnil
    simp
    have e : (loadF lim [] sup).1 = 142 := by unfold loadF; rw [if_pos (by omega), if_neg (by omega), if_neg (by simpa using h2), if_neg (by decide)]
    simp [e]
    exact s
  have hpos : 0 < rows.length := List.length_pos_iff.2 hnil
  obtain ⟨g, o, gcap, hv, hcell⟩ := hrow.at hpos
  cases hv
  simp [hnil, hpos]
  refine eff_ldc (v := .string (mk rows[0].name)) (hcell w s 0 _ (flat_name hpos)) ?_
  simp
  refine cndI (fun h3 => ?_) (fun h3 => ?_)
  · simp at h3
    have hnb : (rows.getD 0 ⟨[], 0⟩).name ≠ bankB := by
      simpa [hpos, bankB] using h3
    have e : (loadF lim rows sup).1 = 142 := by unfold loadF; rw [if_pos (by omega), if_neg (by omega), if_neg (by omega), if_neg hnb]
    rw [e]
    simp
    exact s
  have hb : (rows.getD 0 ⟨[], 0⟩).name = bankB := by
    simpa [hpos, bankB] using h3
  have e : loadF lim rows sup = loadL ⟨lim, [], sup, sup⟩ rows := by unfold loadF; rw [if_pos (by omega), if_neg (by omega), if_neg (by omega), if_pos hb]
  rw [e]
  simp
  simpa using load_rest lim rows sup _ rcap w0 w A (by omega) (by omega) hn hc hrow s
theorem bank_ok : (checkF bankB).2 = 0 := by decide +kernel
theorem new_ok {lim : Int} (h : 1 ≤ lim ∧ lim ≤ 64) : loadF lim [⟨bankB, 0⟩] 0 = (0, ⟨lim, [⟨bankB, 0⟩], 0, 0⟩) := by
  unfold loadF
  rw [if_pos h, if_neg (by decide), if_neg (by simp; omega), if_pos (by rfl)]
  have ho : (openF ⟨lim, [], 0, 0⟩ bankB).2.1 = 0 := by
    unfold openF
    rw [if_pos bank_ok]
    have : askB (keyF bankB) (keys []) = false := rfl
    simp [this]
    rw [if_neg (by omega)]
  have hs : stepE ⟨lim, [], 0, 0⟩ ⟨bankB, 0⟩ = 0 := by
    unfold stepE
    rw [if_pos ho]; rfl
  rw [loadL, if_pos hs]
  rfl
theorem new_bad {lim : Int} (h : ¬ (1 ≤ lim ∧ lim ≤ 64)) : (loadF lim [⟨bankB, 0⟩] 0).1 = 2 := by
  unfold loadF; rw [if_neg h]
theorem New_spec (lim : Int) (w0 w : World) (A : Asn) (s : St w0 A w) :
    CallW Try.prog 9 [.int .i64 lim] (fun r w' => if 1 ≤ lim ∧ lim ≤ 64 then ∃ q, r = .tuple #[.pointer (some ⟨q, 0, none⟩), .int .i64 0] ∧ St w0 (A * pur q ⟨lim, [⟨bankB, 0⟩], 0, 0⟩) w' else r = .tuple #[.pointer none, .int .i64 2] ∧ St w0 A w') w := by
  refine callW_of_lift l9_ok (by simp [l9]) ?_
  simp [l9, Instr.fill, Value.cells]
  refine eff_bslV s rfl ?_
  intro c w1 s1
  simp
  have hrow : Row w0 (A * pt c (.cells (Ac.cs ⟨bankB, 0⟩).toArray 66 (0, 0))) (.slice (some ⟨c, 0, none⟩) 1 1) 1 2 (flat [⟨bankB, 0⟩]) :=
    ⟨rfl, _, _, rfl, Nat.le_refl _, .inr ⟨c, 0, rfl, fun w s j u hu => s.row_cells j u hu⟩⟩
  refine eff_call ((Load_spec lim [⟨bankB, 0⟩] 0 (.slice (some ⟨c, 0, none⟩) 1 1) w0 w1 _ (by decide) (by decide) (by simp [bankB]) (by simp) hrow s1).mono ?_)
  intro r w2 h2
  by_cases h : 1 ≤ lim ∧ lim ≤ 64
  · rw [new_ok h] at h2
    simp only [if_true] at h2
    obtain ⟨q, rfl, s2⟩ := h2
    simp [h]
    exact St.cut (pt c (.cells (Ac.cs ⟨bankB, 0⟩).toArray 66 (0, 0))) s2 (by ac_rfl)
  · have e := new_bad h
    rw [e] at h2
    simp only [if_neg (show ¬ (2 : Int) = 0 by decide)] at h2
    obtain ⟨rfl, s2⟩ := h2
    simp [h]
    exact s2.drop
end Go.HL.Pu
