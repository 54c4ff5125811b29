/-
  Wheel: New, Schedule, Cancel, Len, Now, Moves. Conditions: so many timers at most.
-/
import Derived.Test.YtngjaibngkhidaaWhC
namespace Go.HL.Wh
open Go.HL Go.Proofs
set_option maxRecDepth 4000
set_option linter.unusedSimpArgs false
set_option linter.unusedVariables false
-- bazaar/wheel.New
def h9_0 : HC := (.seq (.reg (.eff (.mkm 72 false) .nil (.eff (.mkm 72 false) .nil (.chk none (.build (rl [(2, (.int .i64 0)), (258, (.map none))]) [(0, 1), (1, 1), (2, 1), (3, 256), (259, 1)] [0, 2, 4]) (.cons (.inp 0) (.cons (.bv 0) (.cons (.bv 1) .nil))) (.eff (.box 76) (.cons (.op (.build (rl [(2, (.int .i64 0)), (258, (.map none))]) [(0, 1), (1, 1), (2, 1), (3, 256), (259, 1)] [0, 2, 4]) (.cons (.inp 0) (.cons (.bv 0) (.cons (.bv 1) .nil)))) .nil) (.done [(1, (.bv 2)), (2, (.cst (.int .i64 0)))] none)))))) .ret)
@[simp] theorem h9_0_wp {P : Program} {F : PF P} {Q : EX → List Value → World → Prop} {env : List Value} {w : World} : h9_0.wp F Q env w = HC.wp F (.seq (.reg (.eff (.mkm 72 false) .nil (.eff (.mkm 72 false) .nil (.chk none (.build (rl [(2, (.int .i64 0)), (258, (.map none))]) [(0, 1), (1, 1), (2, 1), (3, 256), (259, 1)] [0, 2, 4]) (.cons (.inp 0) (.cons (.bv 0) (.cons (.bv 1) .nil))) (.eff (.box 76) (.cons (.op (.build (rl [(2, (.int .i64 0)), (258, (.map none))]) [(0, 1), (1, 1), (2, 1), (3, 256), (259, 1)] [0, 2, 4]) (.cons (.inp 0) (.cons (.bv 0) (.cons (.bv 1) .nil)))) .nil) (.done [(1, (.bv 2)), (2, (.cst (.int .i64 0)))] none)))))) .ret) Q env w := rfl
def h9_1 : HC := (.seq (.reg (.done [(1, (.cst (.pointer none))), (2, (.cst (.int .i64 90)))] none)) .ret)
@[simp] theorem h9_1_wp {P : Program} {F : PF P} {Q : EX → List Value → World → Prop} {env : List Value} {w : World} : h9_1.wp F Q env w = HC.wp F (.seq (.reg (.done [(1, (.cst (.pointer none))), (2, (.cst (.int .i64 90)))] none)) .ret) Q env w := rfl
def h9_2 : HC := (.seq (.br (.chk none (.bin .lss) (.cons (.inp 0) (.cons (.cst (.int .i64 0)) .nil)) (.bnd (.op (.bin .lss) (.cons (.inp 0) (.cons (.cst (.int .i64 0)) .nil))) (.chk (some ((.bv 0), false)) (.bin .gtr) (.cons (.inp 0) (.cons (.cst (.int .i64 1099511627776)) .nil)) (.isb none (.bv 0) (.done [] (some (.ite (.bv 0) true (.cst (.bool true)) (.op (.bin .gtr) (.cons (.inp 0) (.cons (.cst (.int .i64 1099511627776)) .nil)))))))))) h9_1 .skip) h9_0)
@[simp] theorem h9_2_wp {P : Program} {F : PF P} {Q : EX → List Value → World → Prop} {env : List Value} {w : World} : h9_2.wp F Q env w = HC.wp F (.seq (.br (.chk none (.bin .lss) (.cons (.inp 0) (.cons (.cst (.int .i64 0)) .nil)) (.bnd (.op (.bin .lss) (.cons (.inp 0) (.cons (.cst (.int .i64 0)) .nil))) (.chk (some ((.bv 0), false)) (.bin .gtr) (.cons (.inp 0) (.cons (.cst (.int .i64 1099511627776)) .nil)) (.isb none (.bv 0) (.done [] (some (.ite (.bv 0) true (.cst (.bool true)) (.op (.bin .gtr) (.cons (.inp 0) (.cons (.cst (.int .i64 1099511627776)) .nil)))))))))) h9_1 .skip) h9_0) Q env w := rfl
def l9 : Lifted := ⟨[0, 2, 3], 15, [.slot 1, .slot 2], (.seq (.reg (.done [(1, (.cst (.pointer none))), (2, (.cst (.int .i64 0)))] none)) h9_2)⟩
theorem l9_ok : liftFn U2 9 400 = some l9 := by kernel_rfl

-- (*bazaar/wheel.Wheel).Schedule
def h12_0 : HC := (.seq (.reg (.done [(3, (.cst (.int .i64 0)))] none)) .ret)
@[simp] theorem h12_0_wp {P : Program} {F : PF P} {Q : EX → List Value → World → Prop} {env : List Value} {w : World} : h12_0.wp F Q env w = HC.wp F (.seq (.reg (.done [(3, (.cst (.int .i64 0)))] none)) .ret) Q env w := rfl
def h12_1 : HC := (.seq (.reg (.eff (.call 29) (.cons (.inp 0) (.cons (.inp 4) .nil)) (.done [] none))) h12_0)
@[simp] theorem h12_1_wp {P : Program} {F : PF P} {Q : EX → List Value → World → Prop} {env : List Value} {w : World} : h12_1.wp F Q env w = HC.wp F (.seq (.reg (.eff (.call 29) (.cons (.inp 0) (.cons (.inp 4) .nil)) (.done [] none))) h12_0) Q env w := rfl
def h12_2 : HC := (.seq (.reg (.chk none .chkp (.cons (.inp 0) .nil) (.chk none (.fld 2) (.cons (.op .chkp (.cons (.inp 0) .nil)) .nil) (.eff (.ld false 1) (.cons (.op (.fld 2) (.cons (.op .chkp (.cons (.inp 0) .nil)) .nil)) .nil) (.eff (.upd 72) (.cons (.bv 0) (.cons (.inp 1) (.cons (.inp 4) .nil))) (.done [] none)))))) h12_1)
@[simp] theorem h12_2_wp {P : Program} {F : PF P} {Q : EX → List Value → World → Prop} {env : List Value} {w : World} : h12_2.wp F Q env w = HC.wp F (.seq (.reg (.chk none .chkp (.cons (.inp 0) .nil) (.chk none (.fld 2) (.cons (.op .chkp (.cons (.inp 0) .nil)) .nil) (.eff (.ld false 1) (.cons (.op (.fld 2) (.cons (.op .chkp (.cons (.inp 0) .nil)) .nil)) .nil) (.eff (.upd 72) (.cons (.bv 0) (.cons (.inp 1) (.cons (.inp 4) .nil))) (.done [] none)))))) h12_1) Q env w := rfl
def h12_3 : HC := (.seq (.reg (.chk none (.build #[(.int .i64 0), (.int .i64 0)] [(0, 1), (1, 1)] [0, 1]) (.cons (.inp 1) (.cons (.inp 2) .nil)) (.chk none (.build #[(.int .i64 0), (.int .i64 0), (.int .i64 0), (.int .i64 0)] [(0, 2), (2, 1), (3, 1)] [0]) (.cons (.op (.build #[(.int .i64 0), (.int .i64 0)] [(0, 1), (1, 1)] [0, 1]) (.cons (.inp 1) (.cons (.inp 2) .nil))) .nil) (.eff (.box 79) (.cons (.op (.build #[(.int .i64 0), (.int .i64 0), (.int .i64 0), (.int .i64 0)] [(0, 2), (2, 1), (3, 1)] [0]) (.cons (.op (.build #[(.int .i64 0), (.int .i64 0)] [(0, 1), (1, 1)] [0, 1]) (.cons (.inp 1) (.cons (.inp 2) .nil))) .nil)) .nil) (.done [(4, (.bv 0))] none))))) h12_2)
@[simp] theorem h12_3_wp {P : Program} {F : PF P} {Q : EX → List Value → World → Prop} {env : List Value} {w : World} : h12_3.wp F Q env w = HC.wp F (.seq (.reg (.chk none (.build #[(.int .i64 0), (.int .i64 0)] [(0, 1), (1, 1)] [0, 1]) (.cons (.inp 1) (.cons (.inp 2) .nil)) (.chk none (.build #[(.int .i64 0), (.int .i64 0), (.int .i64 0), (.int .i64 0)] [(0, 2), (2, 1), (3, 1)] [0]) (.cons (.op (.build #[(.int .i64 0), (.int .i64 0)] [(0, 1), (1, 1)] [0, 1]) (.cons (.inp 1) (.cons (.inp 2) .nil))) .nil) (.eff (.box 79) (.cons (.op (.build #[(.int .i64 0), (.int .i64 0), (.int .i64 0), (.int .i64 0)] [(0, 2), (2, 1), (3, 1)] [0]) (.cons (.op (.build #[(.int .i64 0), (.int .i64 0)] [(0, 1), (1, 1)] [0, 1]) (.cons (.inp 1) (.cons (.inp 2) .nil))) .nil)) .nil) (.done [(4, (.bv 0))] none))))) h12_2) Q env w := rfl
def h12_4 : HC := (.seq (.reg (.done [(3, (.cst (.int .i64 1)))] none)) .ret)
@[simp] theorem h12_4_wp {P : Program} {F : PF P} {Q : EX → List Value → World → Prop} {env : List Value} {w : World} : h12_4.wp F Q env w = HC.wp F (.seq (.reg (.done [(3, (.cst (.int .i64 1)))] none)) .ret) Q env w := rfl
def h12_5 : HC := (.seq (.reg (.done [(3, (.cst (.int .i64 2)))] none)) .ret)
@[simp] theorem h12_5_wp {P : Program} {F : PF P} {Q : EX → List Value → World → Prop} {env : List Value} {w : World} : h12_5.wp F Q env w = HC.wp F (.seq (.reg (.done [(3, (.cst (.int .i64 2)))] none)) .ret) Q env w := rfl
def h12_6 : HC := (.seq (.reg (.done [(3, (.cst (.int .i64 90)))] none)) .ret)
@[simp] theorem h12_6_wp {P : Program} {F : PF P} {Q : EX → List Value → World → Prop} {env : List Value} {w : World} : h12_6.wp F Q env w = HC.wp F (.seq (.reg (.done [(3, (.cst (.int .i64 90)))] none)) .ret) Q env w := rfl
def h12_7 : HC := (.seq (.reg (.done [(3, (.cst (.int .i64 92)))] none)) .ret)
@[simp] theorem h12_7_wp {P : Program} {F : PF P} {Q : EX → List Value → World → Prop} {env : List Value} {w : World} : h12_7.wp F Q env w = HC.wp F (.seq (.reg (.done [(3, (.cst (.int .i64 92)))] none)) .ret) Q env w := rfl
def h12_8 : HC := (.seq (.reg (.done [(3, (.cst (.int .i64 91)))] none)) .ret)
@[simp] theorem h12_8_wp {P : Program} {F : PF P} {Q : EX → List Value → World → Prop} {env : List Value} {w : World} : h12_8.wp F Q env w = HC.wp F (.seq (.reg (.done [(3, (.cst (.int .i64 91)))] none)) .ret) Q env w := rfl
def h12_9 : HC := (.br (.chk none .chkp (.cons (.inp 0) .nil) (.chk none (.fld 2) (.cons (.op .chkp (.cons (.inp 0) .nil)) .nil) (.eff (.ld false 1) (.cons (.op (.fld 2) (.cons (.op .chkp (.cons (.inp 0) .nil)) .nil)) .nil) (.eff (.bi .len #[72] 3 #[false]) (.cons (.bv 0) .nil) (.chk none (.bin .geq) (.cons (.bv 1) (.cons (.cst (.int .i64 65536)) .nil)) (.done [] (some (.op (.bin .geq) (.cons (.bv 1) (.cons (.cst (.int .i64 65536)) .nil)))))))))) h12_8 .skip)
@[simp] theorem h12_9_wp {P : Program} {F : PF P} {Q : EX → List Value → World → Prop} {env : List Value} {w : World} : h12_9.wp F Q env w = HC.wp F (.br (.chk none .chkp (.cons (.inp 0) .nil) (.chk none (.fld 2) (.cons (.op .chkp (.cons (.inp 0) .nil)) .nil) (.eff (.ld false 1) (.cons (.op (.fld 2) (.cons (.op .chkp (.cons (.inp 0) .nil)) .nil)) .nil) (.eff (.bi .len #[72] 3 #[false]) (.cons (.bv 0) .nil) (.chk none (.bin .geq) (.cons (.bv 1) (.cons (.cst (.int .i64 65536)) .nil)) (.done [] (some (.op (.bin .geq) (.cons (.bv 1) (.cons (.cst (.int .i64 65536)) .nil)))))))))) h12_8 .skip) Q env w := rfl
def h12_10 : HC := (.br (.chk none .chkp (.cons (.inp 0) .nil) (.chk none (.fld 2) (.cons (.op .chkp (.cons (.inp 0) .nil)) .nil) (.eff (.ld false 1) (.cons (.op (.fld 2) (.cons (.op .chkp (.cons (.inp 0) .nil)) .nil)) .nil) (.eff (.look 72 false) (.cons (.bv 0) (.cons (.inp 1) .nil)) (.chk none (.eqNil true (.pointer 79) (.pointer none)) (.cons (.bv 1) .nil) (.done [] (some (.op (.eqNil true (.pointer 79) (.pointer none)) (.cons (.bv 1) .nil))))))))) h12_7 h12_9)
@[simp] theorem h12_10_wp {P : Program} {F : PF P} {Q : EX → List Value → World → Prop} {env : List Value} {w : World} : h12_10.wp F Q env w = HC.wp F (.br (.chk none .chkp (.cons (.inp 0) .nil) (.chk none (.fld 2) (.cons (.op .chkp (.cons (.inp 0) .nil)) .nil) (.eff (.ld false 1) (.cons (.op (.fld 2) (.cons (.op .chkp (.cons (.inp 0) .nil)) .nil)) .nil) (.eff (.look 72 false) (.cons (.bv 0) (.cons (.inp 1) .nil)) (.chk none (.eqNil true (.pointer 79) (.pointer none)) (.cons (.bv 1) .nil) (.done [] (some (.op (.eqNil true (.pointer 79) (.pointer none)) (.cons (.bv 1) .nil))))))))) h12_7 h12_9) Q env w := rfl
def h12_11 : HC := (.br (.chk none .chkp (.cons (.inp 0) .nil) (.chk none (.fld 0) (.cons (.op .chkp (.cons (.inp 0) .nil)) .nil) (.eff (.ld false 1) (.cons (.op (.fld 0) (.cons (.op .chkp (.cons (.inp 0) .nil)) .nil)) .nil) (.chk none (.bin .leq) (.cons (.inp 2) (.cons (.bv 0) .nil)) (.bnd (.op (.bin .leq) (.cons (.inp 2) (.cons (.bv 0) .nil))) (.chk (some ((.bv 1), false)) (.bin .gtr) (.cons (.inp 2) (.cons (.cst (.int .i64 1099511627776)) .nil)) (.isb none (.bv 1) (.done [] (some (.ite (.bv 1) true (.cst (.bool true)) (.op (.bin .gtr) (.cons (.inp 2) (.cons (.cst (.int .i64 1099511627776)) .nil))))))))))))) h12_6 h12_10)
@[simp] theorem h12_11_wp {P : Program} {F : PF P} {Q : EX → List Value → World → Prop} {env : List Value} {w : World} : h12_11.wp F Q env w = HC.wp F (.br (.chk none .chkp (.cons (.inp 0) .nil) (.chk none (.fld 0) (.cons (.op .chkp (.cons (.inp 0) .nil)) .nil) (.eff (.ld false 1) (.cons (.op (.fld 0) (.cons (.op .chkp (.cons (.inp 0) .nil)) .nil)) .nil) (.chk none (.bin .leq) (.cons (.inp 2) (.cons (.bv 0) .nil)) (.bnd (.op (.bin .leq) (.cons (.inp 2) (.cons (.bv 0) .nil))) (.chk (some ((.bv 1), false)) (.bin .gtr) (.cons (.inp 2) (.cons (.cst (.int .i64 1099511627776)) .nil)) (.isb none (.bv 1) (.done [] (some (.ite (.bv 1) true (.cst (.bool true)) (.op (.bin .gtr) (.cons (.inp 2) (.cons (.cst (.int .i64 1099511627776)) .nil))))))))))))) h12_6 h12_10) Q env w := rfl
def h12_12 : HC := (.br (.chk none (.bin .lss) (.cons (.inp 1) (.cons (.cst (.int .i64 1)) .nil)) (.done [] (some (.op (.bin .lss) (.cons (.inp 1) (.cons (.cst (.int .i64 1)) .nil)))))) h12_5 h12_11)
@[simp] theorem h12_12_wp {P : Program} {F : PF P} {Q : EX → List Value → World → Prop} {env : List Value} {w : World} : h12_12.wp F Q env w = HC.wp F (.br (.chk none (.bin .lss) (.cons (.inp 1) (.cons (.cst (.int .i64 1)) .nil)) (.done [] (some (.op (.bin .lss) (.cons (.inp 1) (.cons (.cst (.int .i64 1)) .nil)))))) h12_5 h12_11) Q env w := rfl
def h12_13 : HC := (.br (.chk none (.eqNil false (.pointer 76) (.pointer none)) (.cons (.inp 0) .nil) (.done [] (some (.op (.eqNil false (.pointer 76) (.pointer none)) (.cons (.inp 0) .nil))))) h12_4 h12_12)
@[simp] theorem h12_13_wp {P : Program} {F : PF P} {Q : EX → List Value → World → Prop} {env : List Value} {w : World} : h12_13.wp F Q env w = HC.wp F (.br (.chk none (.eqNil false (.pointer 76) (.pointer none)) (.cons (.inp 0) .nil) (.done [] (some (.op (.eqNil false (.pointer 76) (.pointer none)) (.cons (.inp 0) .nil))))) h12_4 h12_12) Q env w := rfl
def h12_14 : HC := (.seq (.block 0 h12_13) h12_3)
@[simp] theorem h12_14_wp {P : Program} {F : PF P} {Q : EX → List Value → World → Prop} {env : List Value} {w : World} : h12_14.wp F Q env w = HC.wp F (.seq (.block 0 h12_13) h12_3) Q env w := rfl
def l12 : Lifted := ⟨[0, 1, 2, 6, 7], 54, [.slot 3], (.seq (.reg (.done [(3, (.cst (.int .i64 0)))] none)) h12_14)⟩
theorem l12_ok : liftFn U2 12 400 = some l12 := by kernel_rfl

-- (*bazaar/wheel.Wheel).Cancel
def h13_0 : HC := (.seq (.reg (.done [(2, (.cst (.int .i64 0)))] none)) .ret)
@[simp] theorem h13_0_wp {P : Program} {F : PF P} {Q : EX → List Value → World → Prop} {env : List Value} {w : World} : h13_0.wp F Q env w = HC.wp F (.seq (.reg (.done [(2, (.cst (.int .i64 0)))] none)) .ret) Q env w := rfl
def h13_1 : HC := (.seq (.reg (.eff (.call 30) (.cons (.inp 0) (.cons (.inp 3) .nil)) (.done [] none))) h13_0)
@[simp] theorem h13_1_wp {P : Program} {F : PF P} {Q : EX → List Value → World → Prop} {env : List Value} {w : World} : h13_1.wp F Q env w = HC.wp F (.seq (.reg (.eff (.call 30) (.cons (.inp 0) (.cons (.inp 3) .nil)) (.done [] none))) h13_0) Q env w := rfl
def h13_2 : HC := (.seq (.reg (.done [(2, (.cst (.int .i64 93)))] none)) .ret)
@[simp] theorem h13_2_wp {P : Program} {F : PF P} {Q : EX → List Value → World → Prop} {env : List Value} {w : World} : h13_2.wp F Q env w = HC.wp F (.seq (.reg (.done [(2, (.cst (.int .i64 93)))] none)) .ret) Q env w := rfl
def h13_3 : HC := (.seq (.br (.chk none (.eqNil false (.pointer 79) (.pointer none)) (.cons (.inp 3) .nil) (.done [] (some (.op (.eqNil false (.pointer 79) (.pointer none)) (.cons (.inp 3) .nil))))) h13_2 .skip) h13_1)
@[simp] theorem h13_3_wp {P : Program} {F : PF P} {Q : EX → List Value → World → Prop} {env : List Value} {w : World} : h13_3.wp F Q env w = HC.wp F (.seq (.br (.chk none (.eqNil false (.pointer 79) (.pointer none)) (.cons (.inp 3) .nil) (.done [] (some (.op (.eqNil false (.pointer 79) (.pointer none)) (.cons (.inp 3) .nil))))) h13_2 .skip) h13_1) Q env w := rfl
def h13_4 : HC := (.seq (.reg (.chk none .chkp (.cons (.inp 0) .nil) (.chk none (.fld 2) (.cons (.op .chkp (.cons (.inp 0) .nil)) .nil) (.eff (.ld false 1) (.cons (.op (.fld 2) (.cons (.op .chkp (.cons (.inp 0) .nil)) .nil)) .nil) (.eff (.look 72 false) (.cons (.bv 0) (.cons (.inp 1) .nil)) (.done [(3, (.bv 1))] none)))))) h13_3)
@[simp] theorem h13_4_wp {P : Program} {F : PF P} {Q : EX → List Value → World → Prop} {env : List Value} {w : World} : h13_4.wp F Q env w = HC.wp F (.seq (.reg (.chk none .chkp (.cons (.inp 0) .nil) (.chk none (.fld 2) (.cons (.op .chkp (.cons (.inp 0) .nil)) .nil) (.eff (.ld false 1) (.cons (.op (.fld 2) (.cons (.op .chkp (.cons (.inp 0) .nil)) .nil)) .nil) (.eff (.look 72 false) (.cons (.bv 0) (.cons (.inp 1) .nil)) (.done [(3, (.bv 1))] none)))))) h13_3) Q env w := rfl
def h13_5 : HC := (.seq (.reg (.done [(2, (.cst (.int .i64 1)))] none)) .ret)
@[simp] theorem h13_5_wp {P : Program} {F : PF P} {Q : EX → List Value → World → Prop} {env : List Value} {w : World} : h13_5.wp F Q env w = HC.wp F (.seq (.reg (.done [(2, (.cst (.int .i64 1)))] none)) .ret) Q env w := rfl
def h13_6 : HC := (.seq (.br (.chk none (.eqNil false (.pointer 76) (.pointer none)) (.cons (.inp 0) .nil) (.done [] (some (.op (.eqNil false (.pointer 76) (.pointer none)) (.cons (.inp 0) .nil))))) h13_5 .skip) h13_4)
@[simp] theorem h13_6_wp {P : Program} {F : PF P} {Q : EX → List Value → World → Prop} {env : List Value} {w : World} : h13_6.wp F Q env w = HC.wp F (.seq (.br (.chk none (.eqNil false (.pointer 76) (.pointer none)) (.cons (.inp 0) .nil) (.done [] (some (.op (.eqNil false (.pointer 76) (.pointer none)) (.cons (.inp 0) .nil))))) h13_5 .skip) h13_4) Q env w := rfl
def l13 : Lifted := ⟨[0, 1, 4, 5], 19, [.slot 2], (.seq (.reg (.done [(2, (.cst (.int .i64 0)))] none)) h13_6)⟩
theorem l13_ok : liftFn U2 13 400 = some l13 := by kernel_rfl

-- (*bazaar/wheel.Wheel).Len
def h15_0 : HC := (.seq (.reg (.chk none .chkp (.cons (.inp 0) .nil) (.chk none (.fld 2) (.cons (.op .chkp (.cons (.inp 0) .nil)) .nil) (.eff (.ld false 1) (.cons (.op (.fld 2) (.cons (.op .chkp (.cons (.inp 0) .nil)) .nil)) .nil) (.eff (.bi .len #[72] 3 #[false]) (.cons (.bv 0) .nil) (.done [(1, (.bv 1))] none)))))) .ret)
@[simp] theorem h15_0_wp {P : Program} {F : PF P} {Q : EX → List Value → World → Prop} {env : List Value} {w : World} : h15_0.wp F Q env w = HC.wp F (.seq (.reg (.chk none .chkp (.cons (.inp 0) .nil) (.chk none (.fld 2) (.cons (.op .chkp (.cons (.inp 0) .nil)) .nil) (.eff (.ld false 1) (.cons (.op (.fld 2) (.cons (.op .chkp (.cons (.inp 0) .nil)) .nil)) .nil) (.eff (.bi .len #[72] 3 #[false]) (.cons (.bv 0) .nil) (.done [(1, (.bv 1))] none)))))) .ret) Q env w := rfl
def h15_1 : HC := (.seq (.reg (.done [(1, (.cst (.int .i64 0)))] none)) .ret)
@[simp] theorem h15_1_wp {P : Program} {F : PF P} {Q : EX → List Value → World → Prop} {env : List Value} {w : World} : h15_1.wp F Q env w = HC.wp F (.seq (.reg (.done [(1, (.cst (.int .i64 0)))] none)) .ret) Q env w := rfl
def h15_2 : HC := (.seq (.br (.chk none (.eqNil false (.pointer 76) (.pointer none)) (.cons (.inp 0) .nil) (.done [] (some (.op (.eqNil false (.pointer 76) (.pointer none)) (.cons (.inp 0) .nil))))) h15_1 .skip) h15_0)
@[simp] theorem h15_2_wp {P : Program} {F : PF P} {Q : EX → List Value → World → Prop} {env : List Value} {w : World} : h15_2.wp F Q env w = HC.wp F (.seq (.br (.chk none (.eqNil false (.pointer 76) (.pointer none)) (.cons (.inp 0) .nil) (.done [] (some (.op (.eqNil false (.pointer 76) (.pointer none)) (.cons (.inp 0) .nil))))) h15_1 .skip) h15_0) Q env w := rfl
def l15 : Lifted := ⟨[0, 2], 10, [.slot 1], (.seq (.reg (.done [(1, (.cst (.int .i64 0)))] none)) h15_2)⟩
theorem l15_ok : liftFn U2 15 400 = some l15 := by kernel_rfl

-- (*bazaar/wheel.Wheel).Now
def h16_0 : HC := (.seq (.reg (.chk none .chkp (.cons (.inp 0) .nil) (.chk none (.fld 0) (.cons (.op .chkp (.cons (.inp 0) .nil)) .nil) (.eff (.ld false 1) (.cons (.op (.fld 0) (.cons (.op .chkp (.cons (.inp 0) .nil)) .nil)) .nil) (.done [(1, (.bv 0))] none))))) .ret)
@[simp] theorem h16_0_wp {P : Program} {F : PF P} {Q : EX → List Value → World → Prop} {env : List Value} {w : World} : h16_0.wp F Q env w = HC.wp F (.seq (.reg (.chk none .chkp (.cons (.inp 0) .nil) (.chk none (.fld 0) (.cons (.op .chkp (.cons (.inp 0) .nil)) .nil) (.eff (.ld false 1) (.cons (.op (.fld 0) (.cons (.op .chkp (.cons (.inp 0) .nil)) .nil)) .nil) (.done [(1, (.bv 0))] none))))) .ret) Q env w := rfl
def h16_1 : HC := (.seq (.reg (.done [(1, (.cst (.int .i64 0)))] none)) .ret)
@[simp] theorem h16_1_wp {P : Program} {F : PF P} {Q : EX → List Value → World → Prop} {env : List Value} {w : World} : h16_1.wp F Q env w = HC.wp F (.seq (.reg (.done [(1, (.cst (.int .i64 0)))] none)) .ret) Q env w := rfl
def h16_2 : HC := (.seq (.br (.chk none (.eqNil false (.pointer 76) (.pointer none)) (.cons (.inp 0) .nil) (.done [] (some (.op (.eqNil false (.pointer 76) (.pointer none)) (.cons (.inp 0) .nil))))) h16_1 .skip) h16_0)
@[simp] theorem h16_2_wp {P : Program} {F : PF P} {Q : EX → List Value → World → Prop} {env : List Value} {w : World} : h16_2.wp F Q env w = HC.wp F (.seq (.br (.chk none (.eqNil false (.pointer 76) (.pointer none)) (.cons (.inp 0) .nil) (.done [] (some (.op (.eqNil false (.pointer 76) (.pointer none)) (.cons (.inp 0) .nil))))) h16_1 .skip) h16_0) Q env w := rfl
def l16 : Lifted := ⟨[0, 2], 9, [.slot 1], (.seq (.reg (.done [(1, (.cst (.int .i64 0)))] none)) h16_2)⟩
theorem l16_ok : liftFn U2 16 400 = some l16 := by kernel_rfl

-- (*bazaar/wheel.Wheel).Moves
def h17_0 : HC := (.seq (.reg (.chk none .chkp (.cons (.inp 0) .nil) (.chk none (.fld 1) (.cons (.op .chkp (.cons (.inp 0) .nil)) .nil) (.eff (.ld false 1) (.cons (.op (.fld 1) (.cons (.op .chkp (.cons (.inp 0) .nil)) .nil)) .nil) (.done [(1, (.bv 0))] none))))) .ret)
@[simp] theorem h17_0_wp {P : Program} {F : PF P} {Q : EX → List Value → World → Prop} {env : List Value} {w : World} : h17_0.wp F Q env w = HC.wp F (.seq (.reg (.chk none .chkp (.cons (.inp 0) .nil) (.chk none (.fld 1) (.cons (.op .chkp (.cons (.inp 0) .nil)) .nil) (.eff (.ld false 1) (.cons (.op (.fld 1) (.cons (.op .chkp (.cons (.inp 0) .nil)) .nil)) .nil) (.done [(1, (.bv 0))] none))))) .ret) Q env w := rfl
def h17_1 : HC := (.seq (.reg (.done [(1, (.cst (.int .i64 0)))] none)) .ret)
@[simp] theorem h17_1_wp {P : Program} {F : PF P} {Q : EX → List Value → World → Prop} {env : List Value} {w : World} : h17_1.wp F Q env w = HC.wp F (.seq (.reg (.done [(1, (.cst (.int .i64 0)))] none)) .ret) Q env w := rfl
def h17_2 : HC := (.seq (.br (.chk none (.eqNil false (.pointer 76) (.pointer none)) (.cons (.inp 0) .nil) (.done [] (some (.op (.eqNil false (.pointer 76) (.pointer none)) (.cons (.inp 0) .nil))))) h17_1 .skip) h17_0)
@[simp] theorem h17_2_wp {P : Program} {F : PF P} {Q : EX → List Value → World → Prop} {env : List Value} {w : World} : h17_2.wp F Q env w = HC.wp F (.seq (.br (.chk none (.eqNil false (.pointer 76) (.pointer none)) (.cons (.inp 0) .nil) (.done [] (some (.op (.eqNil false (.pointer 76) (.pointer none)) (.cons (.inp 0) .nil))))) h17_1 .skip) h17_0) Q env w := rfl
def l17 : Lifted := ⟨[0, 2], 9, [.slot 1], (.seq (.reg (.done [(1, (.cst (.int .i64 0)))] none)) h17_2)⟩
theorem l17_ok : liftFn U2 17 400 = some l17 := by kernel_rfl


theorem bigA_emp {α : Type} {F : Nat → α → Asn} {Y : Nat → α} : ∀ n, (∀ k, k < n → F k (Y k) = emp) → bigA F Y n = emp
  | 0, _ => rfl
  | n + 1, h => by
    show bigA F Y n * F n (Y n) = emp
    rw [bigA_emp n (fun k hk => h k (by omega)), h n (by omega), sep_emp]
theorem new_fill (now : Int) (am bm : Nat) : Instr.fill (fun x => [(0, 1), (1, 1), (2, 1), (3, 256), (259, 1)][x]?) (rl [(2, .int .i64 0), (258, .map none)]) [(0, .int .i64 now), (2, .map (some am)), (4, .map (some bm))] = some (rl [(1, .int .i64 now), (1, .int .i64 0), (1, .map (some am)), (256, .map none), (1, .map (some bm))]) := by kernel_rfl
theorem New_spec (now : Int) (w0 w : World) (A : Asn) {K : Value → World → Prop} (s : St w0 A w)
    (hk : ∀ r w', (if 0 ≤ now ∧ now ≤ 1099511627776 then ∃ p, r = .tuple #[.pointer (some ⟨p, 0, none⟩), .int .i64 0] ∧ St w0 (A * whl p now.toNat 0 []) w' else r = .tuple #[.pointer none, .int .i64 90] ∧ St w0 A w') → K r w') :
    CallW Try.prog 9 [.int .i64 now] K w := by
  refine callW_of_lift l9_ok (by simp [l9]) ?_
  simp [l9]
  refine cndI (fun h => ?_) (fun h => ?_)
  · simp at h
    simp
    refine hk _ _ ?_
    rw [if_neg (by omega)]
    exact ⟨rfl, s⟩
  simp at h
  simp
  refine eff_mkmI s ?_
  intro am w1 s1
  simp
  refine eff_mkmI s1 ?_
  intro bm w2 s2
  simp
  rw [new_fill]
  simp
  refine eff_box s2 ?_
  intro p w3 s3
  simp
  refine hk _ _ ?_
  rw [if_pos h]
  refine ⟨p, rfl, ?_⟩
  obtain ⟨now, rfl⟩ := Int.eq_ofNat_of_zero_le h.1
  have eA : rl [(1, .int .i64 now), (1, .int .i64 0), (1, .map (some am)), (256, .map none), (1, .map (some bm))] = (wcs now 0 am (upF (fun _ => none) 256 (some (bm, [], 0)))).toArray := by kernel_rfl
  have s3 : St w0 (A * imap am [] 0 * imap bm [] 0 * wc p now 0 am (upF (fun _ => none) 256 (some (bm, [], 0)))) w3 := by
    show St w0 (_ * pt p (.cells (wcs now 0 am (upF (fun _ => none) 256 (some (bm, [], 0)))).toArray _ _)) w3
    rw [← eA]
    exact s3
  have eb : bigA slA (upF (fun _ => none) 256 (some (bm, [], 0))) 257 = imap bm [] 0 := by
    show bigA slA (upF (fun _ => none) 256 (some (bm, [], 0))) 256 * slA 256 (upF (fun _ => none) 256 (some (bm, [], 0)) 256) = _
    rw [bigA_emp 256 (fun k hk => by rw [upF_ne _ _ (by omega)]; rfl), emp_sep, upF_at]
    rfl
  have hok : wOK [] [] 0 (upF (fun _ => none) 256 (some (bm, [], 0))) := ⟨by simp, by simp, rfl, okE_nil 0, fun q _ => by
    by_cases e : q = 256
    · subst e; rw [upF_at]; exact ⟨okE_nil 0, fun n v => by simp [slE, getI]⟩
    · rw [upF_ne _ _ e]; exact ⟨okE_nil 0, fun n v => by simp [slE, getI]⟩⟩
  refine wclose (am := am) hok ?_
  rw [eb, show hungA [] = emp from rfl, sep_emp]
  exact s3.to (by ac_rfl)
theorem Len_spec (p now mv : Nat) (ts : List Tm) (w0 w : World) (A : Asn) (s : St w0 (A * whl p now mv ts) w) :
    CallW Try.prog 15 [.pointer (some ⟨p, 0, none⟩)] (fun r w' => r = .int .i64 ts.length ∧ St w0 (A * whl p now mv ts) w') w := by
  refine callW_of_lift l15_ok (by simp [l15]) ?_
  simp [l15]
  obtain ⟨am, aes, ac, Y, hok, t1⟩ := wopen s
  refine eff_ldc (v := .map (some am)) (t1.row_cells 2 _ rfl) ?_
  simp
  refine eff_lenI hungI.ty t1.drop.look ?_
  have hl : aes.length = ts.length := by have := congrArg List.length hok.alls; simpa using this
  simp [hl]
  exact s
theorem Now_spec (p now mv : Nat) (ts : List Tm) (w0 w : World) (A : Asn) (s : St w0 (A * whl p now mv ts) w) :
    CallW Try.prog 16 [.pointer (some ⟨p, 0, none⟩)] (fun r w' => r = .int .i64 now ∧ St w0 (A * whl p now mv ts) w') w := by
  refine callW_of_lift l16_ok (by simp [l16]) ?_
  simp [l16]
  obtain ⟨am, aes, ac, Y, hok, t1⟩ := wopen s
  refine eff_ldc (v := .int .i64 now) (t1.row_cells 0 _ rfl) ?_
  simp
  exact s
theorem Moves_spec (p now mv : Nat) (ts : List Tm) (w0 w : World) (A : Asn) (s : St w0 (A * whl p now mv ts) w) :
    CallW Try.prog 17 [.pointer (some ⟨p, 0, none⟩)] (fun r w' => r = .int .i64 mv ∧ St w0 (A * whl p now mv ts) w') w := by
  refine callW_of_lift l17_ok (by simp [l17]) ?_
  simp [l17]
  obtain ⟨am, aes, ac, Y, hok, t1⟩ := wopen s
  refine eff_ldc (v := .int .i64 mv) (t1.row_cells 1 _ rfl) ?_
  simp
  exact s
theorem Cancel_spec (p now mv : Nat) (ts : List Tm) (n : Int) (w0 w : World) (A : Asn) {K : Value → World → Prop} (s : St w0 (A * whl p now mv ts) w)
    (hk : ∀ r w', r = .int .i64 (if (∀ u ∈ ts, u.n ≠ n) then 93 else 0) → St w0 (A * whl p now mv (offT ts n)) w' → K r w') :
    CallW Try.prog 13 [.pointer (some ⟨p, 0, none⟩), .int .i64 n] K w := by
  refine callW_of_lift l13_ok (by simp [l13]) ?_
  simp [l13]
  obtain ⟨am, aes, ac, Y, hok, t1⟩ := wopen s
  refine eff_ldc (v := .map (some am)) (t1.row_cells 2 _ rfl) ?_
  simp
  refine eff_lookI hungI t1.drop.look ?_
  simp
  by_cases hn : ∀ u ∈ ts, u.n ≠ n
  · rw [hok.got hn]
    simp
    refine hk _ _ (by rw [if_pos hn]) ?_
    rw [offT_none hn]; exact s
  · obtain ⟨t, ht⟩ : ∃ t, t ∈ ts ∧ t.n = n := by
      refine Classical.byContradiction fun h => hn fun u hu e => h ⟨u, hu, e⟩
    obtain ⟨ht, rfl⟩ := ht
    rw [hok.get ht]
    simp
    obtain ⟨x, hx⟩ := hok.at ht
    have t2 : St w0 (A * hungA (offT ts t.n) * imap am aes ac * bigA slA Y 257 * wc p now mv am Y * tmA t) w := by
      rw [hungA_off hok.num ht] at t1
      exact t1.to (by ac_rfl)
    refine eff_call (drop_spec p am now mv Y t aes ac x w0 w _ (hok.tm t ht) hx t2 fun r w' s3 => ?_)
    simp
    refine hk _ _ (by rw [if_neg hn]) ?_
    have h2 := hok.drop ht
    rw [hx] at h2
    exact wclose h2 (St.cut (tmA t) s3 (by ac_rfl))
/-- what Schedule answers -/
def schF (now : Nat) (ts : List Tm) (n a : Int) : Int := if n < 1 then 2 else if a ≤ now ∨ 1099511627776 < a then 90 else if ¬ ∀ u ∈ ts, u.n ≠ n then 92 else if 65536 ≤ ts.length then 91 else 0
theorem schF_zero {now : Nat} {ts : List Tm} {n a : Int} : schF now ts n a = 0 ↔ 1 ≤ n ∧ now < a ∧ a ≤ 1099511627776 ∧ (∀ u ∈ ts, u.n ≠ n) ∧ ts.length < 65536 := by
  unfold schF
  constructor
  · intro h
    by_cases h1 : n < 1
    · simp [h1] at h
    by_cases h2 : a ≤ now ∨ 1099511627776 < a
    · simp [h1, h2] at h
    by_cases h3 : ∀ u ∈ ts, u.n ≠ n
    · by_cases h4 : 65536 ≤ ts.length
      · rw [if_neg h1, if_neg h2, if_neg (not_not_intro h3), if_pos h4] at h
        simp at h
      · exact ⟨by omega, by omega, by omega, h3, by omega⟩
    · rw [if_neg h1, if_neg h2, if_pos h3] at h
      simp at h
  · rintro ⟨h1, h2, h3, h4, h5⟩
    rw [if_neg (by omega), if_neg (by omega), if_neg (not_not_intro h4), if_neg (by omega)]
theorem Sched_spec (p now mv : Nat) (ts : List Tm) (n at_ : Int) (w0 w : World) (A : Asn) {K : Value → World → Prop} (hnow : now ≤ 1099511627776) (s : St w0 (A * whl p now mv ts) w)
    (hk : ∀ w', (if schF now ts n at_ = 0 then ∃ b, St w0 (A * whl p now mv (ts ++ [hgT ⟨n, at_.toNat, 0, 0, b⟩ now])) w' else St w0 (A * whl p now mv ts) w') → K (.int .i64 (schF now ts n at_)) w') :
    CallW Try.prog 12 [.pointer (some ⟨p, 0, none⟩), .int .i64 n, .int .i64 at_] K w := by
  refine callW_of_lift l12_ok (by simp [l12]) ?_
  simp [l12]
  have no : ∀ (e : Int) (w' : World), schF now ts n at_ = e → e ≠ 0 → St w0 (A * whl p now mv ts) w' → K (.int .i64 e) w' := fun e w' he h0 s' => by
    subst he; exact hk _ (by rw [if_neg h0]; exact s')
  refine cndI (fun c1 => ?_) (fun c1 => ?_)
  · simp at c1
    simp
    exact no 2 w (by unfold schF; rw [if_pos (by omega)]) (by decide) s
  simp at c1
  simp
  obtain ⟨am, aes, ac, Y, hok, t1⟩ := wopen s
  refine eff_ldc (v := .int .i64 now) (t1.row_cells 0 _ rfl) ?_
  simp
  refine cndI (fun c2 => ?_) (fun c2 => ?_)
  · simp at c2
    simp
    exact no 90 w (by unfold schF; rw [if_neg (by omega), if_pos (by omega)]) (by decide) s
  simp at c2
  obtain ⟨a, rfl⟩ : ∃ a : Nat, at_ = a := ⟨at_.toNat, by omega⟩
  simp
  refine eff_ldc (v := .map (some am)) (t1.row_cells 2 _ rfl) ?_
  simp
  refine eff_lookI hungI t1.drop.look ?_
  simp
  by_cases hn : ∀ u ∈ ts, u.n ≠ n
  · rw [hok.got hn]
    simp
    refine eff_ldc (v := .map (some am)) (t1.row_cells 2 _ rfl) ?_
    simp
    refine eff_lenI hungI.ty t1.drop.look ?_
    have hl : aes.length = ts.length := by have := congrArg List.length hok.alls; simpa using this
    rw [hl]
    simp
    refine cndI (fun c3 => ?_) (fun c3 => ?_)
    · simp at c3
      simp
      exact no 91 w (by unfold schF; rw [if_neg (by omega), if_neg (by omega), if_neg (not_not_intro hn), if_pos (by omega)]) (by decide) s
    simp at c3
    simp [Instr.fill, Value.cells]
    refine eff_box t1 ?_
    intro b w2 s2
    obtain ⟨T, hT⟩ : ∃ T : Tm, T = ⟨n, a, 0, 0, b⟩ := ⟨_, rfl⟩
    have hTn : T.n = n := by rw [hT]
    have s2 : St w0 (A * hungA ts * bigA slA Y 257 * imap am aes ac * wc p now mv am Y * tmA T) w2 := by rw [hT]; exact s2
    simp
    have htp : Value.pointer (some ⟨b, 0, none⟩) = tp T := by rw [hT]
    rw [htp]
    refine eff_ldc (v := .map (some am)) (s2.drop.row_cells 2 _ rfl) ?_
    simp
    refine eff_updI hungI (s2.to (B := A * hungA ts * bigA slA Y 257 * wc p now mv am Y * tmA T * imap am aes ac) (by ac_rfl)) (hok.got hn) ?_
    intro w3 s3
    simp
    have hq := hgQ_eq T now
    have hqlt := tmQ_lt (hgT_ok T now)
    refine eff_call (hang_spec p am now mv Y T w0 w3 (A * hungA ts * imap am (aes ++ [⟨n, tp T, ac⟩]) (ac + 1)) (by rw [hT]; show a ≤ _; omega) (by omega) (by rw [hq, hTn]; exact hok.free hn hqlt) (s3.to (by ac_rfl)) fun r m w4 hm s4 => ?_)
    simp
    have hz : schF now ts n a = 0 := schF_zero.2 ⟨c1, c2.1, c2.2, hn, by omega⟩
    have hk := hk w4
    rw [hz] at hk
    refine hk ?_
    rw [if_pos rfl]
    refine ⟨b, ?_⟩
    have hnew := hok.add (t := T) (t' := hgT T now) rfl rfl (by rw [hTn]; exact hn) (hgT_ok T now) m
    have e : hgT ⟨n, (a : Int).toNat, 0, 0, b⟩ now = hgT T now := by rw [hT]; rfl
    rw [e]
    refine wclose (am := am) hnew ?_
    rw [hungA_app, show hungA [hgT T now] = tmA (hgT T now) * emp from rfl, sep_emp, hTn]
    exact s4.to (by rw [hq]; ac_rfl)
  · obtain ⟨t, ht⟩ : ∃ t, t ∈ ts ∧ t.n = n := by
      refine Classical.byContradiction fun h => hn fun u hu e => h ⟨u, hu, e⟩
    obtain ⟨ht, rfl⟩ := ht
    rw [hok.get ht]
    simp
    exact no 92 w (by unfold schF; rw [if_neg (by omega), if_neg (by omega), if_pos hn]) (by decide) s
theorem Schedule_spec (p now mv : Nat) (ts : List Tm) (n at_ : Int) (w0 w : World) (A : Asn) {K : Value → World → Prop} (hnow : now ≤ 1099511627776) (s : St w0 (A * whl p now mv ts) w)
    (hk : ∀ r w', (if 1 ≤ n ∧ now < at_ ∧ at_ ≤ 1099511627776 ∧ (∀ u ∈ ts, u.n ≠ n) ∧ ts.length < 65536 then r = .int .i64 0 ∧ ∃ b, St w0 (A * whl p now mv (ts ++ [hgT ⟨n, at_.toNat, 0, 0, b⟩ now])) w' else (∃ e, r = .int .i64 e ∧ e ≠ 0) ∧ St w0 (A * whl p now mv ts) w') → K r w') :
    CallW Try.prog 12 [.pointer (some ⟨p, 0, none⟩), .int .i64 n, .int .i64 at_] K w := by
  refine Sched_spec p now mv ts n at_ w0 w A hnow s fun w' h => hk _ w' ?_
  by_cases hz : schF now ts n at_ = 0
  · rw [if_pos (schF_zero.1 hz)]
    rw [if_pos hz] at h
    exact ⟨by rw [hz], h⟩
  · rw [if_neg (fun g => hz (schF_zero.2 g))]
    rw [if_neg hz] at h
    exact ⟨⟨_, rfl, hz⟩, h⟩
end Go.HL.Wh
