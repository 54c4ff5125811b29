/-
  Goods: held, New, Limit, Len, Make, put, Move, Hold, Free. Conditions: so many items at most.
-/
import Derived.Test.YtfcgookobpjdgaaGdA
namespace Go.HL.Gd
open Go.HL Go.Proofs
set_option maxRecDepth 4000
set_option linter.unusedSimpArgs false
set_option linter.unusedVariables false
noncomputable def accS : PS Try.prog := PS.ib 36 .i64 accF account_spec
noncomputable def kindS : PS Try.prog := PS.ib 34 .i64 kindF kind_spec
noncomputable def numS : PS Try.prog := PS.ii 10 .i64 .i64 id num_spec
noncomputable abbrev G1 : PF Try.prog := PF.of [accS, kindS, numS]
@[simp] theorem G1_a_val (args : List Value) : G1.val 36 args = accS.val args := rfl
@[simp] theorem G1_a_ok (args : List Value) : G1.ok 36 args = accS.ok args := rfl
@[simp] theorem G1_k_val (args : List Value) : G1.val 34 args = kindS.val args := rfl
@[simp] theorem G1_k_ok (args : List Value) : G1.ok 34 args = kindS.ok args := rfl
@[simp] theorem G1_n_val (args : List Value) : G1.val 10 args = numS.val args := rfl
@[simp] theorem G1_n_ok (args : List Value) : G1.ok 10 args = numS.ok args := rfl
@[simp] theorem acc_val (u : Int) : accS.val [.int .i64 u] = .bool (accF u) := rfl
@[simp] theorem acc_ok (u : Int) : accS.ok [.int .i64 u] = (IntKind.i64 = .i64) := rfl
@[simp] theorem kind_val (u : Int) : kindS.val [.int .i64 u] = .bool (kindF u) := rfl
@[simp] theorem kind_ok (u : Int) : kindS.ok [.int .i64 u] = (IntKind.i64 = .i64) := rfl
@[simp] theorem num_val (u : Int) : numS.val [.int .i64 u] = .int .i64 u := rfl
@[simp] theorem num_ok (u : Int) : numS.ok [.int .i64 u] = (IntKind.i64 = .i64) := rfl
-- (bazaar/goods.thing).held
def h35_0 : HC := (.seq (.reg (.chk none (.fld 0) (.cons (.inp 1) .nil) (.chk none (.fld 3) (.cons (.op (.fld 0) (.cons (.inp 1) .nil)) .nil) (.eff (.ld false 1) (.cons (.op (.fld 3) (.cons (.op (.fld 0) (.cons (.inp 1) .nil)) .nil)) .nil) (.chk none (.bin .gtr) (.cons (.bv 0) (.cons (.cst (.int .i64 0)) .nil)) (.done [(2, (.op (.bin .gtr) (.cons (.bv 0) (.cons (.cst (.int .i64 0)) .nil))))] none)))))) .ret)
@[simp] theorem h35_0_wp {P : Program} {F : PF P} {Q : EX → List Value → World → Prop} {env : List Value} {w : World} : h35_0.wp F Q env w = HC.wp F (.seq (.reg (.chk none (.fld 0) (.cons (.inp 1) .nil) (.chk none (.fld 3) (.cons (.op (.fld 0) (.cons (.inp 1) .nil)) .nil) (.eff (.ld false 1) (.cons (.op (.fld 3) (.cons (.op (.fld 0) (.cons (.inp 1) .nil)) .nil)) .nil) (.chk none (.bin .gtr) (.cons (.bv 0) (.cons (.cst (.int .i64 0)) .nil)) (.done [(2, (.op (.bin .gtr) (.cons (.bv 0) (.cons (.cst (.int .i64 0)) .nil))))] none)))))) .ret) Q env w := rfl
def l35 : Lifted := ⟨[0, 1, 2], 7, [.slot 2], (.seq (.reg (.eff (.box 73) (.cons (.inp 0) .nil) (.done [(1, (.bv 0)), (2, (.cst (.bool false)))] none))) h35_0)⟩
theorem l35_ok : liftFn G1 35 400 = some l35 := by kernel_rfl

-- bazaar/goods.New
def h8_0 : HC := (.seq (.reg (.chk none (.build #[(.int .i64 0), (.slice none 0 0)] [(0, 1), (1, 1)] [0]) (.cons (.inp 0) .nil) (.eff (.box 71) (.cons (.op (.build #[(.int .i64 0), (.slice none 0 0)] [(0, 1), (1, 1)] [0]) (.cons (.inp 0) .nil)) .nil) (.done [(1, (.bv 0)), (2, (.cst (.int .i64 0)))] none)))) .ret)
@[simp] theorem h8_0_wp {P : Program} {F : PF P} {Q : EX → List Value → World → Prop} {env : List Value} {w : World} : h8_0.wp F Q env w = HC.wp F (.seq (.reg (.chk none (.build #[(.int .i64 0), (.slice none 0 0)] [(0, 1), (1, 1)] [0]) (.cons (.inp 0) .nil) (.eff (.box 71) (.cons (.op (.build #[(.int .i64 0), (.slice none 0 0)] [(0, 1), (1, 1)] [0]) (.cons (.inp 0) .nil)) .nil) (.done [(1, (.bv 0)), (2, (.cst (.int .i64 0)))] none)))) .ret) Q env w := rfl
def h8_1 : HC := (.seq (.reg (.done [(1, (.cst (.pointer none))), (2, (.cst (.int .i64 2)))] none)) .ret)
@[simp] theorem h8_1_wp {P : Program} {F : PF P} {Q : EX → List Value → World → Prop} {env : List Value} {w : World} : h8_1.wp F Q env w = HC.wp F (.seq (.reg (.done [(1, (.cst (.pointer none))), (2, (.cst (.int .i64 2)))] none)) .ret) Q env w := rfl
def h8_2 : HC := (.seq (.br (.chk none (.bin .lss) (.cons (.inp 0) (.cons (.cst (.int .i64 0)) .nil)) (.bnd (.op (.bin .lss) (.cons (.inp 0) (.cons (.cst (.int .i64 0)) .nil))) (.chk (some ((.bv 0), false)) (.bin .gtr) (.cons (.inp 0) (.cons (.cst (.int .i64 512)) .nil)) (.isb none (.bv 0) (.done [] (some (.ite (.bv 0) true (.cst (.bool true)) (.op (.bin .gtr) (.cons (.inp 0) (.cons (.cst (.int .i64 512)) .nil)))))))))) h8_1 .skip) h8_0)
@[simp] theorem h8_2_wp {P : Program} {F : PF P} {Q : EX → List Value → World → Prop} {env : List Value} {w : World} : h8_2.wp F Q env w = HC.wp F (.seq (.br (.chk none (.bin .lss) (.cons (.inp 0) (.cons (.cst (.int .i64 0)) .nil)) (.bnd (.op (.bin .lss) (.cons (.inp 0) (.cons (.cst (.int .i64 0)) .nil))) (.chk (some ((.bv 0), false)) (.bin .gtr) (.cons (.inp 0) (.cons (.cst (.int .i64 512)) .nil)) (.isb none (.bv 0) (.done [] (some (.ite (.bv 0) true (.cst (.bool true)) (.op (.bin .gtr) (.cons (.inp 0) (.cons (.cst (.int .i64 512)) .nil)))))))))) h8_1 .skip) h8_0) Q env w := rfl
def l8 : Lifted := ⟨[0, 2, 3], 13, [.slot 1, .slot 2], (.seq (.reg (.done [(1, (.cst (.pointer none))), (2, (.cst (.int .i64 0)))] none)) h8_2)⟩
theorem l8_ok : liftFn G1 8 400 = some l8 := by kernel_rfl

-- (*bazaar/goods.Goods).Limit
def h18_0 : HC := (.seq (.reg (.chk none .chkp (.cons (.inp 0) .nil) (.chk none (.fld 0) (.cons (.op .chkp (.cons (.inp 0) .nil)) .nil) (.eff (.ld false 1) (.cons (.op (.fld 0) (.cons (.op .chkp (.cons (.inp 0) .nil)) .nil)) .nil) (.done [(1, (.bv 0))] none))))) .ret)
@[simp] theorem h18_0_wp {P : Program} {F : PF P} {Q : EX → List Value → World → Prop} {env : List Value} {w : World} : h18_0.wp F Q env w = HC.wp F (.seq (.reg (.chk none .chkp (.cons (.inp 0) .nil) (.chk none (.fld 0) (.cons (.op .chkp (.cons (.inp 0) .nil)) .nil) (.eff (.ld false 1) (.cons (.op (.fld 0) (.cons (.op .chkp (.cons (.inp 0) .nil)) .nil)) .nil) (.done [(1, (.bv 0))] none))))) .ret) Q env w := rfl
def h18_1 : HC := (.seq (.reg (.done [(1, (.cst (.int .i64 0)))] none)) .ret)
@[simp] theorem h18_1_wp {P : Program} {F : PF P} {Q : EX → List Value → World → Prop} {env : List Value} {w : World} : h18_1.wp F Q env w = HC.wp F (.seq (.reg (.done [(1, (.cst (.int .i64 0)))] none)) .ret) Q env w := rfl
def h18_2 : HC := (.seq (.br (.chk none (.eqNil false (.pointer 71) (.pointer none)) (.cons (.inp 0) .nil) (.done [] (some (.op (.eqNil false (.pointer 71) (.pointer none)) (.cons (.inp 0) .nil))))) h18_1 .skip) h18_0)
@[simp] theorem h18_2_wp {P : Program} {F : PF P} {Q : EX → List Value → World → Prop} {env : List Value} {w : World} : h18_2.wp F Q env w = HC.wp F (.seq (.br (.chk none (.eqNil false (.pointer 71) (.pointer none)) (.cons (.inp 0) .nil) (.done [] (some (.op (.eqNil false (.pointer 71) (.pointer none)) (.cons (.inp 0) .nil))))) h18_1 .skip) h18_0) Q env w := rfl
def l18 : Lifted := ⟨[0, 2], 9, [.slot 1], (.seq (.reg (.done [(1, (.cst (.int .i64 0)))] none)) h18_2)⟩
theorem l18_ok : liftFn G1 18 400 = some l18 := by kernel_rfl

-- (*bazaar/goods.Goods).Len
def h30_0 : HC := (.seq (.reg (.chk none .chkp (.cons (.inp 0) .nil) (.chk none (.fld 1) (.cons (.op .chkp (.cons (.inp 0) .nil)) .nil) (.eff (.ld false 1) (.cons (.op (.fld 1) (.cons (.op .chkp (.cons (.inp 0) .nil)) .nil)) .nil) (.chk none .lenL (.cons (.bv 0) .nil) (.done [(1, (.op .lenL (.cons (.bv 0) .nil)))] none)))))) .ret)
@[simp] theorem h30_0_wp {P : Program} {F : PF P} {Q : EX → List Value → World → Prop} {env : List Value} {w : World} : h30_0.wp F Q env w = HC.wp F (.seq (.reg (.chk none .chkp (.cons (.inp 0) .nil) (.chk none (.fld 1) (.cons (.op .chkp (.cons (.inp 0) .nil)) .nil) (.eff (.ld false 1) (.cons (.op (.fld 1) (.cons (.op .chkp (.cons (.inp 0) .nil)) .nil)) .nil) (.chk none .lenL (.cons (.bv 0) .nil) (.done [(1, (.op .lenL (.cons (.bv 0) .nil)))] none)))))) .ret) Q env w := rfl
def h30_1 : HC := (.seq (.reg (.done [(1, (.cst (.int .i64 0)))] none)) .ret)
@[simp] theorem h30_1_wp {P : Program} {F : PF P} {Q : EX → List Value → World → Prop} {env : List Value} {w : World} : h30_1.wp F Q env w = HC.wp F (.seq (.reg (.done [(1, (.cst (.int .i64 0)))] none)) .ret) Q env w := rfl
def h30_2 : HC := (.seq (.br (.chk none (.eqNil false (.pointer 71) (.pointer none)) (.cons (.inp 0) .nil) (.done [] (some (.op (.eqNil false (.pointer 71) (.pointer none)) (.cons (.inp 0) .nil))))) h30_1 .skip) h30_0)
@[simp] theorem h30_2_wp {P : Program} {F : PF P} {Q : EX → List Value → World → Prop} {env : List Value} {w : World} : h30_2.wp F Q env w = HC.wp F (.seq (.br (.chk none (.eqNil false (.pointer 71) (.pointer none)) (.cons (.inp 0) .nil) (.done [] (some (.op (.eqNil false (.pointer 71) (.pointer none)) (.cons (.inp 0) .nil))))) h30_1 .skip) h30_0) Q env w := rfl
def l30 : Lifted := ⟨[0, 2], 10, [.slot 1], (.seq (.reg (.done [(1, (.cst (.int .i64 0)))] none)) h30_2)⟩
theorem l30_ok : liftFn G1 30 400 = some l30 := by kernel_rfl

-- (*bazaar/goods.Goods).Make
def h26_0 : HC := (.seq (.reg (.done [(3, (.inp 5)), (4, (.cst (.int .i64 0)))] none)) .ret)
@[simp] theorem h26_0_wp {P : Program} {F : PF P} {Q : EX → List Value → World → Prop} {env : List Value} {w : World} : h26_0.wp F Q env w = HC.wp F (.seq (.reg (.done [(3, (.inp 5)), (4, (.cst (.int .i64 0)))] none)) .ret) Q env w := rfl
def h26_1 : HC := (.seq (.reg (.chk none .chkp (.cons (.inp 0) .nil) (.chk none (.fld 1) (.cons (.op .chkp (.cons (.inp 0) .nil)) .nil) (.eff (.ld false 1) (.cons (.op (.fld 1) (.cons (.op .chkp (.cons (.inp 0) .nil)) .nil)) .nil) (.chk none (.build #[(.int .i64 0), (.int .i64 0), (.int .i64 0), (.int .i64 0)] [(0, 1), (1, 1), (2, 1), (3, 1)] [0, 1, 2]) (.cons (.inp 5) (.cons (.inp 1) (.cons (.inp 2) .nil))) (.chk none (.build #[(.int .i64 0), (.int .i64 0), (.int .i64 0), (.int .i64 0)] [(0, 4)] [0]) (.cons (.op (.build #[(.int .i64 0), (.int .i64 0), (.int .i64 0), (.int .i64 0)] [(0, 1), (1, 1), (2, 1), (3, 1)] [0, 1, 2]) (.cons (.inp 5) (.cons (.inp 1) (.cons (.inp 2) .nil)))) .nil) (.eff (.bsl 73 1 4 #[(.int .i64 0), (.int .i64 0), (.int .i64 0), (.int .i64 0)] [0]) (.cons (.op (.build #[(.int .i64 0), (.int .i64 0), (.int .i64 0), (.int .i64 0)] [(0, 4)] [0]) (.cons (.op (.build #[(.int .i64 0), (.int .i64 0), (.int .i64 0), (.int .i64 0)] [(0, 1), (1, 1), (2, 1), (3, 1)] [0, 1, 2]) (.cons (.inp 5) (.cons (.inp 1) (.cons (.inp 2) .nil)))) .nil)) .nil) (.eff (.app 69 69 73 4 32 (.agg #[(.int .i64 0), (.int .i64 0), (.int .i64 0), (.int .i64 0)])) (.cons (.bv 0) (.cons (.bv 1) .nil)) (.chk none .chkp (.cons (.inp 0) .nil) (.chk none (.fld 1) (.cons (.op .chkp (.cons (.inp 0) .nil)) .nil) (.eff (.st 1) (.cons (.op (.fld 1) (.cons (.op .chkp (.cons (.inp 0) .nil)) .nil)) (.cons (.bv 2) .nil)) (.done [] none)))))))))))) h26_0)
@[simp] theorem h26_1_wp {P : Program} {F : PF P} {Q : EX → List Value → World → Prop} {env : List Value} {w : World} : h26_1.wp F Q env w = HC.wp F (.seq (.reg (.chk none .chkp (.cons (.inp 0) .nil) (.chk none (.fld 1) (.cons (.op .chkp (.cons (.inp 0) .nil)) .nil) (.eff (.ld false 1) (.cons (.op (.fld 1) (.cons (.op .chkp (.cons (.inp 0) .nil)) .nil)) .nil) (.chk none (.build #[(.int .i64 0), (.int .i64 0), (.int .i64 0), (.int .i64 0)] [(0, 1), (1, 1), (2, 1), (3, 1)] [0, 1, 2]) (.cons (.inp 5) (.cons (.inp 1) (.cons (.inp 2) .nil))) (.chk none (.build #[(.int .i64 0), (.int .i64 0), (.int .i64 0), (.int .i64 0)] [(0, 4)] [0]) (.cons (.op (.build #[(.int .i64 0), (.int .i64 0), (.int .i64 0), (.int .i64 0)] [(0, 1), (1, 1), (2, 1), (3, 1)] [0, 1, 2]) (.cons (.inp 5) (.cons (.inp 1) (.cons (.inp 2) .nil)))) .nil) (.eff (.bsl 73 1 4 #[(.int .i64 0), (.int .i64 0), (.int .i64 0), (.int .i64 0)] [0]) (.cons (.op (.build #[(.int .i64 0), (.int .i64 0), (.int .i64 0), (.int .i64 0)] [(0, 4)] [0]) (.cons (.op (.build #[(.int .i64 0), (.int .i64 0), (.int .i64 0), (.int .i64 0)] [(0, 1), (1, 1), (2, 1), (3, 1)] [0, 1, 2]) (.cons (.inp 5) (.cons (.inp 1) (.cons (.inp 2) .nil)))) .nil)) .nil) (.eff (.app 69 69 73 4 32 (.agg #[(.int .i64 0), (.int .i64 0), (.int .i64 0), (.int .i64 0)])) (.cons (.bv 0) (.cons (.bv 1) .nil)) (.chk none .chkp (.cons (.inp 0) .nil) (.chk none (.fld 1) (.cons (.op .chkp (.cons (.inp 0) .nil)) .nil) (.eff (.st 1) (.cons (.op (.fld 1) (.cons (.op .chkp (.cons (.inp 0) .nil)) .nil)) (.cons (.bv 2) .nil)) (.done [] none)))))))))))) h26_0) Q env w := rfl
def h26_2 : HC := (.seq (.reg (.chk none .chkp (.cons (.inp 0) .nil) (.chk none (.fld 1) (.cons (.op .chkp (.cons (.inp 0) .nil)) .nil) (.eff (.ld false 1) (.cons (.op (.fld 1) (.cons (.op .chkp (.cons (.inp 0) .nil)) .nil)) .nil) (.chk none .lenL (.cons (.bv 0) .nil) (.chk none (.bin .add) (.cons (.op .lenL (.cons (.bv 0) .nil)) (.cons (.cst (.int .i64 1)) .nil)) (.done [(5, (.op (.bin .add) (.cons (.op .lenL (.cons (.bv 0) .nil)) (.cons (.cst (.int .i64 1)) .nil))))] none))))))) h26_1)
@[simp] theorem h26_2_wp {P : Program} {F : PF P} {Q : EX → List Value → World → Prop} {env : List Value} {w : World} : h26_2.wp F Q env w = HC.wp F (.seq (.reg (.chk none .chkp (.cons (.inp 0) .nil) (.chk none (.fld 1) (.cons (.op .chkp (.cons (.inp 0) .nil)) .nil) (.eff (.ld false 1) (.cons (.op (.fld 1) (.cons (.op .chkp (.cons (.inp 0) .nil)) .nil)) .nil) (.chk none .lenL (.cons (.bv 0) .nil) (.chk none (.bin .add) (.cons (.op .lenL (.cons (.bv 0) .nil)) (.cons (.cst (.int .i64 1)) .nil)) (.done [(5, (.op (.bin .add) (.cons (.op .lenL (.cons (.bv 0) .nil)) (.cons (.cst (.int .i64 1)) .nil))))] none))))))) h26_1) Q env w := rfl
def h26_3 : HC := (.seq (.reg (.done [(3, (.cst (.int .i64 0))), (4, (.cst (.int .i64 1)))] none)) .ret)
@[simp] theorem h26_3_wp {P : Program} {F : PF P} {Q : EX → List Value → World → Prop} {env : List Value} {w : World} : h26_3.wp F Q env w = HC.wp F (.seq (.reg (.done [(3, (.cst (.int .i64 0))), (4, (.cst (.int .i64 1)))] none)) .ret) Q env w := rfl
def h26_4 : HC := (.seq (.reg (.done [(3, (.cst (.int .i64 0))), (4, (.cst (.int .i64 2)))] none)) .ret)
@[simp] theorem h26_4_wp {P : Program} {F : PF P} {Q : EX → List Value → World → Prop} {env : List Value} {w : World} : h26_4.wp F Q env w = HC.wp F (.seq (.reg (.done [(3, (.cst (.int .i64 0))), (4, (.cst (.int .i64 2)))] none)) .ret) Q env w := rfl
def h26_5 : HC := (.seq (.reg (.done [(3, (.cst (.int .i64 0))), (4, (.cst (.int .i64 152)))] none)) .ret)
@[simp] theorem h26_5_wp {P : Program} {F : PF P} {Q : EX → List Value → World → Prop} {env : List Value} {w : World} : h26_5.wp F Q env w = HC.wp F (.seq (.reg (.done [(3, (.cst (.int .i64 0))), (4, (.cst (.int .i64 152)))] none)) .ret) Q env w := rfl
def h26_6 : HC := (.seq (.reg (.done [(3, (.cst (.int .i64 0))), (4, (.cst (.int .i64 150)))] none)) .ret)
@[simp] theorem h26_6_wp {P : Program} {F : PF P} {Q : EX → List Value → World → Prop} {env : List Value} {w : World} : h26_6.wp F Q env w = HC.wp F (.seq (.reg (.done [(3, (.cst (.int .i64 0))), (4, (.cst (.int .i64 150)))] none)) .ret) Q env w := rfl
def h26_7 : HC := (.brq (some 0) (.chk none .chkp (.cons (.inp 0) .nil) (.chk none (.fld 1) (.cons (.op .chkp (.cons (.inp 0) .nil)) .nil) (.eff (.ld false 1) (.cons (.op (.fld 1) (.cons (.op .chkp (.cons (.inp 0) .nil)) .nil)) .nil) (.chk none .lenL (.cons (.bv 0) .nil) (.chk none .chkp (.cons (.inp 0) .nil) (.chk none (.fld 0) (.cons (.op .chkp (.cons (.inp 0) .nil)) .nil) (.eff (.ld false 1) (.cons (.op (.fld 0) (.cons (.op .chkp (.cons (.inp 0) .nil)) .nil)) .nil) (.chk none (.bin .geq) (.cons (.op .lenL (.cons (.bv 0) .nil)) (.cons (.bv 1) .nil)) (.done [] (some (.op (.bin .geq) (.cons (.op .lenL (.cons (.bv 0) .nil)) (.cons (.bv 1) .nil))))))))))))) h26_6 .skip)
@[simp] theorem h26_7_wp {P : Program} {F : PF P} {Q : EX → List Value → World → Prop} {env : List Value} {w : World} : h26_7.wp F Q env w = HC.wp F (.brq (some 0) (.chk none .chkp (.cons (.inp 0) .nil) (.chk none (.fld 1) (.cons (.op .chkp (.cons (.inp 0) .nil)) .nil) (.eff (.ld false 1) (.cons (.op (.fld 1) (.cons (.op .chkp (.cons (.inp 0) .nil)) .nil)) .nil) (.chk none .lenL (.cons (.bv 0) .nil) (.chk none .chkp (.cons (.inp 0) .nil) (.chk none (.fld 0) (.cons (.op .chkp (.cons (.inp 0) .nil)) .nil) (.eff (.ld false 1) (.cons (.op (.fld 0) (.cons (.op .chkp (.cons (.inp 0) .nil)) .nil)) .nil) (.chk none (.bin .geq) (.cons (.op .lenL (.cons (.bv 0) .nil)) (.cons (.bv 1) .nil)) (.done [] (some (.op (.bin .geq) (.cons (.op .lenL (.cons (.bv 0) .nil)) (.cons (.bv 1) .nil))))))))))))) h26_6 .skip) Q env w := rfl
def h26_8 : HC := (.br (.chk none (.cal 34) (.cons (.inp 1) .nil) (.chk none (.un .not) (.cons (.op (.cal 34) (.cons (.inp 1) .nil)) .nil) (.done [] (some (.op (.un .not) (.cons (.op (.cal 34) (.cons (.inp 1) .nil)) .nil)))))) h26_5 h26_7)
@[simp] theorem h26_8_wp {P : Program} {F : PF P} {Q : EX → List Value → World → Prop} {env : List Value} {w : World} : h26_8.wp F Q env w = HC.wp F (.br (.chk none (.cal 34) (.cons (.inp 1) .nil) (.chk none (.un .not) (.cons (.op (.cal 34) (.cons (.inp 1) .nil)) .nil) (.done [] (some (.op (.un .not) (.cons (.op (.cal 34) (.cons (.inp 1) .nil)) .nil)))))) h26_5 h26_7) Q env w := rfl
def h26_9 : HC := (.br (.chk none (.cal 36) (.cons (.inp 2) .nil) (.chk none (.un .not) (.cons (.op (.cal 36) (.cons (.inp 2) .nil)) .nil) (.done [] (some (.op (.un .not) (.cons (.op (.cal 36) (.cons (.inp 2) .nil)) .nil)))))) h26_4 h26_8)
@[simp] theorem h26_9_wp {P : Program} {F : PF P} {Q : EX → List Value → World → Prop} {env : List Value} {w : World} : h26_9.wp F Q env w = HC.wp F (.br (.chk none (.cal 36) (.cons (.inp 2) .nil) (.chk none (.un .not) (.cons (.op (.cal 36) (.cons (.inp 2) .nil)) .nil) (.done [] (some (.op (.un .not) (.cons (.op (.cal 36) (.cons (.inp 2) .nil)) .nil)))))) h26_4 h26_8) Q env w := rfl
def h26_10 : HC := (.br (.chk none (.eqNil false (.pointer 71) (.pointer none)) (.cons (.inp 0) .nil) (.done [] (some (.op (.eqNil false (.pointer 71) (.pointer none)) (.cons (.inp 0) .nil))))) h26_3 h26_9)
@[simp] theorem h26_10_wp {P : Program} {F : PF P} {Q : EX → List Value → World → Prop} {env : List Value} {w : World} : h26_10.wp F Q env w = HC.wp F (.br (.chk none (.eqNil false (.pointer 71) (.pointer none)) (.cons (.inp 0) .nil) (.done [] (some (.op (.eqNil false (.pointer 71) (.pointer none)) (.cons (.inp 0) .nil))))) h26_3 h26_9) Q env w := rfl
def h26_11 : HC := (.seq (.block 0 h26_10) h26_2)
@[simp] theorem h26_11_wp {P : Program} {F : PF P} {Q : EX → List Value → World → Prop} {env : List Value} {w : World} : h26_11.wp F Q env w = HC.wp F (.seq (.block 0 h26_10) h26_2) Q env w := rfl
def l26 : Lifted := ⟨[0, 1, 2, 6, 7, 8], 52, [.slot 3, .slot 4], (.seq (.reg (.done [(3, (.cst (.int .i64 0))), (4, (.cst (.int .i64 0)))] none)) h26_11)⟩
theorem l26_ok : liftFn G1 26 400 = some l26 := by kernel_rfl

-- (*bazaar/goods.Goods).put
def h52_0 : HC := (.seq (.reg (.done [(5, (.cst (.int .i64 0)))] none)) .ret)
@[simp] theorem h52_0_wp {P : Program} {F : PF P} {Q : EX → List Value → World → Prop} {env : List Value} {w : World} : h52_0.wp F Q env w = HC.wp F (.seq (.reg (.done [(5, (.cst (.int .i64 0)))] none)) .ret) Q env w := rfl
def h52_1 : HC := (.seq (.reg (.chk none .chkp (.cons (.inp 6) .nil) (.chk none (.fld 0) (.cons (.op .chkp (.cons (.inp 6) .nil)) .nil) (.chk none (.fld 2) (.cons (.op (.fld 0) (.cons (.op .chkp (.cons (.inp 6) .nil)) .nil)) .nil) (.eff (.st 1) (.cons (.op (.fld 2) (.cons (.op (.fld 0) (.cons (.op .chkp (.cons (.inp 6) .nil)) .nil)) .nil)) (.cons (.inp 3) .nil)) (.chk none .chkp (.cons (.inp 6) .nil) (.chk none (.fld 0) (.cons (.op .chkp (.cons (.inp 6) .nil)) .nil) (.chk none (.fld 3) (.cons (.op (.fld 0) (.cons (.op .chkp (.cons (.inp 6) .nil)) .nil)) .nil) (.eff (.st 1) (.cons (.op (.fld 3) (.cons (.op (.fld 0) (.cons (.op .chkp (.cons (.inp 6) .nil)) .nil)) .nil)) (.cons (.inp 4) .nil)) (.done [] none)))))))))) h52_0)
@[simp] theorem h52_1_wp {P : Program} {F : PF P} {Q : EX → List Value → World → Prop} {env : List Value} {w : World} : h52_1.wp F Q env w = HC.wp F (.seq (.reg (.chk none .chkp (.cons (.inp 6) .nil) (.chk none (.fld 0) (.cons (.op .chkp (.cons (.inp 6) .nil)) .nil) (.chk none (.fld 2) (.cons (.op (.fld 0) (.cons (.op .chkp (.cons (.inp 6) .nil)) .nil)) .nil) (.eff (.st 1) (.cons (.op (.fld 2) (.cons (.op (.fld 0) (.cons (.op .chkp (.cons (.inp 6) .nil)) .nil)) .nil)) (.cons (.inp 3) .nil)) (.chk none .chkp (.cons (.inp 6) .nil) (.chk none (.fld 0) (.cons (.op .chkp (.cons (.inp 6) .nil)) .nil) (.chk none (.fld 3) (.cons (.op (.fld 0) (.cons (.op .chkp (.cons (.inp 6) .nil)) .nil)) .nil) (.eff (.st 1) (.cons (.op (.fld 3) (.cons (.op (.fld 0) (.cons (.op .chkp (.cons (.inp 6) .nil)) .nil)) .nil)) (.cons (.inp 4) .nil)) (.done [] none)))))))))) h52_0) Q env w := rfl
def h52_2 : HC := (.seq (.reg (.chk none .chkp (.cons (.inp 0) .nil) (.chk none (.fld 1) (.cons (.op .chkp (.cons (.inp 0) .nil)) .nil) (.eff (.ld false 1) (.cons (.op (.fld 1) (.cons (.op .chkp (.cons (.inp 0) .nil)) .nil)) .nil) (.chk none (.bin .sub) (.cons (.inp 1) (.cons (.cst (.int .i64 1)) .nil)) (.chk none (.idxL 4) (.cons (.bv 0) (.cons (.op (.bin .sub) (.cons (.inp 1) (.cons (.cst (.int .i64 1)) .nil))) .nil)) (.done [(6, (.op (.idxL 4) (.cons (.bv 0) (.cons (.op (.bin .sub) (.cons (.inp 1) (.cons (.cst (.int .i64 1)) .nil))) .nil))))] none))))))) h52_1)
@[simp] theorem h52_2_wp {P : Program} {F : PF P} {Q : EX → List Value → World → Prop} {env : List Value} {w : World} : h52_2.wp F Q env w = HC.wp F (.seq (.reg (.chk none .chkp (.cons (.inp 0) .nil) (.chk none (.fld 1) (.cons (.op .chkp (.cons (.inp 0) .nil)) .nil) (.eff (.ld false 1) (.cons (.op (.fld 1) (.cons (.op .chkp (.cons (.inp 0) .nil)) .nil)) .nil) (.chk none (.bin .sub) (.cons (.inp 1) (.cons (.cst (.int .i64 1)) .nil)) (.chk none (.idxL 4) (.cons (.bv 0) (.cons (.op (.bin .sub) (.cons (.inp 1) (.cons (.cst (.int .i64 1)) .nil))) .nil)) (.done [(6, (.op (.idxL 4) (.cons (.bv 0) (.cons (.op (.bin .sub) (.cons (.inp 1) (.cons (.cst (.int .i64 1)) .nil))) .nil))))] none))))))) h52_1) Q env w := rfl
def h52_3 : HC := (.seq (.reg (.done [(5, (.cst (.int .i64 151)))] none)) .ret)
@[simp] theorem h52_3_wp {P : Program} {F : PF P} {Q : EX → List Value → World → Prop} {env : List Value} {w : World} : h52_3.wp F Q env w = HC.wp F (.seq (.reg (.done [(5, (.cst (.int .i64 151)))] none)) .ret) Q env w := rfl
def h52_4 : HC := (.seq (.br (.chk none (.bin .lss) (.cons (.inp 1) (.cons (.cst (.int .i64 1)) .nil)) (.bnd (.op (.bin .lss) (.cons (.inp 1) (.cons (.cst (.int .i64 1)) .nil))) (.chk (some ((.bv 0), false)) .chkp (.cons (.inp 0) .nil) (.chk (some ((.bv 0), false)) (.fld 1) (.cons (.op .chkp (.cons (.inp 0) .nil)) .nil) (.ite (.bv 0) false (.eff (.ld false 1) (.cons (.ite (.bv 0) false (.op (.fld 1) (.cons (.op .chkp (.cons (.inp 0) .nil)) .nil)) (.cst (.tuple #[]))) .nil) (.chk none .lenL (.cons (.bv 1) .nil) (.chk none (.bin .gtr) (.cons (.ite (.bv 0) false (.inp 1) (.cst (.tuple #[]))) (.cons (.op .lenL (.cons (.bv 1) .nil)) .nil)) (.isb none (.bv 0) (.bnd (.op (.bin .gtr) (.cons (.ite (.bv 0) false (.inp 1) (.cst (.tuple #[]))) (.cons (.op .lenL (.cons (.bv 1) .nil)) .nil))) (.chk (some ((.bv 2), false)) .chkp (.cons (.inp 0) .nil) (.chk (some ((.bv 2), false)) (.fld 1) (.cons (.op .chkp (.cons (.inp 0) .nil)) .nil) (.ite (.bv 2) false (.eff (.ld false 1) (.cons (.ite (.bv 2) false (.op (.fld 1) (.cons (.op .chkp (.cons (.inp 0) .nil)) .nil)) (.cst (.tuple #[]))) .nil) (.chk none (.bin .sub) (.cons (.inp 1) (.cons (.cst (.int .i64 1)) .nil)) (.chk none (.idxL 4) (.cons (.bv 3) (.cons (.op (.bin .sub) (.cons (.inp 1) (.cons (.cst (.int .i64 1)) .nil))) .nil)) (.eff (.ld true 4) (.cons (.op (.idxL 4) (.cons (.bv 3) (.cons (.op (.bin .sub) (.cons (.inp 1) (.cons (.cst (.int .i64 1)) .nil))) .nil))) .nil) (.eff (.call 35) (.cons (.bv 4) .nil) (.chk none (.eqB true) (.cons (.bv 5) (.cons (.inp 2) .nil)) (.isb none (.bv 2) (.done [] (some (.op (.eqB true) (.cons (.bv 5) (.cons (.inp 2) .nil)))))))))))) (.isb none (.bv 2) (.done [] (some (.cst (.bool true))))))))))))) (.isb none (.bv 0) (.isb none (.cst (.bool true)) (.done [] (some (.cst (.bool true))))))))))) h52_3 .skip) h52_2)
@[simp] theorem h52_4_wp {P : Program} {F : PF P} {Q : EX → List Value → World → Prop} {env : List Value} {w : World} : h52_4.wp F Q env w = HC.wp F (.seq (.br (.chk none (.bin .lss) (.cons (.inp 1) (.cons (.cst (.int .i64 1)) .nil)) (.bnd (.op (.bin .lss) (.cons (.inp 1) (.cons (.cst (.int .i64 1)) .nil))) (.chk (some ((.bv 0), false)) .chkp (.cons (.inp 0) .nil) (.chk (some ((.bv 0), false)) (.fld 1) (.cons (.op .chkp (.cons (.inp 0) .nil)) .nil) (.ite (.bv 0) false (.eff (.ld false 1) (.cons (.ite (.bv 0) false (.op (.fld 1) (.cons (.op .chkp (.cons (.inp 0) .nil)) .nil)) (.cst (.tuple #[]))) .nil) (.chk none .lenL (.cons (.bv 1) .nil) (.chk none (.bin .gtr) (.cons (.ite (.bv 0) false (.inp 1) (.cst (.tuple #[]))) (.cons (.op .lenL (.cons (.bv 1) .nil)) .nil)) (.isb none (.bv 0) (.bnd (.op (.bin .gtr) (.cons (.ite (.bv 0) false (.inp 1) (.cst (.tuple #[]))) (.cons (.op .lenL (.cons (.bv 1) .nil)) .nil))) (.chk (some ((.bv 2), false)) .chkp (.cons (.inp 0) .nil) (.chk (some ((.bv 2), false)) (.fld 1) (.cons (.op .chkp (.cons (.inp 0) .nil)) .nil) (.ite (.bv 2) false (.eff (.ld false 1) (.cons (.ite (.bv 2) false (.op (.fld 1) (.cons (.op .chkp (.cons (.inp 0) .nil)) .nil)) (.cst (.tuple #[]))) .nil) (.chk none (.bin .sub) (.cons (.inp 1) (.cons (.cst (.int .i64 1)) .nil)) (.chk none (.idxL 4) (.cons (.bv 3) (.cons (.op (.bin .sub) (.cons (.inp 1) (.cons (.cst (.int .i64 1)) .nil))) .nil)) (.eff (.ld true 4) (.cons (.op (.idxL 4) (.cons (.bv 3) (.cons (.op (.bin .sub) (.cons (.inp 1) (.cons (.cst (.int .i64 1)) .nil))) .nil))) .nil) (.eff (.call 35) (.cons (.bv 4) .nil) (.chk none (.eqB true) (.cons (.bv 5) (.cons (.inp 2) .nil)) (.isb none (.bv 2) (.done [] (some (.op (.eqB true) (.cons (.bv 5) (.cons (.inp 2) .nil)))))))))))) (.isb none (.bv 2) (.done [] (some (.cst (.bool true))))))))))))) (.isb none (.bv 0) (.isb none (.cst (.bool true)) (.done [] (some (.cst (.bool true))))))))))) h52_3 .skip) h52_2) Q env w := rfl
def l52 : Lifted := ⟨[0, 1, 2, 3, 4, 10, 11], 53, [.slot 5], (.seq (.reg (.done [(5, (.cst (.int .i64 0)))] none)) h52_4)⟩
theorem l52_ok : liftFn G1 52 400 = some l52 := by kernel_rfl

-- (*bazaar/goods.Goods).Move
def h29_0 : HC := (.seq (.reg (.eff (.call 52) (.cons (.inp 0) (.cons (.inp 1) (.cons (.cst (.bool false)) (.cons (.inp 2) (.cons (.cst (.int .i64 0)) .nil))))) (.done [(3, (.bv 0))] none))) .ret)
@[simp] theorem h29_0_wp {P : Program} {F : PF P} {Q : EX → List Value → World → Prop} {env : List Value} {w : World} : h29_0.wp F Q env w = HC.wp F (.seq (.reg (.eff (.call 52) (.cons (.inp 0) (.cons (.inp 1) (.cons (.cst (.bool false)) (.cons (.inp 2) (.cons (.cst (.int .i64 0)) .nil))))) (.done [(3, (.bv 0))] none))) .ret) Q env w := rfl
def h29_1 : HC := (.seq (.reg (.done [(3, (.cst (.int .i64 1)))] none)) .ret)
@[simp] theorem h29_1_wp {P : Program} {F : PF P} {Q : EX → List Value → World → Prop} {env : List Value} {w : World} : h29_1.wp F Q env w = HC.wp F (.seq (.reg (.done [(3, (.cst (.int .i64 1)))] none)) .ret) Q env w := rfl
def h29_2 : HC := (.seq (.reg (.done [(3, (.cst (.int .i64 2)))] none)) .ret)
@[simp] theorem h29_2_wp {P : Program} {F : PF P} {Q : EX → List Value → World → Prop} {env : List Value} {w : World} : h29_2.wp F Q env w = HC.wp F (.seq (.reg (.done [(3, (.cst (.int .i64 2)))] none)) .ret) Q env w := rfl
def h29_3 : HC := (.br (.chk none (.cal 36) (.cons (.inp 2) .nil) (.chk none (.un .not) (.cons (.op (.cal 36) (.cons (.inp 2) .nil)) .nil) (.done [] (some (.op (.un .not) (.cons (.op (.cal 36) (.cons (.inp 2) .nil)) .nil)))))) h29_2 .skip)
@[simp] theorem h29_3_wp {P : Program} {F : PF P} {Q : EX → List Value → World → Prop} {env : List Value} {w : World} : h29_3.wp F Q env w = HC.wp F (.br (.chk none (.cal 36) (.cons (.inp 2) .nil) (.chk none (.un .not) (.cons (.op (.cal 36) (.cons (.inp 2) .nil)) .nil) (.done [] (some (.op (.un .not) (.cons (.op (.cal 36) (.cons (.inp 2) .nil)) .nil)))))) h29_2 .skip) Q env w := rfl
def h29_4 : HC := (.br (.chk none (.eqNil false (.pointer 71) (.pointer none)) (.cons (.inp 0) .nil) (.done [] (some (.op (.eqNil false (.pointer 71) (.pointer none)) (.cons (.inp 0) .nil))))) h29_1 h29_3)
@[simp] theorem h29_4_wp {P : Program} {F : PF P} {Q : EX → List Value → World → Prop} {env : List Value} {w : World} : h29_4.wp F Q env w = HC.wp F (.br (.chk none (.eqNil false (.pointer 71) (.pointer none)) (.cons (.inp 0) .nil) (.done [] (some (.op (.eqNil false (.pointer 71) (.pointer none)) (.cons (.inp 0) .nil))))) h29_1 h29_3) Q env w := rfl
def h29_5 : HC := (.seq (.block 0 h29_4) h29_0)
@[simp] theorem h29_5_wp {P : Program} {F : PF P} {Q : EX → List Value → World → Prop} {env : List Value} {w : World} : h29_5.wp F Q env w = HC.wp F (.seq (.block 0 h29_4) h29_0) Q env w := rfl
def l29 : Lifted := ⟨[0, 1, 2, 6], 18, [.slot 3], (.seq (.reg (.done [(3, (.cst (.int .i64 0)))] none)) h29_5)⟩
theorem l29_ok : liftFn G1 29 400 = some l29 := by kernel_rfl

-- (*bazaar/goods.Goods).Hold
def h27_0 : HC := (.seq (.reg (.eff (.call 52) (.cons (.inp 0) (.cons (.inp 1) (.cons (.cst (.bool false)) (.cons (.cst (.int .i64 (-1))) (.cons (.inp 2) .nil))))) (.done [(3, (.bv 0))] none))) .ret)
@[simp] theorem h27_0_wp {P : Program} {F : PF P} {Q : EX → List Value → World → Prop} {env : List Value} {w : World} : h27_0.wp F Q env w = HC.wp F (.seq (.reg (.eff (.call 52) (.cons (.inp 0) (.cons (.inp 1) (.cons (.cst (.bool false)) (.cons (.cst (.int .i64 (-1))) (.cons (.inp 2) .nil))))) (.done [(3, (.bv 0))] none))) .ret) Q env w := rfl
def h27_1 : HC := (.seq (.reg (.done [(3, (.cst (.int .i64 1)))] none)) .ret)
@[simp] theorem h27_1_wp {P : Program} {F : PF P} {Q : EX → List Value → World → Prop} {env : List Value} {w : World} : h27_1.wp F Q env w = HC.wp F (.seq (.reg (.done [(3, (.cst (.int .i64 1)))] none)) .ret) Q env w := rfl
def h27_2 : HC := (.seq (.reg (.done [(3, (.cst (.int .i64 2)))] none)) .ret)
@[simp] theorem h27_2_wp {P : Program} {F : PF P} {Q : EX → List Value → World → Prop} {env : List Value} {w : World} : h27_2.wp F Q env w = HC.wp F (.seq (.reg (.done [(3, (.cst (.int .i64 2)))] none)) .ret) Q env w := rfl
def h27_3 : HC := (.br (.chk none (.bin .lss) (.cons (.inp 2) (.cons (.cst (.int .i64 1)) .nil)) (.done [] (some (.op (.bin .lss) (.cons (.inp 2) (.cons (.cst (.int .i64 1)) .nil)))))) h27_2 .skip)
@[simp] theorem h27_3_wp {P : Program} {F : PF P} {Q : EX → List Value → World → Prop} {env : List Value} {w : World} : h27_3.wp F Q env w = HC.wp F (.br (.chk none (.bin .lss) (.cons (.inp 2) (.cons (.cst (.int .i64 1)) .nil)) (.done [] (some (.op (.bin .lss) (.cons (.inp 2) (.cons (.cst (.int .i64 1)) .nil)))))) h27_2 .skip) Q env w := rfl
def h27_4 : HC := (.br (.chk none (.eqNil false (.pointer 71) (.pointer none)) (.cons (.inp 0) .nil) (.done [] (some (.op (.eqNil false (.pointer 71) (.pointer none)) (.cons (.inp 0) .nil))))) h27_1 h27_3)
@[simp] theorem h27_4_wp {P : Program} {F : PF P} {Q : EX → List Value → World → Prop} {env : List Value} {w : World} : h27_4.wp F Q env w = HC.wp F (.br (.chk none (.eqNil false (.pointer 71) (.pointer none)) (.cons (.inp 0) .nil) (.done [] (some (.op (.eqNil false (.pointer 71) (.pointer none)) (.cons (.inp 0) .nil))))) h27_1 h27_3) Q env w := rfl
def h27_5 : HC := (.seq (.block 0 h27_4) h27_0)
@[simp] theorem h27_5_wp {P : Program} {F : PF P} {Q : EX → List Value → World → Prop} {env : List Value} {w : World} : h27_5.wp F Q env w = HC.wp F (.seq (.block 0 h27_4) h27_0) Q env w := rfl
def l27 : Lifted := ⟨[0, 1, 2, 6], 17, [.slot 3], (.seq (.reg (.done [(3, (.cst (.int .i64 0)))] none)) h27_5)⟩
theorem l27_ok : liftFn G1 27 400 = some l27 := by kernel_rfl

-- (*bazaar/goods.Goods).Free
def h28_0 : HC := (.seq (.reg (.eff (.call 52) (.cons (.inp 0) (.cons (.inp 1) (.cons (.cst (.bool true)) (.cons (.inp 2) (.cons (.cst (.int .i64 0)) .nil))))) (.done [(3, (.bv 0))] none))) .ret)
@[simp] theorem h28_0_wp {P : Program} {F : PF P} {Q : EX → List Value → World → Prop} {env : List Value} {w : World} : h28_0.wp F Q env w = HC.wp F (.seq (.reg (.eff (.call 52) (.cons (.inp 0) (.cons (.inp 1) (.cons (.cst (.bool true)) (.cons (.inp 2) (.cons (.cst (.int .i64 0)) .nil))))) (.done [(3, (.bv 0))] none))) .ret) Q env w := rfl
def h28_1 : HC := (.seq (.reg (.done [(3, (.cst (.int .i64 1)))] none)) .ret)
@[simp] theorem h28_1_wp {P : Program} {F : PF P} {Q : EX → List Value → World → Prop} {env : List Value} {w : World} : h28_1.wp F Q env w = HC.wp F (.seq (.reg (.done [(3, (.cst (.int .i64 1)))] none)) .ret) Q env w := rfl
def h28_2 : HC := (.seq (.reg (.done [(3, (.cst (.int .i64 2)))] none)) .ret)
@[simp] theorem h28_2_wp {P : Program} {F : PF P} {Q : EX → List Value → World → Prop} {env : List Value} {w : World} : h28_2.wp F Q env w = HC.wp F (.seq (.reg (.done [(3, (.cst (.int .i64 2)))] none)) .ret) Q env w := rfl
def h28_3 : HC := (.br (.chk none (.cal 36) (.cons (.inp 2) .nil) (.chk none (.un .not) (.cons (.op (.cal 36) (.cons (.inp 2) .nil)) .nil) (.done [] (some (.op (.un .not) (.cons (.op (.cal 36) (.cons (.inp 2) .nil)) .nil)))))) h28_2 .skip)
@[simp] theorem h28_3_wp {P : Program} {F : PF P} {Q : EX → List Value → World → Prop} {env : List Value} {w : World} : h28_3.wp F Q env w = HC.wp F (.br (.chk none (.cal 36) (.cons (.inp 2) .nil) (.chk none (.un .not) (.cons (.op (.cal 36) (.cons (.inp 2) .nil)) .nil) (.done [] (some (.op (.un .not) (.cons (.op (.cal 36) (.cons (.inp 2) .nil)) .nil)))))) h28_2 .skip) Q env w := rfl
def h28_4 : HC := (.br (.chk none (.eqNil false (.pointer 71) (.pointer none)) (.cons (.inp 0) .nil) (.done [] (some (.op (.eqNil false (.pointer 71) (.pointer none)) (.cons (.inp 0) .nil))))) h28_1 h28_3)
@[simp] theorem h28_4_wp {P : Program} {F : PF P} {Q : EX → List Value → World → Prop} {env : List Value} {w : World} : h28_4.wp F Q env w = HC.wp F (.br (.chk none (.eqNil false (.pointer 71) (.pointer none)) (.cons (.inp 0) .nil) (.done [] (some (.op (.eqNil false (.pointer 71) (.pointer none)) (.cons (.inp 0) .nil))))) h28_1 h28_3) Q env w := rfl
def h28_5 : HC := (.seq (.block 0 h28_4) h28_0)
@[simp] theorem h28_5_wp {P : Program} {F : PF P} {Q : EX → List Value → World → Prop} {env : List Value} {w : World} : h28_5.wp F Q env w = HC.wp F (.seq (.block 0 h28_4) h28_0) Q env w := rfl
def l28 : Lifted := ⟨[0, 1, 2, 6], 18, [.slot 3], (.seq (.reg (.done [(3, (.cst (.int .i64 0)))] none)) h28_5)⟩
theorem l28_ok : liftFn G1 28 400 = some l28 := by kernel_rfl


theorem held_spec (x : It) (w0 w : World) (A : Asn) (s : St w0 A w) :
    CallW Try.prog 35 [.agg x.cs.toArray] (fun r w' => r = .bool (decide (0 < x.con)) ∧ St w0 A w') w := by
  refine callW_of_lift l35_ok (by simp [l35]) ?_
  simp [l35]
  refine eff_box s ?_
  intro b w1 s1
  simp
  refine eff_ldc (v := .int .i64 x.con) ?_ ?_
  · rw [cell_of s1.look]; rfl
  simp
  exact s1.drop
theorem New_spec (lim : Int) (w0 w : World) (A : Asn) (s : St w0 A w) :
    CallW Try.prog 8 [.int .i64 lim] (fun r w' => if 0 ≤ lim ∧ lim ≤ 512 then ∃ p, r = .tuple #[.pointer (some ⟨p, 0, none⟩), .int .i64 0] ∧ St w0 (A * gds p lim []) w' else r = .tuple #[.pointer none, .int .i64 2] ∧ St w0 A w') w := by
  refine callW_of_lift l8_ok (by simp [l8]) ?_
  simp [l8]
  refine cndI (fun h => ?_) (fun h => ?_)
  · simp at h
    have : ¬ (0 ≤ lim ∧ lim ≤ 512) := by omega
    simp [this]
    exact s
  · simp at h
    simp [h, Instr.fill, Value.cells]
    refine eff_box s ?_
    intro b w1 s1
    simp
    refine gclose (v := .slice none 0 0) ?_
    exact s1.own_nil _ _
theorem Limit_spec (p : Nat) (lim : Int) (its : List It) (w0 w : World) (A : Asn) (s : St w0 (A * gds p lim its) w) :
    CallW Try.prog 18 [.pointer (some ⟨p, 0, none⟩)] (fun r w' => r = .int .i64 lim ∧ St w0 (A * gds p lim its) w') w := by
  refine callW_of_lift l18_ok (by simp [l18]) ?_
  simp [l18]
  obtain ⟨v, s1⟩ := gopen s
  refine eff_ldc (v := .int .i64 lim) (by rw [cell_of s1.swap.look]; rfl) ?_
  simp
  exact s
theorem Len_spec (p : Nat) (lim : Int) (its : List It) (w0 w : World) (A : Asn) (s : St w0 (A * gds p lim its) w) :
    CallW Try.prog 30 [.pointer (some ⟨p, 0, none⟩)] (fun r w' => r = .int .i64 its.length ∧ St w0 (A * gds p lim its) w') w := by
  refine callW_of_lift l30_ok (by simp [l30]) ?_
  simp [l30]
  obtain ⟨v, s1⟩ := gopen s
  obtain ⟨a, cap, rfl, _⟩ := s1.own_val
  refine eff_ldc (v := .slice a its.length cap) (by rw [cell_of s1.swap.look]; rfl) ?_
  simp
  exact s
def makeF (lim : Int) (its : List It) (k a : Int) : Int × Int × List It :=
  if accF a = false then (0, 2, its) else if kindF k = false then (0, 152, its) else if lim ≤ its.length then (0, 150, its) else (its.length + 1, 0, its ++ [⟨its.length + 1, k, a, 0⟩])
theorem Make_spec (p : Nat) (lim : Int) (its : List It) (k a : Int) (w0 w : World) (A : Asn) (hl : lim ≤ 512) (s : St w0 (A * gds p lim its) w) :
    CallW Try.prog 26 [.pointer (some ⟨p, 0, none⟩), .int .i64 k, .int .i64 a]
      (fun r w' => r = .tuple #[.int .i64 (makeF lim its k a).1, .int .i64 (makeF lim its k a).2.1] ∧ St w0 (A * gds p lim (makeF lim its k a).2.2) w') w := by
  refine callW_of_lift l26_ok (by simp [l26]) ?_
  simp [l26]
  refine cndI (fun h1 => ?_) (fun h1 => ?_)
  · simp at h1
    simp [makeF, h1]
    exact s
  simp at h1
  simp
  refine cndI (fun h2 => ?_) (fun h2 => ?_)
  · simp at h2
    simp [makeF, h1, h2]
    exact s
  simp at h2
  simp
  obtain ⟨v, s1⟩ := gopen s
  obtain ⟨b, cap, rfl, _⟩ := s1.own_val
  refine brqI s1 ?_
  simp
  refine effq_ldc (v := .slice b its.length cap) (fun w' s' => by rw [cell_of s'.swap.look]; rfl) ?_
  simp
  refine effq_ldc (v := .int .i64 lim) (fun w' s' => by rw [cell_of s'.swap.look]; rfl) ?_
  simp
  intro w2 s2
  refine cndI (fun h3 => ?_) (fun h3 => ?_)
  · simp at h3
    simp [makeF, h1, h2, h3]
    exact gclose s2
  simp at h3
  have h3' : ¬ lim ≤ its.length := by omega
  simp
  refine eff_ldc (v := .slice b its.length cap) (by rw [cell_of s2.swap.look]; rfl) ?_
  have hw : IntKind.i64.wrap (its.length + 1) = its.length + 1 := wrap64 (by omega) (by omega)
  simp [hw]
  refine eff_ldc (v := .slice b its.length cap) (by rw [cell_of s2.swap.look]; rfl) ?_
  simp [Instr.fill, Value.cells]
  refine eff_bslV s2 rfl ?_
  intro c w3 s3
  simp
  refine eff_app (m := 1) (news := It.cs ⟨its.length + 1, k, a, 0⟩) s3.swap rfl s3.cells_look (cs_one _) (by decide) rfl (by unfold maxLen; omega) (by omega) ?_
  intro v' w4 s4
  simp
  refine eff_st1 s4.p3 ?_ (by simp) ?_
  · rcases s4.own_val with ⟨_, _, rfl, _⟩; rfl
  intro w5 s5
  simp [makeF, h1, h2, h3']
  refine gclose (v := v') ?_
  have e : flat its ++ It.cs ⟨its.length + 1, k, a, 0⟩ = flat (its ++ [⟨its.length + 1, k, a, 0⟩]) := by simp [flat]
  rw [e] at s5
  simpa using s5.p3.drop.swap
def putF (its : List It) (item : Int) (held : Bool) (acc con : Int) : Int × List It :=
  if 1 ≤ item ∧ item ≤ its.length then
    if decide (0 < (its.getD (item.toNat - 1) ⟨0, 0, 0, 0⟩).con) = held then
      (0, its.set (item.toNat - 1) ⟨(its.getD (item.toNat - 1) ⟨0, 0, 0, 0⟩).num, (its.getD (item.toNat - 1) ⟨0, 0, 0, 0⟩).kind, acc, con⟩)
    else (151, its)
  else (151, its)
theorem put_spec (p : Nat) (lim : Int) (its : List It) (item : Int) (held : Bool) (acc con : Int) (w0 w : World) (A : Asn) (hl : its.length ≤ 1048576) (s : St w0 (A * gds p lim its) w) :
    CallW Try.prog 52 [.pointer (some ⟨p, 0, none⟩), .int .i64 item, .bool held, .int .i64 acc, .int .i64 con]
      (fun r w' => r = .int .i64 (putF its item held acc con).1 ∧ St w0 (A * gds p lim (putF its item held acc con).2) w') w := by
  refine callW_of_lift l52_ok (by simp [l52]) ?_
  simp [l52]
  by_cases h1 : item < 1
  · have : ¬ (1 ≤ item ∧ item ≤ its.length) := by omega
    simp [h1, putF, this]
    exact s
  obtain ⟨v, s1⟩ := gopen s
  obtain ⟨b, cap, rfl, _⟩ := s1.own_val
  simp [h1]
  refine eff_ldc (v := .slice b its.length cap) (by rw [cell_of s1.swap.look]; rfl) ?_
  by_cases h2 : its.length < item
  · have : ¬ (1 ≤ item ∧ item ≤ its.length) := by omega
    simp [h2, putF, this]
    exact s
  simp [h2]
  obtain ⟨i, rfl⟩ : ∃ i : Nat, item = i + 1 := ⟨item.toNat - 1, by omega⟩
  have hi : i < its.length := by omega
  obtain ⟨g, cap', hv, _, hc⟩ := s1.own_at (by omega)
  cases hv
  refine eff_ldc (v := .slice (some ⟨g, 0, none⟩) its.length cap) (by rw [cell_of s1.swap.look]; rfl) ?_
  have hw : IntKind.i64.wrap (i : Int) = i := wrap64 (by omega) (by omega)
  simp [hw, hi]
  refine eff_ldcs (vs := its[i].cs) (fun j u hu => hc _ _ (flat_at hi j u hu)) rfl ?_
  simp
  refine eff_call ((held_spec its[i] w0 w _ s1).mono ?_)
  rintro r w2 ⟨rfl, s2⟩
  simp
  have hp : putF its (i + 1) held acc con = if decide (0 < its[i].con) = held then (0, its.set i ⟨its[i].num, its[i].kind, acc, con⟩) else (151, its) := by
    unfold putF
    rw [if_pos (by omega)]
    have : ((i : Int) + 1).toNat - 1 = i := by omega
    simp [this, hi]
  refine cndI (fun h3 => ?_) (fun h3 => ?_)
  · have e3 : ¬ decide (0 < its[i].con) = held := by simpa using h3
    rw [hp, if_neg e3]
    simp
    exact gclose s2
  have e3 : decide (0 < its[i].con) = held := by simpa using h3
  rw [hp, if_pos e3]
  simp
  refine eff_ldc (v := .slice (some ⟨g, 0, none⟩) its.length cap) (by rw [cell_of s2.swap.look]; rfl) ?_
  simp [hw, hi]
  have hfl := flat_len its
  refine eff_stC s2 (by omega) rfl ?_
  intro w3 s3
  simp
  refine eff_stC s3 (by rw [List.length_set]; omega) rfl ?_
  intro w4 s4
  simp
  rw [flat_set2 hi] at s4
  refine gclose (v := .slice (some ⟨g, 0, none⟩) its.length cap) ?_
  simpa using s4
def moveF (its : List It) (item a : Int) : Int × List It := if accF a = true then putF its item false a 0 else (2, its)
def holdF (its : List It) (item c : Int) : Int × List It := if c < 1 then (2, its) else putF its item false (-1) c
def freeF (its : List It) (item a : Int) : Int × List It := if accF a = true then putF its item true a 0 else (2, its)
theorem Move_spec (p : Nat) (lim : Int) (its : List It) (item a : Int) (w0 w : World) (A : Asn) (hl : its.length ≤ 1048576) (s : St w0 (A * gds p lim its) w) :
    CallW Try.prog 29 [.pointer (some ⟨p, 0, none⟩), .int .i64 item, .int .i64 a]
      (fun r w' => r = .int .i64 (moveF its item a).1 ∧ St w0 (A * gds p lim (moveF its item a).2) w') w := by
  refine callW_of_lift l29_ok (by simp [l29]) ?_
  simp [l29]
  refine cndI (fun h1 => ?_) (fun h1 => ?_)
  · simp at h1
    simp [moveF, h1]
    exact s
  simp at h1
  simp
  refine eff_call ((put_spec p lim its item false a 0 w0 w A hl s).mono ?_)
  rintro r w1 ⟨rfl, s1⟩
  simp [moveF, h1]
  exact s1
theorem Hold_spec (p : Nat) (lim : Int) (its : List It) (item c : Int) (w0 w : World) (A : Asn) (hl : its.length ≤ 1048576) (s : St w0 (A * gds p lim its) w) :
    CallW Try.prog 27 [.pointer (some ⟨p, 0, none⟩), .int .i64 item, .int .i64 c]
      (fun r w' => r = .int .i64 (holdF its item c).1 ∧ St w0 (A * gds p lim (holdF its item c).2) w') w := by
  refine callW_of_lift l27_ok (by simp [l27]) ?_
  simp [l27]
  refine cndI (fun h1 => ?_) (fun h1 => ?_)
  · simp at h1
    simp [holdF, h1]
    exact s
  simp at h1
  simp
  refine eff_call ((put_spec p lim its item false (-1) c w0 w A hl s).mono ?_)
  rintro r w1 ⟨rfl, s1⟩
  have : ¬ c < 1 := by omega
  simp [holdF, this]
  exact s1
theorem Free_spec (p : Nat) (lim : Int) (its : List It) (item a : Int) (w0 w : World) (A : Asn) (hl : its.length ≤ 1048576) (s : St w0 (A * gds p lim its) w) :
    CallW Try.prog 28 [.pointer (some ⟨p, 0, none⟩), .int .i64 item, .int .i64 a]
      (fun r w' => r = .int .i64 (freeF its item a).1 ∧ St w0 (A * gds p lim (freeF its item a).2) w') w := by
  refine callW_of_lift l28_ok (by simp [l28]) ?_
  simp [l28]
  refine cndI (fun h1 => ?_) (fun h1 => ?_)
  · simp at h1
    simp [freeF, h1]
    exact s
  simp at h1
  simp
  refine eff_call ((put_spec p lim its item true a 0 w0 w A hl s).mono ?_)
  rintro r w1 ⟨rfl, s1⟩
  simp [freeF, h1]
  exact s1
end Go.HL.Gd
