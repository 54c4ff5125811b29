/-
  The functions of the packages name and bazaarref04 that only compute: each answers what its plain law says, and leaves memory as it is. No condition.
-/
import Derived.Test.YtjecnlekmmkbmaaNmA
import Derived.Test.YtjecnlekmmkbmaaProg
namespace Go.HL.Nm
open Go.HL Go.Proofs
set_option maxRecDepth 4000
set_option linter.unusedSimpArgs false
set_option linter.unusedVariables false
noncomputable abbrev F0 : PF Try.prog := PF.none _
-- bazaar/bazaarref04.tail
def h45_0 : HC := (.seq (.reg (.done [(4, (.inp 3)), (5, (.cst (.bool true)))] none)) .ret)
@[simp] theorem h45_0_wp {P : Program} {F : PF P} {Q : EX → List Value → World → Prop} {env : List Value} {w : World} : h45_0.wp F Q env w = HC.wp F (.seq (.reg (.done [(4, (.inp 3)), (5, (.cst (.bool true)))] none)) .ret) Q env w := rfl
def h45_1 : HC := (.reg (.chk none (.bin .add) (.cons (.inp 6) (.cons (.cst (.int .i64 1)) .nil)) (.done [(6, (.op (.bin .add) (.cons (.inp 6) (.cons (.cst (.int .i64 1)) .nil))))] none)))
@[simp] theorem h45_1_wp {P : Program} {F : PF P} {Q : EX → List Value → World → Prop} {env : List Value} {w : World} : h45_1.wp F Q env w = HC.wp F (.reg (.chk none (.bin .add) (.cons (.inp 6) (.cons (.cst (.int .i64 1)) .nil)) (.done [(6, (.op (.bin .add) (.cons (.inp 6) (.cons (.cst (.int .i64 1)) .nil))))] none))) Q env w := rfl
def h45_2 : HC := (.reg (.chk none (.bin .mul) (.cons (.inp 3) (.cons (.cst (.int .i64 64)) .nil)) (.chk none (.bin .add) (.cons (.inp 1) (.cons (.inp 6) .nil)) (.chk none .chS (.cons (.inp 0) (.cons (.op (.bin .add) (.cons (.inp 1) (.cons (.inp 6) .nil))) .nil)) (.chk none (.convI .i64) (.cons (.op .chS (.cons (.inp 0) (.cons (.op (.bin .add) (.cons (.inp 1) (.cons (.inp 6) .nil))) .nil))) .nil) (.chk none (.bin .add) (.cons (.op (.bin .mul) (.cons (.inp 3) (.cons (.cst (.int .i64 64)) .nil))) (.cons (.op (.convI .i64) (.cons (.op .chS (.cons (.inp 0) (.cons (.op (.bin .add) (.cons (.inp 1) (.cons (.inp 6) .nil))) .nil))) .nil)) .nil)) (.chk none (.bin .sub) (.cons (.op (.bin .add) (.cons (.op (.bin .mul) (.cons (.inp 3) (.cons (.cst (.int .i64 64)) .nil))) (.cons (.op (.convI .i64) (.cons (.op .chS (.cons (.inp 0) (.cons (.op (.bin .add) (.cons (.inp 1) (.cons (.inp 6) .nil))) .nil))) .nil)) .nil))) (.cons (.cst (.int .i64 128)) .nil)) (.done [(3, (.op (.bin .sub) (.cons (.op (.bin .add) (.cons (.op (.bin .mul) (.cons (.inp 3) (.cons (.cst (.int .i64 64)) .nil))) (.cons (.op (.convI .i64) (.cons (.op .chS (.cons (.inp 0) (.cons (.op (.bin .add) (.cons (.inp 1) (.cons (.inp 6) .nil))) .nil))) .nil)) .nil))) (.cons (.cst (.int .i64 128)) .nil))))] none))))))))
@[simp] theorem h45_2_wp {P : Program} {F : PF P} {Q : EX → List Value → World → Prop} {env : List Value} {w : World} : h45_2.wp F Q env w = HC.wp F (.reg (.chk none (.bin .mul) (.cons (.inp 3) (.cons (.cst (.int .i64 64)) .nil)) (.chk none (.bin .add) (.cons (.inp 1) (.cons (.inp 6) .nil)) (.chk none .chS (.cons (.inp 0) (.cons (.op (.bin .add) (.cons (.inp 1) (.cons (.inp 6) .nil))) .nil)) (.chk none (.convI .i64) (.cons (.op .chS (.cons (.inp 0) (.cons (.op (.bin .add) (.cons (.inp 1) (.cons (.inp 6) .nil))) .nil))) .nil) (.chk none (.bin .add) (.cons (.op (.bin .mul) (.cons (.inp 3) (.cons (.cst (.int .i64 64)) .nil))) (.cons (.op (.convI .i64) (.cons (.op .chS (.cons (.inp 0) (.cons (.op (.bin .add) (.cons (.inp 1) (.cons (.inp 6) .nil))) .nil))) .nil)) .nil)) (.chk none (.bin .sub) (.cons (.op (.bin .add) (.cons (.op (.bin .mul) (.cons (.inp 3) (.cons (.cst (.int .i64 64)) .nil))) (.cons (.op (.convI .i64) (.cons (.op .chS (.cons (.inp 0) (.cons (.op (.bin .add) (.cons (.inp 1) (.cons (.inp 6) .nil))) .nil))) .nil)) .nil))) (.cons (.cst (.int .i64 128)) .nil)) (.done [(3, (.op (.bin .sub) (.cons (.op (.bin .add) (.cons (.op (.bin .mul) (.cons (.inp 3) (.cons (.cst (.int .i64 64)) .nil))) (.cons (.op (.convI .i64) (.cons (.op .chS (.cons (.inp 0) (.cons (.op (.bin .add) (.cons (.inp 1) (.cons (.inp 6) .nil))) .nil))) .nil)) .nil))) (.cons (.cst (.int .i64 128)) .nil))))] none)))))))) Q env w := rfl
def h45_3 : HC := (.seq (.reg (.done [(4, (.cst (.int .i64 0))), (5, (.cst (.bool false)))] none)) .ret)
@[simp] theorem h45_3_wp {P : Program} {F : PF P} {Q : EX → List Value → World → Prop} {env : List Value} {w : World} : h45_3.wp F Q env w = HC.wp F (.seq (.reg (.done [(4, (.cst (.int .i64 0))), (5, (.cst (.bool false)))] none)) .ret) Q env w := rfl
def h45_4 : HC := (.seq (.br (.chk none (.bin .add) (.cons (.inp 1) (.cons (.inp 6) .nil)) (.chk none .lenS (.cons (.inp 0) .nil) (.chk none (.bin .geq) (.cons (.op (.bin .add) (.cons (.inp 1) (.cons (.inp 6) .nil))) (.cons (.op .lenS (.cons (.inp 0) .nil)) .nil)) (.bnd (.op (.bin .geq) (.cons (.op (.bin .add) (.cons (.inp 1) (.cons (.inp 6) .nil))) (.cons (.op .lenS (.cons (.inp 0) .nil)) .nil))) (.chk (some ((.bv 0), false)) (.bin .add) (.cons (.inp 1) (.cons (.inp 6) .nil)) (.chk (some ((.bv 0), false)) .chS (.cons (.inp 0) (.cons (.op (.bin .add) (.cons (.inp 1) (.cons (.inp 6) .nil))) .nil)) (.chk (some ((.bv 0), false)) (.bin .lss) (.cons (.op .chS (.cons (.inp 0) (.cons (.op (.bin .add) (.cons (.inp 1) (.cons (.inp 6) .nil))) .nil))) (.cons (.cst (.int .u8 128)) .nil)) (.isb none (.bv 0) (.bnd (.ite (.bv 0) true (.cst (.bool true)) (.op (.bin .lss) (.cons (.op .chS (.cons (.inp 0) (.cons (.op (.bin .add) (.cons (.inp 1) (.cons (.inp 6) .nil))) .nil))) (.cons (.cst (.int .u8 128)) .nil)))) (.chk (some ((.bv 1), false)) (.bin .add) (.cons (.inp 1) (.cons (.inp 6) .nil)) (.chk (some ((.bv 1), false)) .chS (.cons (.inp 0) (.cons (.op (.bin .add) (.cons (.inp 1) (.cons (.inp 6) .nil))) .nil)) (.chk (some ((.bv 1), false)) (.bin .gtr) (.cons (.op .chS (.cons (.inp 0) (.cons (.op (.bin .add) (.cons (.inp 1) (.cons (.inp 6) .nil))) .nil))) (.cons (.cst (.int .u8 191)) .nil)) (.isb none (.bv 1) (.done [] (some (.ite (.bv 1) true (.cst (.bool true)) (.op (.bin .gtr) (.cons (.op .chS (.cons (.inp 0) (.cons (.op (.bin .add) (.cons (.inp 1) (.cons (.inp 6) .nil))) .nil))) (.cons (.cst (.int .u8 191)) .nil))))))))))))))))))) h45_3 .skip) h45_2)
@[simp] theorem h45_4_wp {P : Program} {F : PF P} {Q : EX → List Value → World → Prop} {env : List Value} {w : World} : h45_4.wp F Q env w = HC.wp F (.seq (.br (.chk none (.bin .add) (.cons (.inp 1) (.cons (.inp 6) .nil)) (.chk none .lenS (.cons (.inp 0) .nil) (.chk none (.bin .geq) (.cons (.op (.bin .add) (.cons (.inp 1) (.cons (.inp 6) .nil))) (.cons (.op .lenS (.cons (.inp 0) .nil)) .nil)) (.bnd (.op (.bin .geq) (.cons (.op (.bin .add) (.cons (.inp 1) (.cons (.inp 6) .nil))) (.cons (.op .lenS (.cons (.inp 0) .nil)) .nil))) (.chk (some ((.bv 0), false)) (.bin .add) (.cons (.inp 1) (.cons (.inp 6) .nil)) (.chk (some ((.bv 0), false)) .chS (.cons (.inp 0) (.cons (.op (.bin .add) (.cons (.inp 1) (.cons (.inp 6) .nil))) .nil)) (.chk (some ((.bv 0), false)) (.bin .lss) (.cons (.op .chS (.cons (.inp 0) (.cons (.op (.bin .add) (.cons (.inp 1) (.cons (.inp 6) .nil))) .nil))) (.cons (.cst (.int .u8 128)) .nil)) (.isb none (.bv 0) (.bnd (.ite (.bv 0) true (.cst (.bool true)) (.op (.bin .lss) (.cons (.op .chS (.cons (.inp 0) (.cons (.op (.bin .add) (.cons (.inp 1) (.cons (.inp 6) .nil))) .nil))) (.cons (.cst (.int .u8 128)) .nil)))) (.chk (some ((.bv 1), false)) (.bin .add) (.cons (.inp 1) (.cons (.inp 6) .nil)) (.chk (some ((.bv 1), false)) .chS (.cons (.inp 0) (.cons (.op (.bin .add) (.cons (.inp 1) (.cons (.inp 6) .nil))) .nil)) (.chk (some ((.bv 1), false)) (.bin .gtr) (.cons (.op .chS (.cons (.inp 0) (.cons (.op (.bin .add) (.cons (.inp 1) (.cons (.inp 6) .nil))) .nil))) (.cons (.cst (.int .u8 191)) .nil)) (.isb none (.bv 1) (.done [] (some (.ite (.bv 1) true (.cst (.bool true)) (.op (.bin .gtr) (.cons (.op .chS (.cons (.inp 0) (.cons (.op (.bin .add) (.cons (.inp 1) (.cons (.inp 6) .nil))) .nil))) (.cons (.cst (.int .u8 191)) .nil))))))))))))))))))) h45_3 .skip) h45_2) Q env w := rfl
def h45_5 : HC := (.seq (.block 1 h45_4) h45_1)
@[simp] theorem h45_5_wp {P : Program} {F : PF P} {Q : EX → List Value → World → Prop} {env : List Value} {w : World} : h45_5.wp F Q env w = HC.wp F (.seq (.block 1 h45_4) h45_1) Q env w := rfl
def h45_6 : HC := (.seq (.br (.chk none (.bin .leq) (.cons (.inp 6) (.cons (.inp 2) .nil)) (.done [] (some (.op (.bin .leq) (.cons (.inp 6) (.cons (.inp 2) .nil)))))) .skip (.exit 0)) h45_5)
@[simp] theorem h45_6_wp {P : Program} {F : PF P} {Q : EX → List Value → World → Prop} {env : List Value} {w : World} : h45_6.wp F Q env w = HC.wp F (.seq (.br (.chk none (.bin .leq) (.cons (.inp 6) (.cons (.inp 2) .nil)) (.done [] (some (.op (.bin .leq) (.cons (.inp 6) (.cons (.inp 2) .nil)))))) .skip (.exit 0)) h45_5) Q env w := rfl
def h45_7 : HC := (.loop h45_6)
@[simp] theorem h45_7_wp {P : Program} {F : PF P} {Q : EX → List Value → World → Prop} {env : List Value} {w : World} : h45_7.wp F Q env w = HC.wp F (.loop h45_6) Q env w := rfl
def h45_8 : HC := (.seq (.block 0 h45_7) h45_0)
@[simp] theorem h45_8_wp {P : Program} {F : PF P} {Q : EX → List Value → World → Prop} {env : List Value} {w : World} : h45_8.wp F Q env w = HC.wp F (.seq (.block 0 h45_7) h45_0) Q env w := rfl
def h45_9 : HC := (.seq (.reg (.done [(6, (.cst (.int .i64 1)))] none)) h45_8)
@[simp] theorem h45_9_wp {P : Program} {F : PF P} {Q : EX → List Value → World → Prop} {env : List Value} {w : World} : h45_9.wp F Q env w = HC.wp F (.seq (.reg (.done [(6, (.cst (.int .i64 1)))] none)) h45_8) Q env w := rfl
def l45 : Lifted := ⟨[0, 1, 2, 3, 8, 9, 10], 49, [.slot 4, .slot 5], (.seq (.reg (.done [(4, (.cst (.int .i64 0))), (5, (.cst (.bool false)))] none)) h45_9)⟩
theorem l45_ok : liftFn F0 45 400 = some l45 := by kernel_rfl

-- bazaar/bazaarref04.in
def h44_0 : HC := (.seq (.reg (.chk none (.bin .geq) (.cons (.inp 0) (.cons (.inp 1) .nil)) (.bnd (.op (.bin .geq) (.cons (.inp 0) (.cons (.inp 1) .nil))) (.chk (some ((.bv 0), true)) (.bin .leq) (.cons (.inp 0) (.cons (.inp 2) .nil)) (.isb none (.bv 0) (.done [(3, (.ite (.bv 0) true (.op (.bin .leq) (.cons (.inp 0) (.cons (.inp 2) .nil))) (.cst (.bool false))))] none)))))) .ret)
@[simp] theorem h44_0_wp {P : Program} {F : PF P} {Q : EX → List Value → World → Prop} {env : List Value} {w : World} : h44_0.wp F Q env w = HC.wp F (.seq (.reg (.chk none (.bin .geq) (.cons (.inp 0) (.cons (.inp 1) .nil)) (.bnd (.op (.bin .geq) (.cons (.inp 0) (.cons (.inp 1) .nil))) (.chk (some ((.bv 0), true)) (.bin .leq) (.cons (.inp 0) (.cons (.inp 2) .nil)) (.isb none (.bv 0) (.done [(3, (.ite (.bv 0) true (.op (.bin .leq) (.cons (.inp 0) (.cons (.inp 2) .nil))) (.cst (.bool false))))] none)))))) .ret) Q env w := rfl
def l44 : Lifted := ⟨[0, 1, 2, 6], 15, [.slot 3], (.seq (.reg (.done [(3, (.cst (.bool false)))] none)) h44_0)⟩
theorem l44_ok : liftFn F0 44 400 = some l44 := by kernel_rfl

-- bazaar/bazaarref04.Joiner
def h28_0 : HC := (.seq (.reg (.chk none (.bin .eql) (.cons (.inp 0) (.cons (.cst (.int .i64 32)) .nil)) (.bnd (.op (.bin .eql) (.cons (.inp 0) (.cons (.cst (.int .i64 32)) .nil))) (.chk (some ((.bv 0), false)) (.bin .eql) (.cons (.inp 0) (.cons (.cst (.int .i64 45)) .nil)) (.isb none (.bv 0) (.bnd (.ite (.bv 0) true (.cst (.bool true)) (.op (.bin .eql) (.cons (.inp 0) (.cons (.cst (.int .i64 45)) .nil)))) (.chk (some ((.bv 1), false)) (.bin .eql) (.cons (.inp 0) (.cons (.cst (.int .i64 95)) .nil)) (.isb none (.bv 1) (.done [(1, (.ite (.bv 1) true (.cst (.bool true)) (.op (.bin .eql) (.cons (.inp 0) (.cons (.cst (.int .i64 95)) .nil)))))] none))))))))) .ret)
@[simp] theorem h28_0_wp {P : Program} {F : PF P} {Q : EX → List Value → World → Prop} {env : List Value} {w : World} : h28_0.wp F Q env w = HC.wp F (.seq (.reg (.chk none (.bin .eql) (.cons (.inp 0) (.cons (.cst (.int .i64 32)) .nil)) (.bnd (.op (.bin .eql) (.cons (.inp 0) (.cons (.cst (.int .i64 32)) .nil))) (.chk (some ((.bv 0), false)) (.bin .eql) (.cons (.inp 0) (.cons (.cst (.int .i64 45)) .nil)) (.isb none (.bv 0) (.bnd (.ite (.bv 0) true (.cst (.bool true)) (.op (.bin .eql) (.cons (.inp 0) (.cons (.cst (.int .i64 45)) .nil)))) (.chk (some ((.bv 1), false)) (.bin .eql) (.cons (.inp 0) (.cons (.cst (.int .i64 95)) .nil)) (.isb none (.bv 1) (.done [(1, (.ite (.bv 1) true (.cst (.bool true)) (.op (.bin .eql) (.cons (.inp 0) (.cons (.cst (.int .i64 95)) .nil)))))] none))))))))) .ret) Q env w := rfl
def l28 : Lifted := ⟨[0, 2], 13, [.slot 1], (.seq (.reg (.done [(1, (.cst (.bool false)))] none)) h28_0)⟩
theorem l28_ok : liftFn F0 28 400 = some l28 := by kernel_rfl

-- bazaar/name.joiner
def h33_0 : HC := (.seq (.reg (.chk none (.bin .eql) (.cons (.inp 0) (.cons (.cst (.int .i32 32)) .nil)) (.bnd (.op (.bin .eql) (.cons (.inp 0) (.cons (.cst (.int .i32 32)) .nil))) (.chk (some ((.bv 0), false)) (.bin .eql) (.cons (.inp 0) (.cons (.cst (.int .i32 45)) .nil)) (.isb none (.bv 0) (.bnd (.ite (.bv 0) true (.cst (.bool true)) (.op (.bin .eql) (.cons (.inp 0) (.cons (.cst (.int .i32 45)) .nil)))) (.chk (some ((.bv 1), false)) (.bin .eql) (.cons (.inp 0) (.cons (.cst (.int .i32 95)) .nil)) (.isb none (.bv 1) (.done [(1, (.ite (.bv 1) true (.cst (.bool true)) (.op (.bin .eql) (.cons (.inp 0) (.cons (.cst (.int .i32 95)) .nil)))))] none))))))))) .ret)
@[simp] theorem h33_0_wp {P : Program} {F : PF P} {Q : EX → List Value → World → Prop} {env : List Value} {w : World} : h33_0.wp F Q env w = HC.wp F (.seq (.reg (.chk none (.bin .eql) (.cons (.inp 0) (.cons (.cst (.int .i32 32)) .nil)) (.bnd (.op (.bin .eql) (.cons (.inp 0) (.cons (.cst (.int .i32 32)) .nil))) (.chk (some ((.bv 0), false)) (.bin .eql) (.cons (.inp 0) (.cons (.cst (.int .i32 45)) .nil)) (.isb none (.bv 0) (.bnd (.ite (.bv 0) true (.cst (.bool true)) (.op (.bin .eql) (.cons (.inp 0) (.cons (.cst (.int .i32 45)) .nil)))) (.chk (some ((.bv 1), false)) (.bin .eql) (.cons (.inp 0) (.cons (.cst (.int .i32 95)) .nil)) (.isb none (.bv 1) (.done [(1, (.ite (.bv 1) true (.cst (.bool true)) (.op (.bin .eql) (.cons (.inp 0) (.cons (.cst (.int .i32 95)) .nil)))))] none))))))))) .ret) Q env w := rfl
def l33 : Lifted := ⟨[0, 2], 13, [.slot 1], (.seq (.reg (.done [(1, (.cst (.bool false)))] none)) h33_0)⟩
theorem l33_ok : liftFn F0 33 400 = some l33 := by kernel_rfl

-- bazaar/name.letter
def h32_0 : HC := (.seq (.reg (.chk none (.bin .geq) (.cons (.inp 0) (.cons (.cst (.int .i32 945)) .nil)) (.bnd (.op (.bin .geq) (.cons (.inp 0) (.cons (.cst (.int .i32 945)) .nil))) (.chk (some ((.bv 0), true)) (.bin .leq) (.cons (.inp 0) (.cons (.cst (.int .i32 969)) .nil)) (.isb none (.bv 0) (.bnd (.ite (.bv 0) true (.op (.bin .leq) (.cons (.inp 0) (.cons (.cst (.int .i32 969)) .nil))) (.cst (.bool false))) (.chk (some ((.bv 1), false)) (.bin .geq) (.cons (.inp 0) (.cons (.cst (.int .i32 1040)) .nil)) (.bnd (.ite (.bv 1) false (.op (.bin .geq) (.cons (.inp 0) (.cons (.cst (.int .i32 1040)) .nil))) (.cst (.tuple #[]))) (.chk (some ((.bv 2), true)) (.bin .leq) (.cons (.inp 0) (.cons (.cst (.int .i32 1103)) .nil)) (.isb (some ((.bv 1), false)) (.bv 2) (.isb none (.bv 1) (.bnd (.ite (.bv 1) true (.cst (.bool true)) (.ite (.bv 2) true (.op (.bin .leq) (.cons (.inp 0) (.cons (.cst (.int .i32 1103)) .nil))) (.cst (.bool false)))) (.chk (some ((.bv 3), false)) (.bin .eql) (.cons (.inp 0) (.cons (.cst (.int .i32 1025)) .nil)) (.isb none (.bv 3) (.bnd (.ite (.bv 3) true (.cst (.bool true)) (.op (.bin .eql) (.cons (.inp 0) (.cons (.cst (.int .i32 1025)) .nil)))) (.chk (some ((.bv 4), false)) (.bin .eql) (.cons (.inp 0) (.cons (.cst (.int .i32 1105)) .nil)) (.isb none (.bv 4) (.done [(1, (.ite (.bv 4) true (.cst (.bool true)) (.op (.bin .eql) (.cons (.inp 0) (.cons (.cst (.int .i32 1105)) .nil)))))] none)))))))))))))))))) .ret)
@[simp] theorem h32_0_wp {P : Program} {F : PF P} {Q : EX → List Value → World → Prop} {env : List Value} {w : World} : h32_0.wp F Q env w = HC.wp F (.seq (.reg (.chk none (.bin .geq) (.cons (.inp 0) (.cons (.cst (.int .i32 945)) .nil)) (.bnd (.op (.bin .geq) (.cons (.inp 0) (.cons (.cst (.int .i32 945)) .nil))) (.chk (some ((.bv 0), true)) (.bin .leq) (.cons (.inp 0) (.cons (.cst (.int .i32 969)) .nil)) (.isb none (.bv 0) (.bnd (.ite (.bv 0) true (.op (.bin .leq) (.cons (.inp 0) (.cons (.cst (.int .i32 969)) .nil))) (.cst (.bool false))) (.chk (some ((.bv 1), false)) (.bin .geq) (.cons (.inp 0) (.cons (.cst (.int .i32 1040)) .nil)) (.bnd (.ite (.bv 1) false (.op (.bin .geq) (.cons (.inp 0) (.cons (.cst (.int .i32 1040)) .nil))) (.cst (.tuple #[]))) (.chk (some ((.bv 2), true)) (.bin .leq) (.cons (.inp 0) (.cons (.cst (.int .i32 1103)) .nil)) (.isb (some ((.bv 1), false)) (.bv 2) (.isb none (.bv 1) (.bnd (.ite (.bv 1) true (.cst (.bool true)) (.ite (.bv 2) true (.op (.bin .leq) (.cons (.inp 0) (.cons (.cst (.int .i32 1103)) .nil))) (.cst (.bool false)))) (.chk (some ((.bv 3), false)) (.bin .eql) (.cons (.inp 0) (.cons (.cst (.int .i32 1025)) .nil)) (.isb none (.bv 3) (.bnd (.ite (.bv 3) true (.cst (.bool true)) (.op (.bin .eql) (.cons (.inp 0) (.cons (.cst (.int .i32 1025)) .nil)))) (.chk (some ((.bv 4), false)) (.bin .eql) (.cons (.inp 0) (.cons (.cst (.int .i32 1105)) .nil)) (.isb none (.bv 4) (.done [(1, (.ite (.bv 4) true (.cst (.bool true)) (.op (.bin .eql) (.cons (.inp 0) (.cons (.cst (.int .i32 1105)) .nil)))))] none)))))))))))))))))) .ret) Q env w := rfl
def h32_1 : HC := (.seq (.reg (.done [(1, (.cst (.bool true)))] none)) .ret)
@[simp] theorem h32_1_wp {P : Program} {F : PF P} {Q : EX → List Value → World → Prop} {env : List Value} {w : World} : h32_1.wp F Q env w = HC.wp F (.seq (.reg (.done [(1, (.cst (.bool true)))] none)) .ret) Q env w := rfl
def h32_2 : HC := (.seq (.reg (.chk none (.bin .neq) (.cons (.inp 0) (.cons (.cst (.int .i32 215)) .nil)) (.bnd (.op (.bin .neq) (.cons (.inp 0) (.cons (.cst (.int .i32 215)) .nil))) (.chk (some ((.bv 0), true)) (.bin .neq) (.cons (.inp 0) (.cons (.cst (.int .i32 247)) .nil)) (.isb none (.bv 0) (.done [(1, (.ite (.bv 0) true (.op (.bin .neq) (.cons (.inp 0) (.cons (.cst (.int .i32 247)) .nil))) (.cst (.bool false))))] none)))))) .ret)
@[simp] theorem h32_2_wp {P : Program} {F : PF P} {Q : EX → List Value → World → Prop} {env : List Value} {w : World} : h32_2.wp F Q env w = HC.wp F (.seq (.reg (.chk none (.bin .neq) (.cons (.inp 0) (.cons (.cst (.int .i32 215)) .nil)) (.bnd (.op (.bin .neq) (.cons (.inp 0) (.cons (.cst (.int .i32 215)) .nil))) (.chk (some ((.bv 0), true)) (.bin .neq) (.cons (.inp 0) (.cons (.cst (.int .i32 247)) .nil)) (.isb none (.bv 0) (.done [(1, (.ite (.bv 0) true (.op (.bin .neq) (.cons (.inp 0) (.cons (.cst (.int .i32 247)) .nil))) (.cst (.bool false))))] none)))))) .ret) Q env w := rfl
def h32_3 : HC := (.seq (.reg (.chk none (.bin .neq) (.cons (.inp 0) (.cons (.cst (.int .i32 930)) .nil)) (.done [(1, (.op (.bin .neq) (.cons (.inp 0) (.cons (.cst (.int .i32 930)) .nil))))] none))) .ret)
@[simp] theorem h32_3_wp {P : Program} {F : PF P} {Q : EX → List Value → World → Prop} {env : List Value} {w : World} : h32_3.wp F Q env w = HC.wp F (.seq (.reg (.chk none (.bin .neq) (.cons (.inp 0) (.cons (.cst (.int .i32 930)) .nil)) (.done [(1, (.op (.bin .neq) (.cons (.inp 0) (.cons (.cst (.int .i32 930)) .nil))))] none))) .ret) Q env w := rfl
def h32_4 : HC := (.br (.chk none (.bin .geq) (.cons (.inp 0) (.cons (.cst (.int .i32 913)) .nil)) (.bnd (.op (.bin .geq) (.cons (.inp 0) (.cons (.cst (.int .i32 913)) .nil))) (.chk (some ((.bv 0), true)) (.bin .leq) (.cons (.inp 0) (.cons (.cst (.int .i32 937)) .nil)) (.isb none (.bv 0) (.done [] (some (.ite (.bv 0) true (.op (.bin .leq) (.cons (.inp 0) (.cons (.cst (.int .i32 937)) .nil))) (.cst (.bool false))))))))) h32_3 .skip)
@[simp] theorem h32_4_wp {P : Program} {F : PF P} {Q : EX → List Value → World → Prop} {env : List Value} {w : World} : h32_4.wp F Q env w = HC.wp F (.br (.chk none (.bin .geq) (.cons (.inp 0) (.cons (.cst (.int .i32 913)) .nil)) (.bnd (.op (.bin .geq) (.cons (.inp 0) (.cons (.cst (.int .i32 913)) .nil))) (.chk (some ((.bv 0), true)) (.bin .leq) (.cons (.inp 0) (.cons (.cst (.int .i32 937)) .nil)) (.isb none (.bv 0) (.done [] (some (.ite (.bv 0) true (.op (.bin .leq) (.cons (.inp 0) (.cons (.cst (.int .i32 937)) .nil))) (.cst (.bool false))))))))) h32_3 .skip) Q env w := rfl
def h32_5 : HC := (.br (.chk none (.bin .geq) (.cons (.inp 0) (.cons (.cst (.int .i32 192)) .nil)) (.bnd (.op (.bin .geq) (.cons (.inp 0) (.cons (.cst (.int .i32 192)) .nil))) (.chk (some ((.bv 0), true)) (.bin .leq) (.cons (.inp 0) (.cons (.cst (.int .i32 255)) .nil)) (.isb none (.bv 0) (.done [] (some (.ite (.bv 0) true (.op (.bin .leq) (.cons (.inp 0) (.cons (.cst (.int .i32 255)) .nil))) (.cst (.bool false))))))))) h32_2 h32_4)
@[simp] theorem h32_5_wp {P : Program} {F : PF P} {Q : EX → List Value → World → Prop} {env : List Value} {w : World} : h32_5.wp F Q env w = HC.wp F (.br (.chk none (.bin .geq) (.cons (.inp 0) (.cons (.cst (.int .i32 192)) .nil)) (.bnd (.op (.bin .geq) (.cons (.inp 0) (.cons (.cst (.int .i32 192)) .nil))) (.chk (some ((.bv 0), true)) (.bin .leq) (.cons (.inp 0) (.cons (.cst (.int .i32 255)) .nil)) (.isb none (.bv 0) (.done [] (some (.ite (.bv 0) true (.op (.bin .leq) (.cons (.inp 0) (.cons (.cst (.int .i32 255)) .nil))) (.cst (.bool false))))))))) h32_2 h32_4) Q env w := rfl
def h32_6 : HC := (.cnd 2 h32_1 h32_5)
@[simp] theorem h32_6_wp {P : Program} {F : PF P} {Q : EX → List Value → World → Prop} {env : List Value} {w : World} : h32_6.wp F Q env w = HC.wp F (.cnd 2 h32_1 h32_5) Q env w := rfl
def h32_7 : HC := (.reg (.chk none (.bin .geq) (.cons (.inp 0) (.cons (.cst (.int .i32 97)) .nil)) (.bnd (.op (.bin .geq) (.cons (.inp 0) (.cons (.cst (.int .i32 97)) .nil))) (.chk (some ((.bv 0), true)) (.bin .leq) (.cons (.inp 0) (.cons (.cst (.int .i32 122)) .nil)) (.isb none (.bv 0) (.done [(2, (.ite (.bv 0) true (.op (.bin .leq) (.cons (.inp 0) (.cons (.cst (.int .i32 122)) .nil))) (.cst (.bool false))))] none))))))
@[simp] theorem h32_7_wp {P : Program} {F : PF P} {Q : EX → List Value → World → Prop} {env : List Value} {w : World} : h32_7.wp F Q env w = HC.wp F (.reg (.chk none (.bin .geq) (.cons (.inp 0) (.cons (.cst (.int .i32 97)) .nil)) (.bnd (.op (.bin .geq) (.cons (.inp 0) (.cons (.cst (.int .i32 97)) .nil))) (.chk (some ((.bv 0), true)) (.bin .leq) (.cons (.inp 0) (.cons (.cst (.int .i32 122)) .nil)) (.isb none (.bv 0) (.done [(2, (.ite (.bv 0) true (.op (.bin .leq) (.cons (.inp 0) (.cons (.cst (.int .i32 122)) .nil))) (.cst (.bool false))))] none)))))) Q env w := rfl
def h32_8 : HC := (.cnd 2 .skip h32_7)
@[simp] theorem h32_8_wp {P : Program} {F : PF P} {Q : EX → List Value → World → Prop} {env : List Value} {w : World} : h32_8.wp F Q env w = HC.wp F (.cnd 2 .skip h32_7) Q env w := rfl
def h32_9 : HC := (.seq (.reg (.chk none (.bin .geq) (.cons (.inp 0) (.cons (.cst (.int .i32 65)) .nil)) (.bnd (.op (.bin .geq) (.cons (.inp 0) (.cons (.cst (.int .i32 65)) .nil))) (.chk (some ((.bv 0), true)) (.bin .leq) (.cons (.inp 0) (.cons (.cst (.int .i32 90)) .nil)) (.isb none (.bv 0) (.done [(2, (.ite (.bv 0) true (.op (.bin .leq) (.cons (.inp 0) (.cons (.cst (.int .i32 90)) .nil))) (.cst (.bool false))))] none)))))) h32_8)
@[simp] theorem h32_9_wp {P : Program} {F : PF P} {Q : EX → List Value → World → Prop} {env : List Value} {w : World} : h32_9.wp F Q env w = HC.wp F (.seq (.reg (.chk none (.bin .geq) (.cons (.inp 0) (.cons (.cst (.int .i32 65)) .nil)) (.bnd (.op (.bin .geq) (.cons (.inp 0) (.cons (.cst (.int .i32 65)) .nil))) (.chk (some ((.bv 0), true)) (.bin .leq) (.cons (.inp 0) (.cons (.cst (.int .i32 90)) .nil)) (.isb none (.bv 0) (.done [(2, (.ite (.bv 0) true (.op (.bin .leq) (.cons (.inp 0) (.cons (.cst (.int .i32 90)) .nil))) (.cst (.bool false))))] none)))))) h32_8) Q env w := rfl
def h32_10 : HC := (.seq (.cnd 2 .skip h32_9) h32_6)
@[simp] theorem h32_10_wp {P : Program} {F : PF P} {Q : EX → List Value → World → Prop} {env : List Value} {w : World} : h32_10.wp F Q env w = HC.wp F (.seq (.cnd 2 .skip h32_9) h32_6) Q env w := rfl
def h32_11 : HC := (.seq (.reg (.chk none (.bin .geq) (.cons (.inp 0) (.cons (.cst (.int .i32 48)) .nil)) (.bnd (.op (.bin .geq) (.cons (.inp 0) (.cons (.cst (.int .i32 48)) .nil))) (.chk (some ((.bv 0), true)) (.bin .leq) (.cons (.inp 0) (.cons (.cst (.int .i32 57)) .nil)) (.isb none (.bv 0) (.done [(2, (.ite (.bv 0) true (.op (.bin .leq) (.cons (.inp 0) (.cons (.cst (.int .i32 57)) .nil))) (.cst (.bool false))))] none)))))) h32_10)
@[simp] theorem h32_11_wp {P : Program} {F : PF P} {Q : EX → List Value → World → Prop} {env : List Value} {w : World} : h32_11.wp F Q env w = HC.wp F (.seq (.reg (.chk none (.bin .geq) (.cons (.inp 0) (.cons (.cst (.int .i32 48)) .nil)) (.bnd (.op (.bin .geq) (.cons (.inp 0) (.cons (.cst (.int .i32 48)) .nil))) (.chk (some ((.bv 0), true)) (.bin .leq) (.cons (.inp 0) (.cons (.cst (.int .i32 57)) .nil)) (.isb none (.bv 0) (.done [(2, (.ite (.bv 0) true (.op (.bin .leq) (.cons (.inp 0) (.cons (.cst (.int .i32 57)) .nil))) (.cst (.bool false))))] none)))))) h32_10) Q env w := rfl
def h32_12 : HC := (.seq (.block 0 h32_11) h32_0)
@[simp] theorem h32_12_wp {P : Program} {F : PF P} {Q : EX → List Value → World → Prop} {env : List Value} {w : World} : h32_12.wp F Q env w = HC.wp F (.seq (.block 0 h32_11) h32_0) Q env w := rfl
def l32 : Lifted := ⟨[0, 2, 3], 66, [.slot 1], (.seq (.reg (.done [(1, (.cst (.bool false)))] none)) h32_12)⟩
theorem l32_ok : liftFn F0 32 400 = some l32 := by kernel_rfl

-- bazaar/name.fold
def h48_0 : HC := (.seq (.reg (.done [(1, (.inp 0))] none)) .ret)
@[simp] theorem h48_0_wp {P : Program} {F : PF P} {Q : EX → List Value → World → Prop} {env : List Value} {w : World} : h48_0.wp F Q env w = HC.wp F (.seq (.reg (.done [(1, (.inp 0))] none)) .ret) Q env w := rfl
def h48_1 : HC := (.seq (.reg (.chk none (.bin .add) (.cons (.inp 0) (.cons (.cst (.int .i32 32)) .nil)) (.done [(1, (.op (.bin .add) (.cons (.inp 0) (.cons (.cst (.int .i32 32)) .nil))))] none))) .ret)
@[simp] theorem h48_1_wp {P : Program} {F : PF P} {Q : EX → List Value → World → Prop} {env : List Value} {w : World} : h48_1.wp F Q env w = HC.wp F (.seq (.reg (.chk none (.bin .add) (.cons (.inp 0) (.cons (.cst (.int .i32 32)) .nil)) (.done [(1, (.op (.bin .add) (.cons (.inp 0) (.cons (.cst (.int .i32 32)) .nil))))] none))) .ret) Q env w := rfl
def h48_2 : HC := (.seq (.reg (.done [(1, (.cst (.int .i32 1105)))] none)) .ret)
@[simp] theorem h48_2_wp {P : Program} {F : PF P} {Q : EX → List Value → World → Prop} {env : List Value} {w : World} : h48_2.wp F Q env w = HC.wp F (.seq (.reg (.done [(1, (.cst (.int .i32 1105)))] none)) .ret) Q env w := rfl
def h48_3 : HC := (.seq (.reg (.done [(1, (.cst (.int .i32 963)))] none)) .ret)
@[simp] theorem h48_3_wp {P : Program} {F : PF P} {Q : EX → List Value → World → Prop} {env : List Value} {w : World} : h48_3.wp F Q env w = HC.wp F (.seq (.reg (.done [(1, (.cst (.int .i32 963)))] none)) .ret) Q env w := rfl
def h48_4 : HC := (.br (.chk none (.bin .eql) (.cons (.inp 0) (.cons (.cst (.int .i32 962)) .nil)) (.done [] (some (.op (.bin .eql) (.cons (.inp 0) (.cons (.cst (.int .i32 962)) .nil)))))) h48_3 .skip)
@[simp] theorem h48_4_wp {P : Program} {F : PF P} {Q : EX → List Value → World → Prop} {env : List Value} {w : World} : h48_4.wp F Q env w = HC.wp F (.br (.chk none (.bin .eql) (.cons (.inp 0) (.cons (.cst (.int .i32 962)) .nil)) (.done [] (some (.op (.bin .eql) (.cons (.inp 0) (.cons (.cst (.int .i32 962)) .nil)))))) h48_3 .skip) Q env w := rfl
def h48_5 : HC := (.br (.chk none (.bin .eql) (.cons (.inp 0) (.cons (.cst (.int .i32 1025)) .nil)) (.done [] (some (.op (.bin .eql) (.cons (.inp 0) (.cons (.cst (.int .i32 1025)) .nil)))))) h48_2 h48_4)
@[simp] theorem h48_5_wp {P : Program} {F : PF P} {Q : EX → List Value → World → Prop} {env : List Value} {w : World} : h48_5.wp F Q env w = HC.wp F (.br (.chk none (.bin .eql) (.cons (.inp 0) (.cons (.cst (.int .i32 1025)) .nil)) (.done [] (some (.op (.bin .eql) (.cons (.inp 0) (.cons (.cst (.int .i32 1025)) .nil)))))) h48_2 h48_4) Q env w := rfl
def h48_6 : HC := (.cnd 2 h48_1 h48_5)
@[simp] theorem h48_6_wp {P : Program} {F : PF P} {Q : EX → List Value → World → Prop} {env : List Value} {w : World} : h48_6.wp F Q env w = HC.wp F (.cnd 2 h48_1 h48_5) Q env w := rfl
def h48_7 : HC := (.reg (.chk none (.bin .geq) (.cons (.inp 0) (.cons (.cst (.int .i32 1040)) .nil)) (.bnd (.op (.bin .geq) (.cons (.inp 0) (.cons (.cst (.int .i32 1040)) .nil))) (.chk (some ((.bv 0), true)) (.bin .leq) (.cons (.inp 0) (.cons (.cst (.int .i32 1071)) .nil)) (.isb none (.bv 0) (.done [(2, (.ite (.bv 0) true (.op (.bin .leq) (.cons (.inp 0) (.cons (.cst (.int .i32 1071)) .nil))) (.cst (.bool false))))] none))))))
@[simp] theorem h48_7_wp {P : Program} {F : PF P} {Q : EX → List Value → World → Prop} {env : List Value} {w : World} : h48_7.wp F Q env w = HC.wp F (.reg (.chk none (.bin .geq) (.cons (.inp 0) (.cons (.cst (.int .i32 1040)) .nil)) (.bnd (.op (.bin .geq) (.cons (.inp 0) (.cons (.cst (.int .i32 1040)) .nil))) (.chk (some ((.bv 0), true)) (.bin .leq) (.cons (.inp 0) (.cons (.cst (.int .i32 1071)) .nil)) (.isb none (.bv 0) (.done [(2, (.ite (.bv 0) true (.op (.bin .leq) (.cons (.inp 0) (.cons (.cst (.int .i32 1071)) .nil))) (.cst (.bool false))))] none)))))) Q env w := rfl
def h48_8 : HC := (.cnd 2 .skip h48_7)
@[simp] theorem h48_8_wp {P : Program} {F : PF P} {Q : EX → List Value → World → Prop} {env : List Value} {w : World} : h48_8.wp F Q env w = HC.wp F (.cnd 2 .skip h48_7) Q env w := rfl
def h48_9 : HC := (.seq (.reg (.chk none (.bin .geq) (.cons (.inp 0) (.cons (.cst (.int .i32 913)) .nil)) (.bnd (.op (.bin .geq) (.cons (.inp 0) (.cons (.cst (.int .i32 913)) .nil))) (.chk (some ((.bv 0), true)) (.bin .leq) (.cons (.inp 0) (.cons (.cst (.int .i32 937)) .nil)) (.isb none (.bv 0) (.bnd (.ite (.bv 0) true (.op (.bin .leq) (.cons (.inp 0) (.cons (.cst (.int .i32 937)) .nil))) (.cst (.bool false))) (.chk (some ((.bv 1), true)) (.bin .neq) (.cons (.inp 0) (.cons (.cst (.int .i32 930)) .nil)) (.isb none (.bv 1) (.done [(2, (.ite (.bv 1) true (.op (.bin .neq) (.cons (.inp 0) (.cons (.cst (.int .i32 930)) .nil))) (.cst (.bool false))))] none))))))))) h48_8)
@[simp] theorem h48_9_wp {P : Program} {F : PF P} {Q : EX → List Value → World → Prop} {env : List Value} {w : World} : h48_9.wp F Q env w = HC.wp F (.seq (.reg (.chk none (.bin .geq) (.cons (.inp 0) (.cons (.cst (.int .i32 913)) .nil)) (.bnd (.op (.bin .geq) (.cons (.inp 0) (.cons (.cst (.int .i32 913)) .nil))) (.chk (some ((.bv 0), true)) (.bin .leq) (.cons (.inp 0) (.cons (.cst (.int .i32 937)) .nil)) (.isb none (.bv 0) (.bnd (.ite (.bv 0) true (.op (.bin .leq) (.cons (.inp 0) (.cons (.cst (.int .i32 937)) .nil))) (.cst (.bool false))) (.chk (some ((.bv 1), true)) (.bin .neq) (.cons (.inp 0) (.cons (.cst (.int .i32 930)) .nil)) (.isb none (.bv 1) (.done [(2, (.ite (.bv 1) true (.op (.bin .neq) (.cons (.inp 0) (.cons (.cst (.int .i32 930)) .nil))) (.cst (.bool false))))] none))))))))) h48_8) Q env w := rfl
def h48_10 : HC := (.cnd 2 .skip h48_9)
@[simp] theorem h48_10_wp {P : Program} {F : PF P} {Q : EX → List Value → World → Prop} {env : List Value} {w : World} : h48_10.wp F Q env w = HC.wp F (.cnd 2 .skip h48_9) Q env w := rfl
def h48_11 : HC := (.seq (.reg (.chk none (.bin .geq) (.cons (.inp 0) (.cons (.cst (.int .i32 192)) .nil)) (.bnd (.op (.bin .geq) (.cons (.inp 0) (.cons (.cst (.int .i32 192)) .nil))) (.chk (some ((.bv 0), true)) (.bin .leq) (.cons (.inp 0) (.cons (.cst (.int .i32 222)) .nil)) (.isb none (.bv 0) (.bnd (.ite (.bv 0) true (.op (.bin .leq) (.cons (.inp 0) (.cons (.cst (.int .i32 222)) .nil))) (.cst (.bool false))) (.chk (some ((.bv 1), true)) (.bin .neq) (.cons (.inp 0) (.cons (.cst (.int .i32 215)) .nil)) (.isb none (.bv 1) (.done [(2, (.ite (.bv 1) true (.op (.bin .neq) (.cons (.inp 0) (.cons (.cst (.int .i32 215)) .nil))) (.cst (.bool false))))] none))))))))) h48_10)
@[simp] theorem h48_11_wp {P : Program} {F : PF P} {Q : EX → List Value → World → Prop} {env : List Value} {w : World} : h48_11.wp F Q env w = HC.wp F (.seq (.reg (.chk none (.bin .geq) (.cons (.inp 0) (.cons (.cst (.int .i32 192)) .nil)) (.bnd (.op (.bin .geq) (.cons (.inp 0) (.cons (.cst (.int .i32 192)) .nil))) (.chk (some ((.bv 0), true)) (.bin .leq) (.cons (.inp 0) (.cons (.cst (.int .i32 222)) .nil)) (.isb none (.bv 0) (.bnd (.ite (.bv 0) true (.op (.bin .leq) (.cons (.inp 0) (.cons (.cst (.int .i32 222)) .nil))) (.cst (.bool false))) (.chk (some ((.bv 1), true)) (.bin .neq) (.cons (.inp 0) (.cons (.cst (.int .i32 215)) .nil)) (.isb none (.bv 1) (.done [(2, (.ite (.bv 1) true (.op (.bin .neq) (.cons (.inp 0) (.cons (.cst (.int .i32 215)) .nil))) (.cst (.bool false))))] none))))))))) h48_10) Q env w := rfl
def h48_12 : HC := (.seq (.cnd 2 .skip h48_11) h48_6)
@[simp] theorem h48_12_wp {P : Program} {F : PF P} {Q : EX → List Value → World → Prop} {env : List Value} {w : World} : h48_12.wp F Q env w = HC.wp F (.seq (.cnd 2 .skip h48_11) h48_6) Q env w := rfl
def h48_13 : HC := (.seq (.reg (.chk none (.bin .geq) (.cons (.inp 0) (.cons (.cst (.int .i32 65)) .nil)) (.bnd (.op (.bin .geq) (.cons (.inp 0) (.cons (.cst (.int .i32 65)) .nil))) (.chk (some ((.bv 0), true)) (.bin .leq) (.cons (.inp 0) (.cons (.cst (.int .i32 90)) .nil)) (.isb none (.bv 0) (.done [(2, (.ite (.bv 0) true (.op (.bin .leq) (.cons (.inp 0) (.cons (.cst (.int .i32 90)) .nil))) (.cst (.bool false))))] none)))))) h48_12)
@[simp] theorem h48_13_wp {P : Program} {F : PF P} {Q : EX → List Value → World → Prop} {env : List Value} {w : World} : h48_13.wp F Q env w = HC.wp F (.seq (.reg (.chk none (.bin .geq) (.cons (.inp 0) (.cons (.cst (.int .i32 65)) .nil)) (.bnd (.op (.bin .geq) (.cons (.inp 0) (.cons (.cst (.int .i32 65)) .nil))) (.chk (some ((.bv 0), true)) (.bin .leq) (.cons (.inp 0) (.cons (.cst (.int .i32 90)) .nil)) (.isb none (.bv 0) (.done [(2, (.ite (.bv 0) true (.op (.bin .leq) (.cons (.inp 0) (.cons (.cst (.int .i32 90)) .nil))) (.cst (.bool false))))] none)))))) h48_12) Q env w := rfl
def h48_14 : HC := (.seq (.block 0 h48_13) h48_0)
@[simp] theorem h48_14_wp {P : Program} {F : PF P} {Q : EX → List Value → World → Prop} {env : List Value} {w : World} : h48_14.wp F Q env w = HC.wp F (.seq (.block 0 h48_13) h48_0) Q env w := rfl
def l48 : Lifted := ⟨[0, 2, 3], 45, [.slot 1], (.seq (.reg (.done [(1, (.cst (.int .i32 0)))] none)) h48_14)⟩
theorem l48_ok : liftFn F0 48 400 = some l48 := by kernel_rfl

-- internal/stringslite.HasPrefix
def h53_0 : HC := (.seq (.reg (.chk none .lenS (.cons (.inp 0) .nil) (.chk none .lenS (.cons (.inp 1) .nil) (.chk none (.bin .geq) (.cons (.op .lenS (.cons (.inp 0) .nil)) (.cons (.op .lenS (.cons (.inp 1) .nil)) .nil)) (.bnd (.op (.bin .geq) (.cons (.op .lenS (.cons (.inp 0) .nil)) (.cons (.op .lenS (.cons (.inp 1) .nil)) .nil))) (.chk (some ((.bv 0), true)) .lenS (.cons (.inp 1) .nil) (.chk (some ((.bv 0), true)) (.slS false true) (.cons (.inp 0) (.cons (.op .lenS (.cons (.inp 1) .nil)) .nil)) (.chk (some ((.bv 0), true)) (.bin .eql) (.cons (.op (.slS false true) (.cons (.inp 0) (.cons (.op .lenS (.cons (.inp 1) .nil)) .nil))) (.cons (.inp 1) .nil)) (.isb none (.bv 0) (.done [(2, (.ite (.bv 0) true (.op (.bin .eql) (.cons (.op (.slS false true) (.cons (.inp 0) (.cons (.op .lenS (.cons (.inp 1) .nil)) .nil))) (.cons (.inp 1) .nil))) (.cst (.bool false))))] none)))))))))) .ret)
@[simp] theorem h53_0_wp {P : Program} {F : PF P} {Q : EX → List Value → World → Prop} {env : List Value} {w : World} : h53_0.wp F Q env w = HC.wp F (.seq (.reg (.chk none .lenS (.cons (.inp 0) .nil) (.chk none .lenS (.cons (.inp 1) .nil) (.chk none (.bin .geq) (.cons (.op .lenS (.cons (.inp 0) .nil)) (.cons (.op .lenS (.cons (.inp 1) .nil)) .nil)) (.bnd (.op (.bin .geq) (.cons (.op .lenS (.cons (.inp 0) .nil)) (.cons (.op .lenS (.cons (.inp 1) .nil)) .nil))) (.chk (some ((.bv 0), true)) .lenS (.cons (.inp 1) .nil) (.chk (some ((.bv 0), true)) (.slS false true) (.cons (.inp 0) (.cons (.op .lenS (.cons (.inp 1) .nil)) .nil)) (.chk (some ((.bv 0), true)) (.bin .eql) (.cons (.op (.slS false true) (.cons (.inp 0) (.cons (.op .lenS (.cons (.inp 1) .nil)) .nil))) (.cons (.inp 1) .nil)) (.isb none (.bv 0) (.done [(2, (.ite (.bv 0) true (.op (.bin .eql) (.cons (.op (.slS false true) (.cons (.inp 0) (.cons (.op .lenS (.cons (.inp 1) .nil)) .nil))) (.cons (.inp 1) .nil))) (.cst (.bool false))))] none)))))))))) .ret) Q env w := rfl
def l53 : Lifted := ⟨[0, 1, 4], 18, [.slot 2], (.seq (.reg (.done [(2, (.cst (.bool false)))] none)) h53_0)⟩
theorem l53_ok : liftFn F0 53 400 = some l53 := by kernel_rfl



theorem tail_spec (l : List UInt8) (i n : Nat) (v : Int) (w : World) (hi : i < l.length) (hn : n ≤ 3) (hv : 0 ≤ v) (hv2 : v < 32) (hl : l.length ≤ 1048576) :
    CallW Try.prog 45 [.string (mk l), .int .i64 i, .int .i64 n, .int .i64 v] (fun r w' =>
      r = (match tailF (l.drop (i + 1)) n v with | some u => .tuple #[.int .i64 u, .bool true] | none => .tuple #[.int .i64 0, .bool false]) ∧ w' = w) w := by
  refine callW_of_lift l45_ok (by simp [l45]) ?_
  simp [l45]
  refine loopI (fun env w' => ∃ (k : Nat) (x : Int), env = [.string (mk l), .int .i64 i, .int .i64 n, .int .i64 x, .int .i64 0, .bool false, .int .i64 (k + 1 : Nat)] ∧ w' = w ∧ k ≤ n ∧ 0 ≤ x ∧ x < 32 * 64 ^ k ∧
      tailF (l.drop (i + 1)) n v = tailF (l.drop (i + 1 + k)) (n - k) x) (fun env _ => 5 - slotN env 6) ⟨0, v, by simp, rfl, by omega, hv, by simpa using hv2, rfl⟩ ?_
  rintro LQ env w' ⟨k, x, rfl, rfl, hk, hx, hx2, ht⟩ hN hE hR
  have hx3 : x < 8388608 := by
    have : k = 0 ∨ k = 1 ∨ k = 2 ∨ k = 3 := by omega
    rcases this with rfl | rfl | rfl | rfl <;> omega
  simp
  refine cndI (fun h => ?_) (fun h => ?_)
  · simp at h
    have e0 : n - k = (n - (k + 1)) + 1 := by omega
    rw [e0, tailF_cons] at ht
    have hg : (l.drop (i + 1 + k)).getD 0 0 = l[i + (k + 1)]?.getD 0 := by simp [List.getElem?_drop, Nat.add_comm, Nat.add_left_comm]
    have hc : contAt (l.drop (i + 1 + k)) 0 = decide (i + (k + 1) < l.length ∧ 128 ≤ (l[i + (k + 1)]?.getD 0).toNat ∧ (l[i + (k + 1)]?.getD 0).toNat ≤ 191) := by
      simp only [contAt, hg, List.length_drop]
      rw [Bool.eq_iff_iff]
      simp
      omega
    have hb := (l[i + (k + 1)]?.getD 0).toNat_lt
    have ei : ((i : Int) + ((k : Int) + 1)).toNat = i + (k + 1) := by omega
    rw [hc, hg] at ht
    simp
    try simp (disch := omega) only [wrap64, ei]
    refine ⟨by omega, by omega, ?_⟩
    refine cndI (fun h2 => ?_) (fun h2 => ?_)
    · simp only [Bool.or_eq_true, decide_eq_true_eq] at h2
      simp
      refine hR _ _ ?_
      simp
      rw [ht, if_neg (by simp; omega)]
    · simp at h2
      rw [if_pos (by simp; omega)] at ht
      simp
      try simp (disch := omega) only [wrap64, ei]
      refine ⟨by omega, hN _ _ ⟨k + 1, x * 64 + (l[i + (k + 1)]?.getD 0).toNat - 128, by simp, rfl, by omega, by omega, by rw [Int.pow_succ]; omega, ?_⟩ (by simp [slotN]; omega)⟩
      rw [ht]
      simp [Nat.add_assoc]
  · simp at h
    simp
    refine hE _ _ _ ?_
    simp
    have : k = n := by omega
    subst this
    rw [ht]
    simp [tailF_zero]

def inF (u lo hi : Int) : Bool := decide (lo ≤ u) && decide (u ≤ hi)
theorem in_spec (u lo hi : Int) (w : World) : CallW Try.prog 44 [.int .i64 u, .int .i64 lo, .int .i64 hi] (fun r w' => r = .bool (inF u lo hi) ∧ w' = w) w := by
  refine callW_of_lift l44_ok (by simp [l44]) ?_
  simp [l44, inF]
def joinerF (u : Int) : Bool := decide (u = 32) || decide (u = 45) || decide (u = 95)
theorem rjoiner_spec (u : Int) (w : World) : CallW Try.prog 28 [.int .i64 u] (fun r w' => r = .bool (joinerF u) ∧ w' = w) w := by
  refine callW_of_lift l28_ok (by simp [l28]) ?_
  simp [l28, joinerF]
theorem joiner_spec (u : Int) (w : World) : CallW Try.prog 33 [.int .i32 u] (fun r w' => r = .bool (joinerF u) ∧ w' = w) w := by
  refine callW_of_lift l33_ok (by simp [l33]) ?_
  simp [l33, joinerF]
def letterF (u : Int) : Bool := !(decide (u = 215) || decide (u = 247) || decide (u = 930)) &&
  (inF u 48 57 || inF u 65 90 || inF u 97 122 || inF u 192 255 || inF u 913 937 || inF u 945 969 || decide (u = 1025) || inF u 1040 1103 || decide (u = 1105))
theorem letter_spec (u : Int) (w : World) : CallW Try.prog 32 [.int .i32 u] (fun r w' => r = .bool (letterF u) ∧ w' = w) w := by
  refine callW_of_lift l32_ok (by simp [l32]) ?_
  simp [l32, condC_ite, letterF, inF]
  repeat' split
  all_goals (try simp)
  all_goals (try (rw [Bool.eq_iff_iff]; simp))
  all_goals omega
def foldF (u : Int) : Int :=
  if (65 ≤ u ∧ u ≤ 90) ∨ (192 ≤ u ∧ u ≤ 222 ∧ u ≠ 215) ∨ (913 ≤ u ∧ u ≤ 937 ∧ u ≠ 930) ∨ (1040 ≤ u ∧ u ≤ 1071) then u + 32
  else if u = 1025 then 1105 else if u = 962 then 963 else u
theorem fold_spec (u : Int) (w : World) (h0 : 0 ≤ u) (h1 : u < 2097408) : CallW Try.prog 48 [.int .i32 u] (fun r w' => r = .int .i32 (foldF u) ∧ w' = w) w := by
  refine callW_of_lift l48_ok (by simp [l48]) ?_
  simp [l48, condC_ite, foldF]
  repeat' split
  all_goals (try simp (disch := omega) only [wrap32])
  all_goals (try (first | rfl | omega))
theorem slhp_spec (s p : List UInt8) (w : World) (hs : s.length ≤ 1048576) : CallW Try.prog 53 [.string (mk s), .string (mk p)] (fun r w' => r = .bool (p.isPrefixOf s) ∧ w' = w) w := by
  refine callW_of_lift l53_ok (by simp [l53]) ?_
  simp [l53]
  rw [Bool.eq_iff_iff]
  simp only [Bool.and_eq_true, decide_eq_true_eq, beq_iff_eq, List.isPrefixOf_iff_prefix]
  constructor
  · rintro ⟨h1, h2⟩
    exact List.prefix_iff_eq_take.2 h2.symm
  · intro h
    exact ⟨h.length_le, (List.prefix_iff_eq_take.1 h).symm⟩
end Go.HL.Nm
