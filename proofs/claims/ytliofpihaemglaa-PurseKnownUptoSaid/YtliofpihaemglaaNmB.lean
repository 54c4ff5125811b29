/-
  The functions of the packages name and bazaarref04 that only compute: each answers what its plain law says, and leaves memory as it is. No condition.
-/
import Derived.Test.YtliofpihaemglaaNmA
import Derived.Test.YtliofpihaemglaaProg
namespace Go.HL.Nm
open Go.HL Go.Proofs
set_option maxRecDepth 4000
set_option linter.unusedSimpArgs false
set_option linter.unusedVariables false
noncomputable abbrev F0 : PF Try.prog := PF.none _
-- bazaar/bazaarref04.tail
def h95_0 : HC := (.seq (.reg (.done [(4, (.inp 3)), (5, (.cst (.bool true)))] none)) .ret)
@[simp] theorem h95_0_wp {P : Program} {F : PF P} {Q : EX → List Value → World → Prop} {env : List Value} {w : World} : h95_0.wp F Q env w = HC.wp F (.seq (.reg (.done [(4, (.inp 3)), (5, (.cst (.bool true)))] none)) .ret) Q env w := rfl
def h95_1 : HC := (.reg (.chk none (.bin .add) (.cons (.inp 6) (.cons (.cst (.int .i64 1)) .nil)) (.done [(6, (.op (.bin .add) (.cons (.inp 6) (.cons (.cst (.int .i64 1)) .nil))))] none)))
@[simp] theorem h95_1_wp {P : Program} {F : PF P} {Q : EX → List Value → World → Prop} {env : List Value} {w : World} : h95_1.wp F Q env w = HC.wp F (.reg (.chk none (.bin .add) (.cons (.inp 6) (.cons (.cst (.int .i64 1)) .nil)) (.done [(6, (.op (.bin .add) (.cons (.inp 6) (.cons (.cst (.int .i64 1)) .nil))))] none))) Q env w := rfl
def h95_2 : HC := (.reg (.chk none (.bin .mul) (.cons (.inp 3) (.cons (.cst (.int .i64 64)) .nil)) (.chk none (.bin .add) (.cons (.inp 1) (.cons (.inp 6) .nil)) (.chk none .chS (.cons (.inp 0) (.cons (.op (.bin .add) (.cons (.inp 1) (.cons (.inp 6) .nil))) .nil)) (.chk none (.convI .i64) (.cons (.op .chS (.cons (.inp 0) (.cons (.op (.bin .add) (.cons (.inp 1) (.cons (.inp 6) .nil))) .nil))) .nil) (.chk none (.bin .add) (.cons (.op (.bin .mul) (.cons (.inp 3) (.cons (.cst (.int .i64 64)) .nil))) (.cons (.op (.convI .i64) (.cons (.op .chS (.cons (.inp 0) (.cons (.op (.bin .add) (.cons (.inp 1) (.cons (.inp 6) .nil))) .nil))) .nil)) .nil)) (.chk none (.bin .sub) (.cons (.op (.bin .add) (.cons (.op (.bin .mul) (.cons (.inp 3) (.cons (.cst (.int .i64 64)) .nil))) (.cons (.op (.convI .i64) (.cons (.op .chS (.cons (.inp 0) (.cons (.op (.bin .add) (.cons (.inp 1) (.cons (.inp 6) .nil))) .nil))) .nil)) .nil))) (.cons (.cst (.int .i64 128)) .nil)) (.done [(3, (.op (.bin .sub) (.cons (.op (.bin .add) (.cons (.op (.bin .mul) (.cons (.inp 3) (.cons (.cst (.int .i64 64)) .nil))) (.cons (.op (.convI .i64) (.cons (.op .chS (.cons (.inp 0) (.cons (.op (.bin .add) (.cons (.inp 1) (.cons (.inp 6) .nil))) .nil))) .nil)) .nil))) (.cons (.cst (.int .i64 128)) .nil))))] none))))))))
@[simp] theorem h95_2_wp {P : Program} {F : PF P} {Q : EX → List Value → World → Prop} {env : List Value} {w : World} : h95_2.wp F Q env w = HC.wp F (.reg (.chk none (.bin .mul) (.cons (.inp 3) (.cons (.cst (.int .i64 64)) .nil)) (.chk none (.bin .add) (.cons (.inp 1) (.cons (.inp 6) .nil)) (.chk none .chS (.cons (.inp 0) (.cons (.op (.bin .add) (.cons (.inp 1) (.cons (.inp 6) .nil))) .nil)) (.chk none (.convI .i64) (.cons (.op .chS (.cons (.inp 0) (.cons (.op (.bin .add) (.cons (.inp 1) (.cons (.inp 6) .nil))) .nil))) .nil) (.chk none (.bin .add) (.cons (.op (.bin .mul) (.cons (.inp 3) (.cons (.cst (.int .i64 64)) .nil))) (.cons (.op (.convI .i64) (.cons (.op .chS (.cons (.inp 0) (.cons (.op (.bin .add) (.cons (.inp 1) (.cons (.inp 6) .nil))) .nil))) .nil)) .nil)) (.chk none (.bin .sub) (.cons (.op (.bin .add) (.cons (.op (.bin .mul) (.cons (.inp 3) (.cons (.cst (.int .i64 64)) .nil))) (.cons (.op (.convI .i64) (.cons (.op .chS (.cons (.inp 0) (.cons (.op (.bin .add) (.cons (.inp 1) (.cons (.inp 6) .nil))) .nil))) .nil)) .nil))) (.cons (.cst (.int .i64 128)) .nil)) (.done [(3, (.op (.bin .sub) (.cons (.op (.bin .add) (.cons (.op (.bin .mul) (.cons (.inp 3) (.cons (.cst (.int .i64 64)) .nil))) (.cons (.op (.convI .i64) (.cons (.op .chS (.cons (.inp 0) (.cons (.op (.bin .add) (.cons (.inp 1) (.cons (.inp 6) .nil))) .nil))) .nil)) .nil))) (.cons (.cst (.int .i64 128)) .nil))))] none)))))))) Q env w := rfl
def h95_3 : HC := (.seq (.reg (.done [(4, (.cst (.int .i64 0))), (5, (.cst (.bool false)))] none)) .ret)
@[simp] theorem h95_3_wp {P : Program} {F : PF P} {Q : EX → List Value → World → Prop} {env : List Value} {w : World} : h95_3.wp F Q env w = HC.wp F (.seq (.reg (.done [(4, (.cst (.int .i64 0))), (5, (.cst (.bool false)))] none)) .ret) Q env w := rfl
def h95_4 : HC := (.seq (.br (.chk none (.bin .add) (.cons (.inp 1) (.cons (.inp 6) .nil)) (.chk none .lenS (.cons (.inp 0) .nil) (.chk none (.bin .geq) (.cons (.op (.bin .add) (.cons (.inp 1) (.cons (.inp 6) .nil))) (.cons (.op .lenS (.cons (.inp 0) .nil)) .nil)) (.bnd (.op (.bin .geq) (.cons (.op (.bin .add) (.cons (.inp 1) (.cons (.inp 6) .nil))) (.cons (.op .lenS (.cons (.inp 0) .nil)) .nil))) (.chk (some ((.bv 0), false)) (.bin .add) (.cons (.inp 1) (.cons (.inp 6) .nil)) (.chk (some ((.bv 0), false)) .chS (.cons (.inp 0) (.cons (.op (.bin .add) (.cons (.inp 1) (.cons (.inp 6) .nil))) .nil)) (.chk (some ((.bv 0), false)) (.bin .lss) (.cons (.op .chS (.cons (.inp 0) (.cons (.op (.bin .add) (.cons (.inp 1) (.cons (.inp 6) .nil))) .nil))) (.cons (.cst (.int .u8 128)) .nil)) (.isb none (.bv 0) (.bnd (.ite (.bv 0) true (.cst (.bool true)) (.op (.bin .lss) (.cons (.op .chS (.cons (.inp 0) (.cons (.op (.bin .add) (.cons (.inp 1) (.cons (.inp 6) .nil))) .nil))) (.cons (.cst (.int .u8 128)) .nil)))) (.chk (some ((.bv 1), false)) (.bin .add) (.cons (.inp 1) (.cons (.inp 6) .nil)) (.chk (some ((.bv 1), false)) .chS (.cons (.inp 0) (.cons (.op (.bin .add) (.cons (.inp 1) (.cons (.inp 6) .nil))) .nil)) (.chk (some ((.bv 1), false)) (.bin .gtr) (.cons (.op .chS (.cons (.inp 0) (.cons (.op (.bin .add) (.cons (.inp 1) (.cons (.inp 6) .nil))) .nil))) (.cons (.cst (.int .u8 191)) .nil)) (.isb none (.bv 1) (.done [] (some (.ite (.bv 1) true (.cst (.bool true)) (.op (.bin .gtr) (.cons (.op .chS (.cons (.inp 0) (.cons (.op (.bin .add) (.cons (.inp 1) (.cons (.inp 6) .nil))) .nil))) (.cons (.cst (.int .u8 191)) .nil))))))))))))))))))) h95_3 .skip) h95_2)
@[simp] theorem h95_4_wp {P : Program} {F : PF P} {Q : EX → List Value → World → Prop} {env : List Value} {w : World} : h95_4.wp F Q env w = HC.wp F (.seq (.br (.chk none (.bin .add) (.cons (.inp 1) (.cons (.inp 6) .nil)) (.chk none .lenS (.cons (.inp 0) .nil) (.chk none (.bin .geq) (.cons (.op (.bin .add) (.cons (.inp 1) (.cons (.inp 6) .nil))) (.cons (.op .lenS (.cons (.inp 0) .nil)) .nil)) (.bnd (.op (.bin .geq) (.cons (.op (.bin .add) (.cons (.inp 1) (.cons (.inp 6) .nil))) (.cons (.op .lenS (.cons (.inp 0) .nil)) .nil))) (.chk (some ((.bv 0), false)) (.bin .add) (.cons (.inp 1) (.cons (.inp 6) .nil)) (.chk (some ((.bv 0), false)) .chS (.cons (.inp 0) (.cons (.op (.bin .add) (.cons (.inp 1) (.cons (.inp 6) .nil))) .nil)) (.chk (some ((.bv 0), false)) (.bin .lss) (.cons (.op .chS (.cons (.inp 0) (.cons (.op (.bin .add) (.cons (.inp 1) (.cons (.inp 6) .nil))) .nil))) (.cons (.cst (.int .u8 128)) .nil)) (.isb none (.bv 0) (.bnd (.ite (.bv 0) true (.cst (.bool true)) (.op (.bin .lss) (.cons (.op .chS (.cons (.inp 0) (.cons (.op (.bin .add) (.cons (.inp 1) (.cons (.inp 6) .nil))) .nil))) (.cons (.cst (.int .u8 128)) .nil)))) (.chk (some ((.bv 1), false)) (.bin .add) (.cons (.inp 1) (.cons (.inp 6) .nil)) (.chk (some ((.bv 1), false)) .chS (.cons (.inp 0) (.cons (.op (.bin .add) (.cons (.inp 1) (.cons (.inp 6) .nil))) .nil)) (.chk (some ((.bv 1), false)) (.bin .gtr) (.cons (.op .chS (.cons (.inp 0) (.cons (.op (.bin .add) (.cons (.inp 1) (.cons (.inp 6) .nil))) .nil))) (.cons (.cst (.int .u8 191)) .nil)) (.isb none (.bv 1) (.done [] (some (.ite (.bv 1) true (.cst (.bool true)) (.op (.bin .gtr) (.cons (.op .chS (.cons (.inp 0) (.cons (.op (.bin .add) (.cons (.inp 1) (.cons (.inp 6) .nil))) .nil))) (.cons (.cst (.int .u8 191)) .nil))))))))))))))))))) h95_3 .skip) h95_2) Q env w := rfl
def h95_5 : HC := (.seq (.block 1 h95_4) h95_1)
@[simp] theorem h95_5_wp {P : Program} {F : PF P} {Q : EX → List Value → World → Prop} {env : List Value} {w : World} : h95_5.wp F Q env w = HC.wp F (.seq (.block 1 h95_4) h95_1) Q env w := rfl
def h95_6 : HC := (.seq (.br (.chk none (.bin .leq) (.cons (.inp 6) (.cons (.inp 2) .nil)) (.done [] (some (.op (.bin .leq) (.cons (.inp 6) (.cons (.inp 2) .nil)))))) .skip (.exit 0)) h95_5)
@[simp] theorem h95_6_wp {P : Program} {F : PF P} {Q : EX → List Value → World → Prop} {env : List Value} {w : World} : h95_6.wp F Q env w = HC.wp F (.seq (.br (.chk none (.bin .leq) (.cons (.inp 6) (.cons (.inp 2) .nil)) (.done [] (some (.op (.bin .leq) (.cons (.inp 6) (.cons (.inp 2) .nil)))))) .skip (.exit 0)) h95_5) Q env w := rfl
def h95_7 : HC := (.loop h95_6)
@[simp] theorem h95_7_wp {P : Program} {F : PF P} {Q : EX → List Value → World → Prop} {env : List Value} {w : World} : h95_7.wp F Q env w = HC.wp F (.loop h95_6) Q env w := rfl
def h95_8 : HC := (.seq (.block 0 h95_7) h95_0)
@[simp] theorem h95_8_wp {P : Program} {F : PF P} {Q : EX → List Value → World → Prop} {env : List Value} {w : World} : h95_8.wp F Q env w = HC.wp F (.seq (.block 0 h95_7) h95_0) Q env w := rfl
def h95_9 : HC := (.seq (.reg (.done [(6, (.cst (.int .i64 1)))] none)) h95_8)
@[simp] theorem h95_9_wp {P : Program} {F : PF P} {Q : EX → List Value → World → Prop} {env : List Value} {w : World} : h95_9.wp F Q env w = HC.wp F (.seq (.reg (.done [(6, (.cst (.int .i64 1)))] none)) h95_8) Q env w := rfl
def l95 : Lifted := ⟨[0, 1, 2, 3, 8, 9, 10], 49, [.slot 4, .slot 5], (.seq (.reg (.done [(4, (.cst (.int .i64 0))), (5, (.cst (.bool false)))] none)) h95_9)⟩
theorem l95_ok : liftFn F0 95 400 = some l95 := by kernel_rfl

-- bazaar/bazaarref04.in
def h90_0 : HC := (.seq (.reg (.chk none (.bin .geq) (.cons (.inp 0) (.cons (.inp 1) .nil)) (.bnd (.op (.bin .geq) (.cons (.inp 0) (.cons (.inp 1) .nil))) (.chk (some ((.bv 0), true)) (.bin .leq) (.cons (.inp 0) (.cons (.inp 2) .nil)) (.isb none (.bv 0) (.done [(3, (.ite (.bv 0) true (.op (.bin .leq) (.cons (.inp 0) (.cons (.inp 2) .nil))) (.cst (.bool false))))] none)))))) .ret)
@[simp] theorem h90_0_wp {P : Program} {F : PF P} {Q : EX → List Value → World → Prop} {env : List Value} {w : World} : h90_0.wp F Q env w = HC.wp F (.seq (.reg (.chk none (.bin .geq) (.cons (.inp 0) (.cons (.inp 1) .nil)) (.bnd (.op (.bin .geq) (.cons (.inp 0) (.cons (.inp 1) .nil))) (.chk (some ((.bv 0), true)) (.bin .leq) (.cons (.inp 0) (.cons (.inp 2) .nil)) (.isb none (.bv 0) (.done [(3, (.ite (.bv 0) true (.op (.bin .leq) (.cons (.inp 0) (.cons (.inp 2) .nil))) (.cst (.bool false))))] none)))))) .ret) Q env w := rfl
def l90 : Lifted := ⟨[0, 1, 2, 6], 15, [.slot 3], (.seq (.reg (.done [(3, (.cst (.bool false)))] none)) h90_0)⟩
theorem l90_ok : liftFn F0 90 400 = some l90 := by kernel_rfl

-- bazaar/bazaarref04.Joiner
def h81_0 : HC := (.seq (.reg (.chk none (.bin .eql) (.cons (.inp 0) (.cons (.cst (.int .i64 32)) .nil)) (.bnd (.op (.bin .eql) (.cons (.inp 0) (.cons (.cst (.int .i64 32)) .nil))) (.chk (some ((.bv 0), false)) (.bin .eql) (.cons (.inp 0) (.cons (.cst (.int .i64 45)) .nil)) (.isb none (.bv 0) (.bnd (.ite (.bv 0) true (.cst (.bool true)) (.op (.bin .eql) (.cons (.inp 0) (.cons (.cst (.int .i64 45)) .nil)))) (.chk (some ((.bv 1), false)) (.bin .eql) (.cons (.inp 0) (.cons (.cst (.int .i64 95)) .nil)) (.isb none (.bv 1) (.done [(1, (.ite (.bv 1) true (.cst (.bool true)) (.op (.bin .eql) (.cons (.inp 0) (.cons (.cst (.int .i64 95)) .nil)))))] none))))))))) .ret)
@[simp] theorem h81_0_wp {P : Program} {F : PF P} {Q : EX → List Value → World → Prop} {env : List Value} {w : World} : h81_0.wp F Q env w = HC.wp F (.seq (.reg (.chk none (.bin .eql) (.cons (.inp 0) (.cons (.cst (.int .i64 32)) .nil)) (.bnd (.op (.bin .eql) (.cons (.inp 0) (.cons (.cst (.int .i64 32)) .nil))) (.chk (some ((.bv 0), false)) (.bin .eql) (.cons (.inp 0) (.cons (.cst (.int .i64 45)) .nil)) (.isb none (.bv 0) (.bnd (.ite (.bv 0) true (.cst (.bool true)) (.op (.bin .eql) (.cons (.inp 0) (.cons (.cst (.int .i64 45)) .nil)))) (.chk (some ((.bv 1), false)) (.bin .eql) (.cons (.inp 0) (.cons (.cst (.int .i64 95)) .nil)) (.isb none (.bv 1) (.done [(1, (.ite (.bv 1) true (.cst (.bool true)) (.op (.bin .eql) (.cons (.inp 0) (.cons (.cst (.int .i64 95)) .nil)))))] none))))))))) .ret) Q env w := rfl
def l81 : Lifted := ⟨[0, 2], 13, [.slot 1], (.seq (.reg (.done [(1, (.cst (.bool false)))] none)) h81_0)⟩
theorem l81_ok : liftFn F0 81 400 = some l81 := by kernel_rfl

-- bazaar/name.joiner
def h46_0 : HC := (.seq (.reg (.chk none (.bin .eql) (.cons (.inp 0) (.cons (.cst (.int .i32 32)) .nil)) (.bnd (.op (.bin .eql) (.cons (.inp 0) (.cons (.cst (.int .i32 32)) .nil))) (.chk (some ((.bv 0), false)) (.bin .eql) (.cons (.inp 0) (.cons (.cst (.int .i32 45)) .nil)) (.isb none (.bv 0) (.bnd (.ite (.bv 0) true (.cst (.bool true)) (.op (.bin .eql) (.cons (.inp 0) (.cons (.cst (.int .i32 45)) .nil)))) (.chk (some ((.bv 1), false)) (.bin .eql) (.cons (.inp 0) (.cons (.cst (.int .i32 95)) .nil)) (.isb none (.bv 1) (.done [(1, (.ite (.bv 1) true (.cst (.bool true)) (.op (.bin .eql) (.cons (.inp 0) (.cons (.cst (.int .i32 95)) .nil)))))] none))))))))) .ret)
@[simp] theorem h46_0_wp {P : Program} {F : PF P} {Q : EX → List Value → World → Prop} {env : List Value} {w : World} : h46_0.wp F Q env w = HC.wp F (.seq (.reg (.chk none (.bin .eql) (.cons (.inp 0) (.cons (.cst (.int .i32 32)) .nil)) (.bnd (.op (.bin .eql) (.cons (.inp 0) (.cons (.cst (.int .i32 32)) .nil))) (.chk (some ((.bv 0), false)) (.bin .eql) (.cons (.inp 0) (.cons (.cst (.int .i32 45)) .nil)) (.isb none (.bv 0) (.bnd (.ite (.bv 0) true (.cst (.bool true)) (.op (.bin .eql) (.cons (.inp 0) (.cons (.cst (.int .i32 45)) .nil)))) (.chk (some ((.bv 1), false)) (.bin .eql) (.cons (.inp 0) (.cons (.cst (.int .i32 95)) .nil)) (.isb none (.bv 1) (.done [(1, (.ite (.bv 1) true (.cst (.bool true)) (.op (.bin .eql) (.cons (.inp 0) (.cons (.cst (.int .i32 95)) .nil)))))] none))))))))) .ret) Q env w := rfl
def l46 : Lifted := ⟨[0, 2], 13, [.slot 1], (.seq (.reg (.done [(1, (.cst (.bool false)))] none)) h46_0)⟩
theorem l46_ok : liftFn F0 46 400 = some l46 := by kernel_rfl

-- bazaar/name.letter
def h45_0 : HC := (.seq (.reg (.chk none (.bin .geq) (.cons (.inp 0) (.cons (.cst (.int .i32 945)) .nil)) (.bnd (.op (.bin .geq) (.cons (.inp 0) (.cons (.cst (.int .i32 945)) .nil))) (.chk (some ((.bv 0), true)) (.bin .leq) (.cons (.inp 0) (.cons (.cst (.int .i32 969)) .nil)) (.isb none (.bv 0) (.bnd (.ite (.bv 0) true (.op (.bin .leq) (.cons (.inp 0) (.cons (.cst (.int .i32 969)) .nil))) (.cst (.bool false))) (.chk (some ((.bv 1), false)) (.bin .geq) (.cons (.inp 0) (.cons (.cst (.int .i32 1040)) .nil)) (.bnd (.ite (.bv 1) false (.op (.bin .geq) (.cons (.inp 0) (.cons (.cst (.int .i32 1040)) .nil))) (.cst (.tuple #[]))) (.chk (some ((.bv 2), true)) (.bin .leq) (.cons (.inp 0) (.cons (.cst (.int .i32 1103)) .nil)) (.isb (some ((.bv 1), false)) (.bv 2) (.isb none (.bv 1) (.bnd (.ite (.bv 1) true (.cst (.bool true)) (.ite (.bv 2) true (.op (.bin .leq) (.cons (.inp 0) (.cons (.cst (.int .i32 1103)) .nil))) (.cst (.bool false)))) (.chk (some ((.bv 3), false)) (.bin .eql) (.cons (.inp 0) (.cons (.cst (.int .i32 1025)) .nil)) (.isb none (.bv 3) (.bnd (.ite (.bv 3) true (.cst (.bool true)) (.op (.bin .eql) (.cons (.inp 0) (.cons (.cst (.int .i32 1025)) .nil)))) (.chk (some ((.bv 4), false)) (.bin .eql) (.cons (.inp 0) (.cons (.cst (.int .i32 1105)) .nil)) (.isb none (.bv 4) (.done [(1, (.ite (.bv 4) true (.cst (.bool true)) (.op (.bin .eql) (.cons (.inp 0) (.cons (.cst (.int .i32 1105)) .nil)))))] none)))))))))))))))))) .ret)
@[simp] theorem h45_0_wp {P : Program} {F : PF P} {Q : EX → List Value → World → Prop} {env : List Value} {w : World} : h45_0.wp F Q env w = HC.wp F (.seq (.reg (.chk none (.bin .geq) (.cons (.inp 0) (.cons (.cst (.int .i32 945)) .nil)) (.bnd (.op (.bin .geq) (.cons (.inp 0) (.cons (.cst (.int .i32 945)) .nil))) (.chk (some ((.bv 0), true)) (.bin .leq) (.cons (.inp 0) (.cons (.cst (.int .i32 969)) .nil)) (.isb none (.bv 0) (.bnd (.ite (.bv 0) true (.op (.bin .leq) (.cons (.inp 0) (.cons (.cst (.int .i32 969)) .nil))) (.cst (.bool false))) (.chk (some ((.bv 1), false)) (.bin .geq) (.cons (.inp 0) (.cons (.cst (.int .i32 1040)) .nil)) (.bnd (.ite (.bv 1) false (.op (.bin .geq) (.cons (.inp 0) (.cons (.cst (.int .i32 1040)) .nil))) (.cst (.tuple #[]))) (.chk (some ((.bv 2), true)) (.bin .leq) (.cons (.inp 0) (.cons (.cst (.int .i32 1103)) .nil)) (.isb (some ((.bv 1), false)) (.bv 2) (.isb none (.bv 1) (.bnd (.ite (.bv 1) true (.cst (.bool true)) (.ite (.bv 2) true (.op (.bin .leq) (.cons (.inp 0) (.cons (.cst (.int .i32 1103)) .nil))) (.cst (.bool false)))) (.chk (some ((.bv 3), false)) (.bin .eql) (.cons (.inp 0) (.cons (.cst (.int .i32 1025)) .nil)) (.isb none (.bv 3) (.bnd (.ite (.bv 3) true (.cst (.bool true)) (.op (.bin .eql) (.cons (.inp 0) (.cons (.cst (.int .i32 1025)) .nil)))) (.chk (some ((.bv 4), false)) (.bin .eql) (.cons (.inp 0) (.cons (.cst (.int .i32 1105)) .nil)) (.isb none (.bv 4) (.done [(1, (.ite (.bv 4) true (.cst (.bool true)) (.op (.bin .eql) (.cons (.inp 0) (.cons (.cst (.int .i32 1105)) .nil)))))] none)))))))))))))))))) .ret) Q env w := rfl
def h45_1 : HC := (.seq (.reg (.done [(1, (.cst (.bool true)))] none)) .ret)
@[simp] theorem h45_1_wp {P : Program} {F : PF P} {Q : EX → List Value → World → Prop} {env : List Value} {w : World} : h45_1.wp F Q env w = HC.wp F (.seq (.reg (.done [(1, (.cst (.bool true)))] none)) .ret) Q env w := rfl
def h45_2 : HC := (.seq (.reg (.chk none (.bin .neq) (.cons (.inp 0) (.cons (.cst (.int .i32 215)) .nil)) (.bnd (.op (.bin .neq) (.cons (.inp 0) (.cons (.cst (.int .i32 215)) .nil))) (.chk (some ((.bv 0), true)) (.bin .neq) (.cons (.inp 0) (.cons (.cst (.int .i32 247)) .nil)) (.isb none (.bv 0) (.done [(1, (.ite (.bv 0) true (.op (.bin .neq) (.cons (.inp 0) (.cons (.cst (.int .i32 247)) .nil))) (.cst (.bool false))))] none)))))) .ret)
@[simp] theorem h45_2_wp {P : Program} {F : PF P} {Q : EX → List Value → World → Prop} {env : List Value} {w : World} : h45_2.wp F Q env w = HC.wp F (.seq (.reg (.chk none (.bin .neq) (.cons (.inp 0) (.cons (.cst (.int .i32 215)) .nil)) (.bnd (.op (.bin .neq) (.cons (.inp 0) (.cons (.cst (.int .i32 215)) .nil))) (.chk (some ((.bv 0), true)) (.bin .neq) (.cons (.inp 0) (.cons (.cst (.int .i32 247)) .nil)) (.isb none (.bv 0) (.done [(1, (.ite (.bv 0) true (.op (.bin .neq) (.cons (.inp 0) (.cons (.cst (.int .i32 247)) .nil))) (.cst (.bool false))))] none)))))) .ret) Q env w := rfl
def h45_3 : HC := (.seq (.reg (.chk none (.bin .neq) (.cons (.inp 0) (.cons (.cst (.int .i32 930)) .nil)) (.done [(1, (.op (.bin .neq) (.cons (.inp 0) (.cons (.cst (.int .i32 930)) .nil))))] none))) .ret)
@[simp] theorem h45_3_wp {P : Program} {F : PF P} {Q : EX → List Value → World → Prop} {env : List Value} {w : World} : h45_3.wp F Q env w = HC.wp F (.seq (.reg (.chk none (.bin .neq) (.cons (.inp 0) (.cons (.cst (.int .i32 930)) .nil)) (.done [(1, (.op (.bin .neq) (.cons (.inp 0) (.cons (.cst (.int .i32 930)) .nil))))] none))) .ret) Q env w := rfl
def h45_4 : HC := (.br (.chk none (.bin .geq) (.cons (.inp 0) (.cons (.cst (.int .i32 913)) .nil)) (.bnd (.op (.bin .geq) (.cons (.inp 0) (.cons (.cst (.int .i32 913)) .nil))) (.chk (some ((.bv 0), true)) (.bin .leq) (.cons (.inp 0) (.cons (.cst (.int .i32 937)) .nil)) (.isb none (.bv 0) (.done [] (some (.ite (.bv 0) true (.op (.bin .leq) (.cons (.inp 0) (.cons (.cst (.int .i32 937)) .nil))) (.cst (.bool false))))))))) h45_3 .skip)
@[simp] theorem h45_4_wp {P : Program} {F : PF P} {Q : EX → List Value → World → Prop} {env : List Value} {w : World} : h45_4.wp F Q env w = HC.wp F (.br (.chk none (.bin .geq) (.cons (.inp 0) (.cons (.cst (.int .i32 913)) .nil)) (.bnd (.op (.bin .geq) (.cons (.inp 0) (.cons (.cst (.int .i32 913)) .nil))) (.chk (some ((.bv 0), true)) (.bin .leq) (.cons (.inp 0) (.cons (.cst (.int .i32 937)) .nil)) (.isb none (.bv 0) (.done [] (some (.ite (.bv 0) true (.op (.bin .leq) (.cons (.inp 0) (.cons (.cst (.int .i32 937)) .nil))) (.cst (.bool false))))))))) h45_3 .skip) Q env w := rfl
def h45_5 : HC := (.br (.chk none (.bin .geq) (.cons (.inp 0) (.cons (.cst (.int .i32 192)) .nil)) (.bnd (.op (.bin .geq) (.cons (.inp 0) (.cons (.cst (.int .i32 192)) .nil))) (.chk (some ((.bv 0), true)) (.bin .leq) (.cons (.inp 0) (.cons (.cst (.int .i32 255)) .nil)) (.isb none (.bv 0) (.done [] (some (.ite (.bv 0) true (.op (.bin .leq) (.cons (.inp 0) (.cons (.cst (.int .i32 255)) .nil))) (.cst (.bool false))))))))) h45_2 h45_4)
@[simp] theorem h45_5_wp {P : Program} {F : PF P} {Q : EX → List Value → World → Prop} {env : List Value} {w : World} : h45_5.wp F Q env w = HC.wp F (.br (.chk none (.bin .geq) (.cons (.inp 0) (.cons (.cst (.int .i32 192)) .nil)) (.bnd (.op (.bin .geq) (.cons (.inp 0) (.cons (.cst (.int .i32 192)) .nil))) (.chk (some ((.bv 0), true)) (.bin .leq) (.cons (.inp 0) (.cons (.cst (.int .i32 255)) .nil)) (.isb none (.bv 0) (.done [] (some (.ite (.bv 0) true (.op (.bin .leq) (.cons (.inp 0) (.cons (.cst (.int .i32 255)) .nil))) (.cst (.bool false))))))))) h45_2 h45_4) Q env w := rfl
def h45_6 : HC := (.cnd 2 h45_1 h45_5)
@[simp] theorem h45_6_wp {P : Program} {F : PF P} {Q : EX → List Value → World → Prop} {env : List Value} {w : World} : h45_6.wp F Q env w = HC.wp F (.cnd 2 h45_1 h45_5) Q env w := rfl
def h45_7 : HC := (.reg (.chk none (.bin .geq) (.cons (.inp 0) (.cons (.cst (.int .i32 97)) .nil)) (.bnd (.op (.bin .geq) (.cons (.inp 0) (.cons (.cst (.int .i32 97)) .nil))) (.chk (some ((.bv 0), true)) (.bin .leq) (.cons (.inp 0) (.cons (.cst (.int .i32 122)) .nil)) (.isb none (.bv 0) (.done [(2, (.ite (.bv 0) true (.op (.bin .leq) (.cons (.inp 0) (.cons (.cst (.int .i32 122)) .nil))) (.cst (.bool false))))] none))))))
@[simp] theorem h45_7_wp {P : Program} {F : PF P} {Q : EX → List Value → World → Prop} {env : List Value} {w : World} : h45_7.wp F Q env w = HC.wp F (.reg (.chk none (.bin .geq) (.cons (.inp 0) (.cons (.cst (.int .i32 97)) .nil)) (.bnd (.op (.bin .geq) (.cons (.inp 0) (.cons (.cst (.int .i32 97)) .nil))) (.chk (some ((.bv 0), true)) (.bin .leq) (.cons (.inp 0) (.cons (.cst (.int .i32 122)) .nil)) (.isb none (.bv 0) (.done [(2, (.ite (.bv 0) true (.op (.bin .leq) (.cons (.inp 0) (.cons (.cst (.int .i32 122)) .nil))) (.cst (.bool false))))] none)))))) Q env w := rfl
def h45_8 : HC := (.cnd 2 .skip h45_7)
@[simp] theorem h45_8_wp {P : Program} {F : PF P} {Q : EX → List Value → World → Prop} {env : List Value} {w : World} : h45_8.wp F Q env w = HC.wp F (.cnd 2 .skip h45_7) Q env w := rfl
def h45_9 : HC := (.seq (.reg (.chk none (.bin .geq) (.cons (.inp 0) (.cons (.cst (.int .i32 65)) .nil)) (.bnd (.op (.bin .geq) (.cons (.inp 0) (.cons (.cst (.int .i32 65)) .nil))) (.chk (some ((.bv 0), true)) (.bin .leq) (.cons (.inp 0) (.cons (.cst (.int .i32 90)) .nil)) (.isb none (.bv 0) (.done [(2, (.ite (.bv 0) true (.op (.bin .leq) (.cons (.inp 0) (.cons (.cst (.int .i32 90)) .nil))) (.cst (.bool false))))] none)))))) h45_8)
@[simp] theorem h45_9_wp {P : Program} {F : PF P} {Q : EX → List Value → World → Prop} {env : List Value} {w : World} : h45_9.wp F Q env w = HC.wp F (.seq (.reg (.chk none (.bin .geq) (.cons (.inp 0) (.cons (.cst (.int .i32 65)) .nil)) (.bnd (.op (.bin .geq) (.cons (.inp 0) (.cons (.cst (.int .i32 65)) .nil))) (.chk (some ((.bv 0), true)) (.bin .leq) (.cons (.inp 0) (.cons (.cst (.int .i32 90)) .nil)) (.isb none (.bv 0) (.done [(2, (.ite (.bv 0) true (.op (.bin .leq) (.cons (.inp 0) (.cons (.cst (.int .i32 90)) .nil))) (.cst (.bool false))))] none)))))) h45_8) Q env w := rfl
def h45_10 : HC := (.seq (.cnd 2 .skip h45_9) h45_6)
@[simp] theorem h45_10_wp {P : Program} {F : PF P} {Q : EX → List Value → World → Prop} {env : List Value} {w : World} : h45_10.wp F Q env w = HC.wp F (.seq (.cnd 2 .skip h45_9) h45_6) Q env w := rfl
def h45_11 : HC := (.seq (.reg (.chk none (.bin .geq) (.cons (.inp 0) (.cons (.cst (.int .i32 48)) .nil)) (.bnd (.op (.bin .geq) (.cons (.inp 0) (.cons (.cst (.int .i32 48)) .nil))) (.chk (some ((.bv 0), true)) (.bin .leq) (.cons (.inp 0) (.cons (.cst (.int .i32 57)) .nil)) (.isb none (.bv 0) (.done [(2, (.ite (.bv 0) true (.op (.bin .leq) (.cons (.inp 0) (.cons (.cst (.int .i32 57)) .nil))) (.cst (.bool false))))] none)))))) h45_10)
@[simp] theorem h45_11_wp {P : Program} {F : PF P} {Q : EX → List Value → World → Prop} {env : List Value} {w : World} : h45_11.wp F Q env w = HC.wp F (.seq (.reg (.chk none (.bin .geq) (.cons (.inp 0) (.cons (.cst (.int .i32 48)) .nil)) (.bnd (.op (.bin .geq) (.cons (.inp 0) (.cons (.cst (.int .i32 48)) .nil))) (.chk (some ((.bv 0), true)) (.bin .leq) (.cons (.inp 0) (.cons (.cst (.int .i32 57)) .nil)) (.isb none (.bv 0) (.done [(2, (.ite (.bv 0) true (.op (.bin .leq) (.cons (.inp 0) (.cons (.cst (.int .i32 57)) .nil))) (.cst (.bool false))))] none)))))) h45_10) Q env w := rfl
def h45_12 : HC := (.seq (.block 0 h45_11) h45_0)
@[simp] theorem h45_12_wp {P : Program} {F : PF P} {Q : EX → List Value → World → Prop} {env : List Value} {w : World} : h45_12.wp F Q env w = HC.wp F (.seq (.block 0 h45_11) h45_0) Q env w := rfl
def l45 : Lifted := ⟨[0, 2, 3], 66, [.slot 1], (.seq (.reg (.done [(1, (.cst (.bool false)))] none)) h45_12)⟩
theorem l45_ok : liftFn F0 45 400 = some l45 := by kernel_rfl

-- bazaar/name.fold
def h78_0 : HC := (.seq (.reg (.done [(1, (.inp 0))] none)) .ret)
@[simp] theorem h78_0_wp {P : Program} {F : PF P} {Q : EX → List Value → World → Prop} {env : List Value} {w : World} : h78_0.wp F Q env w = HC.wp F (.seq (.reg (.done [(1, (.inp 0))] none)) .ret) Q env w := rfl
def h78_1 : HC := (.seq (.reg (.chk none (.bin .add) (.cons (.inp 0) (.cons (.cst (.int .i32 32)) .nil)) (.done [(1, (.op (.bin .add) (.cons (.inp 0) (.cons (.cst (.int .i32 32)) .nil))))] none))) .ret)
@[simp] theorem h78_1_wp {P : Program} {F : PF P} {Q : EX → List Value → World → Prop} {env : List Value} {w : World} : h78_1.wp F Q env w = HC.wp F (.seq (.reg (.chk none (.bin .add) (.cons (.inp 0) (.cons (.cst (.int .i32 32)) .nil)) (.done [(1, (.op (.bin .add) (.cons (.inp 0) (.cons (.cst (.int .i32 32)) .nil))))] none))) .ret) Q env w := rfl
def h78_2 : HC := (.seq (.reg (.done [(1, (.cst (.int .i32 1105)))] none)) .ret)
@[simp] theorem h78_2_wp {P : Program} {F : PF P} {Q : EX → List Value → World → Prop} {env : List Value} {w : World} : h78_2.wp F Q env w = HC.wp F (.seq (.reg (.done [(1, (.cst (.int .i32 1105)))] none)) .ret) Q env w := rfl
def h78_3 : HC := (.seq (.reg (.done [(1, (.cst (.int .i32 963)))] none)) .ret)
@[simp] theorem h78_3_wp {P : Program} {F : PF P} {Q : EX → List Value → World → Prop} {env : List Value} {w : World} : h78_3.wp F Q env w = HC.wp F (.seq (.reg (.done [(1, (.cst (.int .i32 963)))] none)) .ret) Q env w := rfl
def h78_4 : HC := (.br (.chk none (.bin .eql) (.cons (.inp 0) (.cons (.cst (.int .i32 962)) .nil)) (.done [] (some (.op (.bin .eql) (.cons (.inp 0) (.cons (.cst (.int .i32 962)) .nil)))))) h78_3 .skip)
@[simp] theorem h78_4_wp {P : Program} {F : PF P} {Q : EX → List Value → World → Prop} {env : List Value} {w : World} : h78_4.wp F Q env w = HC.wp F (.br (.chk none (.bin .eql) (.cons (.inp 0) (.cons (.cst (.int .i32 962)) .nil)) (.done [] (some (.op (.bin .eql) (.cons (.inp 0) (.cons (.cst (.int .i32 962)) .nil)))))) h78_3 .skip) Q env w := rfl
def h78_5 : HC := (.br (.chk none (.bin .eql) (.cons (.inp 0) (.cons (.cst (.int .i32 1025)) .nil)) (.done [] (some (.op (.bin .eql) (.cons (.inp 0) (.cons (.cst (.int .i32 1025)) .nil)))))) h78_2 h78_4)
@[simp] theorem h78_5_wp {P : Program} {F : PF P} {Q : EX → List Value → World → Prop} {env : List Value} {w : World} : h78_5.wp F Q env w = HC.wp F (.br (.chk none (.bin .eql) (.cons (.inp 0) (.cons (.cst (.int .i32 1025)) .nil)) (.done [] (some (.op (.bin .eql) (.cons (.inp 0) (.cons (.cst (.int .i32 1025)) .nil)))))) h78_2 h78_4) Q env w := rfl
def h78_6 : HC := (.cnd 2 h78_1 h78_5)
@[simp] theorem h78_6_wp {P : Program} {F : PF P} {Q : EX → List Value → World → Prop} {env : List Value} {w : World} : h78_6.wp F Q env w = HC.wp F (.cnd 2 h78_1 h78_5) Q env w := rfl
def h78_7 : HC := (.reg (.chk none (.bin .geq) (.cons (.inp 0) (.cons (.cst (.int .i32 1040)) .nil)) (.bnd (.op (.bin .geq) (.cons (.inp 0) (.cons (.cst (.int .i32 1040)) .nil))) (.chk (some ((.bv 0), true)) (.bin .leq) (.cons (.inp 0) (.cons (.cst (.int .i32 1071)) .nil)) (.isb none (.bv 0) (.done [(2, (.ite (.bv 0) true (.op (.bin .leq) (.cons (.inp 0) (.cons (.cst (.int .i32 1071)) .nil))) (.cst (.bool false))))] none))))))
@[simp] theorem h78_7_wp {P : Program} {F : PF P} {Q : EX → List Value → World → Prop} {env : List Value} {w : World} : h78_7.wp F Q env w = HC.wp F (.reg (.chk none (.bin .geq) (.cons (.inp 0) (.cons (.cst (.int .i32 1040)) .nil)) (.bnd (.op (.bin .geq) (.cons (.inp 0) (.cons (.cst (.int .i32 1040)) .nil))) (.chk (some ((.bv 0), true)) (.bin .leq) (.cons (.inp 0) (.cons (.cst (.int .i32 1071)) .nil)) (.isb none (.bv 0) (.done [(2, (.ite (.bv 0) true (.op (.bin .leq) (.cons (.inp 0) (.cons (.cst (.int .i32 1071)) .nil))) (.cst (.bool false))))] none)))))) Q env w := rfl
def h78_8 : HC := (.cnd 2 .skip h78_7)
@[simp] theorem h78_8_wp {P : Program} {F : PF P} {Q : EX → List Value → World → Prop} {env : List Value} {w : World} : h78_8.wp F Q env w = HC.wp F (.cnd 2 .skip h78_7) Q env w := rfl
def h78_9 : HC := (.seq (.reg (.chk none (.bin .geq) (.cons (.inp 0) (.cons (.cst (.int .i32 913)) .nil)) (.bnd (.op (.bin .geq) (.cons (.inp 0) (.cons (.cst (.int .i32 913)) .nil))) (.chk (some ((.bv 0), true)) (.bin .leq) (.cons (.inp 0) (.cons (.cst (.int .i32 937)) .nil)) (.isb none (.bv 0) (.bnd (.ite (.bv 0) true (.op (.bin .leq) (.cons (.inp 0) (.cons (.cst (.int .i32 937)) .nil))) (.cst (.bool false))) (.chk (some ((.bv 1), true)) (.bin .neq) (.cons (.inp 0) (.cons (.cst (.int .i32 930)) .nil)) (.isb none (.bv 1) (.done [(2, (.ite (.bv 1) true (.op (.bin .neq) (.cons (.inp 0) (.cons (.cst (.int .i32 930)) .nil))) (.cst (.bool false))))] none))))))))) h78_8)
@[simp] theorem h78_9_wp {P : Program} {F : PF P} {Q : EX → List Value → World → Prop} {env : List Value} {w : World} : h78_9.wp F Q env w = HC.wp F (.seq (.reg (.chk none (.bin .geq) (.cons (.inp 0) (.cons (.cst (.int .i32 913)) .nil)) (.bnd (.op (.bin .geq) (.cons (.inp 0) (.cons (.cst (.int .i32 913)) .nil))) (.chk (some ((.bv 0), true)) (.bin .leq) (.cons (.inp 0) (.cons (.cst (.int .i32 937)) .nil)) (.isb none (.bv 0) (.bnd (.ite (.bv 0) true (.op (.bin .leq) (.cons (.inp 0) (.cons (.cst (.int .i32 937)) .nil))) (.cst (.bool false))) (.chk (some ((.bv 1), true)) (.bin .neq) (.cons (.inp 0) (.cons (.cst (.int .i32 930)) .nil)) (.isb none (.bv 1) (.done [(2, (.ite (.bv 1) true (.op (.bin .neq) (.cons (.inp 0) (.cons (.cst (.int .i32 930)) .nil))) (.cst (.bool false))))] none))))))))) h78_8) Q env w := rfl
def h78_10 : HC := (.cnd 2 .skip h78_9)
@[simp] theorem h78_10_wp {P : Program} {F : PF P} {Q : EX → List Value → World → Prop} {env : List Value} {w : World} : h78_10.wp F Q env w = HC.wp F (.cnd 2 .skip h78_9) Q env w := rfl
def h78_11 : HC := (.seq (.reg (.chk none (.bin .geq) (.cons (.inp 0) (.cons (.cst (.int .i32 192)) .nil)) (.bnd (.op (.bin .geq) (.cons (.inp 0) (.cons (.cst (.int .i32 192)) .nil))) (.chk (some ((.bv 0), true)) (.bin .leq) (.cons (.inp 0) (.cons (.cst (.int .i32 222)) .nil)) (.isb none (.bv 0) (.bnd (.ite (.bv 0) true (.op (.bin .leq) (.cons (.inp 0) (.cons (.cst (.int .i32 222)) .nil))) (.cst (.bool false))) (.chk (some ((.bv 1), true)) (.bin .neq) (.cons (.inp 0) (.cons (.cst (.int .i32 215)) .nil)) (.isb none (.bv 1) (.done [(2, (.ite (.bv 1) true (.op (.bin .neq) (.cons (.inp 0) (.cons (.cst (.int .i32 215)) .nil))) (.cst (.bool false))))] none))))))))) h78_10)
@[simp] theorem h78_11_wp {P : Program} {F : PF P} {Q : EX → List Value → World → Prop} {env : List Value} {w : World} : h78_11.wp F Q env w = HC.wp F (.seq (.reg (.chk none (.bin .geq) (.cons (.inp 0) (.cons (.cst (.int .i32 192)) .nil)) (.bnd (.op (.bin .geq) (.cons (.inp 0) (.cons (.cst (.int .i32 192)) .nil))) (.chk (some ((.bv 0), true)) (.bin .leq) (.cons (.inp 0) (.cons (.cst (.int .i32 222)) .nil)) (.isb none (.bv 0) (.bnd (.ite (.bv 0) true (.op (.bin .leq) (.cons (.inp 0) (.cons (.cst (.int .i32 222)) .nil))) (.cst (.bool false))) (.chk (some ((.bv 1), true)) (.bin .neq) (.cons (.inp 0) (.cons (.cst (.int .i32 215)) .nil)) (.isb none (.bv 1) (.done [(2, (.ite (.bv 1) true (.op (.bin .neq) (.cons (.inp 0) (.cons (.cst (.int .i32 215)) .nil))) (.cst (.bool false))))] none))))))))) h78_10) Q env w := rfl
def h78_12 : HC := (.seq (.cnd 2 .skip h78_11) h78_6)
@[simp] theorem h78_12_wp {P : Program} {F : PF P} {Q : EX → List Value → World → Prop} {env : List Value} {w : World} : h78_12.wp F Q env w = HC.wp F (.seq (.cnd 2 .skip h78_11) h78_6) Q env w := rfl
def h78_13 : HC := (.seq (.reg (.chk none (.bin .geq) (.cons (.inp 0) (.cons (.cst (.int .i32 65)) .nil)) (.bnd (.op (.bin .geq) (.cons (.inp 0) (.cons (.cst (.int .i32 65)) .nil))) (.chk (some ((.bv 0), true)) (.bin .leq) (.cons (.inp 0) (.cons (.cst (.int .i32 90)) .nil)) (.isb none (.bv 0) (.done [(2, (.ite (.bv 0) true (.op (.bin .leq) (.cons (.inp 0) (.cons (.cst (.int .i32 90)) .nil))) (.cst (.bool false))))] none)))))) h78_12)
@[simp] theorem h78_13_wp {P : Program} {F : PF P} {Q : EX → List Value → World → Prop} {env : List Value} {w : World} : h78_13.wp F Q env w = HC.wp F (.seq (.reg (.chk none (.bin .geq) (.cons (.inp 0) (.cons (.cst (.int .i32 65)) .nil)) (.bnd (.op (.bin .geq) (.cons (.inp 0) (.cons (.cst (.int .i32 65)) .nil))) (.chk (some ((.bv 0), true)) (.bin .leq) (.cons (.inp 0) (.cons (.cst (.int .i32 90)) .nil)) (.isb none (.bv 0) (.done [(2, (.ite (.bv 0) true (.op (.bin .leq) (.cons (.inp 0) (.cons (.cst (.int .i32 90)) .nil))) (.cst (.bool false))))] none)))))) h78_12) Q env w := rfl
def h78_14 : HC := (.seq (.block 0 h78_13) h78_0)
@[simp] theorem h78_14_wp {P : Program} {F : PF P} {Q : EX → List Value → World → Prop} {env : List Value} {w : World} : h78_14.wp F Q env w = HC.wp F (.seq (.block 0 h78_13) h78_0) Q env w := rfl
def l78 : Lifted := ⟨[0, 2, 3], 45, [.slot 1], (.seq (.reg (.done [(1, (.cst (.int .i32 0)))] none)) h78_14)⟩
theorem l78_ok : liftFn F0 78 400 = some l78 := by kernel_rfl

-- internal/stringslite.HasPrefix
def h87_0 : HC := (.seq (.reg (.chk none .lenS (.cons (.inp 0) .nil) (.chk none .lenS (.cons (.inp 1) .nil) (.chk none (.bin .geq) (.cons (.op .lenS (.cons (.inp 0) .nil)) (.cons (.op .lenS (.cons (.inp 1) .nil)) .nil)) (.bnd (.op (.bin .geq) (.cons (.op .lenS (.cons (.inp 0) .nil)) (.cons (.op .lenS (.cons (.inp 1) .nil)) .nil))) (.chk (some ((.bv 0), true)) .lenS (.cons (.inp 1) .nil) (.chk (some ((.bv 0), true)) (.slS false true) (.cons (.inp 0) (.cons (.op .lenS (.cons (.inp 1) .nil)) .nil)) (.chk (some ((.bv 0), true)) (.bin .eql) (.cons (.op (.slS false true) (.cons (.inp 0) (.cons (.op .lenS (.cons (.inp 1) .nil)) .nil))) (.cons (.inp 1) .nil)) (.isb none (.bv 0) (.done [(2, (.ite (.bv 0) true (.op (.bin .eql) (.cons (.op (.slS false true) (.cons (.inp 0) (.cons (.op .lenS (.cons (.inp 1) .nil)) .nil))) (.cons (.inp 1) .nil))) (.cst (.bool false))))] none)))))))))) .ret)
@[simp] theorem h87_0_wp {P : Program} {F : PF P} {Q : EX → List Value → World → Prop} {env : List Value} {w : World} : h87_0.wp F Q env w = HC.wp F (.seq (.reg (.chk none .lenS (.cons (.inp 0) .nil) (.chk none .lenS (.cons (.inp 1) .nil) (.chk none (.bin .geq) (.cons (.op .lenS (.cons (.inp 0) .nil)) (.cons (.op .lenS (.cons (.inp 1) .nil)) .nil)) (.bnd (.op (.bin .geq) (.cons (.op .lenS (.cons (.inp 0) .nil)) (.cons (.op .lenS (.cons (.inp 1) .nil)) .nil))) (.chk (some ((.bv 0), true)) .lenS (.cons (.inp 1) .nil) (.chk (some ((.bv 0), true)) (.slS false true) (.cons (.inp 0) (.cons (.op .lenS (.cons (.inp 1) .nil)) .nil)) (.chk (some ((.bv 0), true)) (.bin .eql) (.cons (.op (.slS false true) (.cons (.inp 0) (.cons (.op .lenS (.cons (.inp 1) .nil)) .nil))) (.cons (.inp 1) .nil)) (.isb none (.bv 0) (.done [(2, (.ite (.bv 0) true (.op (.bin .eql) (.cons (.op (.slS false true) (.cons (.inp 0) (.cons (.op .lenS (.cons (.inp 1) .nil)) .nil))) (.cons (.inp 1) .nil))) (.cst (.bool false))))] none)))))))))) .ret) Q env w := rfl
def l87 : Lifted := ⟨[0, 1, 4], 18, [.slot 2], (.seq (.reg (.done [(2, (.cst (.bool false)))] none)) h87_0)⟩
theorem l87_ok : liftFn F0 87 400 = some l87 := by kernel_rfl



theorem tail_spec (l : List UInt8) (i n : Nat) (v : Int) (w : World) (hi : i < l.length) (hn : n ≤ 3) (hv : 0 ≤ v) (hv2 : v < 32) (hl : l.length ≤ 1048576) :
    CallW Try.prog 95 [.string (mk l), .int .i64 i, .int .i64 n, .int .i64 v] (fun r w' =>
      r = (match tailF (l.drop (i + 1)) n v with | some u => .tuple #[.int .i64 u, .bool true] | none => .tuple #[.int .i64 0, .bool false]) ∧ w' = w) w := by
  refine callW_of_lift l95_ok (by simp [l95]) ?_
  simp [l95]
  refine loopI (fun env w' => ∃ (k : Nat) (x : Int), env = [.string (mk l), .int .i64 i, .int .i64 n, .int .i64 x, .int .i64 0, .bool false, .int .i64 (k + 1 : Nat)] ∧ w' = w ∧ k ≤ n ∧ 0 ≤ x ∧ x < 32 * 64 ^ k ∧
      tailF (l.drop (i + 1)) n v = tailF (l.drop (i + 1 + k)) (n - k) x) (fun env _ => 5 - slotN env 6) ⟨0, v, by simp, rfl, by omega, hv, by simpa using hv2, rfl⟩ ?_
  rintro LQ env w' ⟨k, x, rfl, rfl, hk, hx, hx2, ht⟩ hN hE hR
  have hx3 : x < 8388608 := by
    have : k = 0 ∨ k = 1 ∨ k = 2 ∨ k = 3 := by omega
    rcases this with rfl | rfl | rfl | rfl <;> omega
  simp
  refine cndI (fun h => ?_) (fun h => ?_)
  · simp at h
    have e0 : n - k = (n - (k + 1)) + 1 := by omega
    rw [e0, tailF_cons] at ht
    have hg : (l.drop (i + 1 + k)).getD 0 0 = l[i + (k + 1)]?.getD 0 := by simp [List.getElem?_drop, Nat.add_comm, Nat.add_left_comm]
    have hc : contAt (l.drop (i + 1 + k)) 0 = decide (i + (k + 1) < l.length ∧ 128 ≤ (l[i + (k + 1)]?.getD 0).toNat ∧ (l[i + (k + 1)]?.getD 0).toNat ≤ 191) := by
      simp only [contAt, hg, List.length_drop]
      rw [Bool.eq_iff_iff]
      simp
      omega
    have hb := (l[i + (k + 1)]?.getD 0).toNat_lt
    have ei : ((i : Int) + ((k : Int) + 1)).toNat = i + (k + 1) := by omega
    rw [hc, hg] at ht
    simp
    try simp (disch := omega) only [wrap64, ei]
    refine ⟨by omega, by omega, ?_⟩
    refine cndI (fun h2 => ?_) (fun h2 => ?_)
    · simp only [Bool.or_eq_true, decide_eq_true_eq] at h2
      simp
      refine hR _ _ ?_
      simp
      rw [ht, if_neg (by simp; omega)]
    · simp at h2
      rw [if_pos (by simp; omega)] at ht
      simp
      try simp (disch := omega) only [wrap64, ei]
      refine ⟨by omega, hN _ _ ⟨k + 1, x * 64 + (l[i + (k + 1)]?.getD 0).toNat - 128, by simp, rfl, by omega, by omega, by rw [Int.pow_succ]; omega, ?_⟩ (by simp [slotN]; omega)⟩
      rw [ht]
      simp [Nat.add_assoc]
  · simp at h
    simp
    refine hE _ _ _ ?_
    simp
    have : k = n := by omega
    subst this
    rw [ht]
    simp [tailF_zero]

def inF (u lo hi : Int) : Bool := decide (lo ≤ u) && decide (u ≤ hi)
theorem in_spec (u lo hi : Int) (w : World) : CallW Try.prog 90 [.int .i64 u, .int .i64 lo, .int .i64 hi] (fun r w' => r = .bool (inF u lo hi) ∧ w' = w) w := by
  refine callW_of_lift l90_ok (by simp [l90]) ?_
  simp [l90, inF]
def joinerF (u : Int) : Bool := decide (u = 32) || decide (u = 45) || decide (u = 95)
theorem rjoiner_spec (u : Int) (w : World) : CallW Try.prog 81 [.int .i64 u] (fun r w' => r = .bool (joinerF u) ∧ w' = w) w := by
  refine callW_of_lift l81_ok (by simp [l81]) ?_
  simp [l81, joinerF]
theorem joiner_spec (u : Int) (w : World) : CallW Try.prog 46 [.int .i32 u] (fun r w' => r = .bool (joinerF u) ∧ w' = w) w := by
  refine callW_of_lift l46_ok (by simp [l46]) ?_
  simp [l46, joinerF]
def letterF (u : Int) : Bool := !(decide (u = 215) || decide (u = 247) || decide (u = 930)) &&
  (inF u 48 57 || inF u 65 90 || inF u 97 122 || inF u 192 255 || inF u 913 937 || inF u 945 969 || decide (u = 1025) || inF u 1040 1103 || decide (u = 1105))
theorem letter_spec (u : Int) (w : World) : CallW Try.prog 45 [.int .i32 u] (fun r w' => r = .bool (letterF u) ∧ w' = w) w := by
  refine callW_of_lift l45_ok (by simp [l45]) ?_
  simp [l45, condC_ite, letterF, inF]
  repeat' split
  all_goals (try simp)
  all_goals (try (rw [Bool.eq_iff_iff]; simp))
  all_goals omega
def foldF (u : Int) : Int :=
  if (65 ≤ u ∧ u ≤ 90) ∨ (192 ≤ u ∧ u ≤ 222 ∧ u ≠ 215) ∨ (913 ≤ u ∧ u ≤ 937 ∧ u ≠ 930) ∨ (1040 ≤ u ∧ u ≤ 1071) then u + 32
  else if u = 1025 then 1105 else if u = 962 then 963 else u
theorem fold_spec (u : Int) (w : World) (h0 : 0 ≤ u) (h1 : u < 2097408) : CallW Try.prog 78 [.int .i32 u] (fun r w' => r = .int .i32 (foldF u) ∧ w' = w) w := by
  refine callW_of_lift l78_ok (by simp [l78]) ?_
  simp [l78, condC_ite, foldF]
  repeat' split
  all_goals (try simp (disch := omega) only [wrap32])
  all_goals (try (first | rfl | omega))
theorem slhp_spec (s p : List UInt8) (w : World) (hs : s.length ≤ 1048576) : CallW Try.prog 87 [.string (mk s), .string (mk p)] (fun r w' => r = .bool (p.isPrefixOf s) ∧ w' = w) w := by
  refine callW_of_lift l87_ok (by simp [l87]) ?_
  simp [l87]
  rw [Bool.eq_iff_iff]
  simp only [Bool.and_eq_true, decide_eq_true_eq, beq_iff_eq, List.isPrefixOf_iff_prefix]
  constructor
  · rintro ⟨h1, h2⟩
    exact List.prefix_iff_eq_take.2 h2.symm
  · intro h
    exact ⟨h.length_le, (List.prefix_iff_eq_take.1 h).symm⟩
end Go.HL.Nm
