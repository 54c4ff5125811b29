/-
  What the claim leans on, part 4 of 12. Conditions: as each theorem says.
-/
import Derived.Test.YtliofpihaemglaaPlMc
import Derived.Test.YtliofpihaemglaaProg
namespace Go.HL.Nm
open Go.HL Go.Proofs
set_option maxRecDepth 4000
set_option linter.unusedSimpArgs false
set_option linter.unusedVariables false
noncomputable abbrev F0 : PF Try.prog := PF.none _
-- bazaar/bazaarref04.tail
def h95_0 : HC := (.seq (.reg (.done [(4, (.inp 3)), (5, (.cst (.bool true)))] none)) .ret)
@[simp] theorem h95_0_wp {P : Program} {F : PF P} {Q : EX → List Value → World → Prop} {env : List Value} {w : World} : h95_0.wp F Q env w = HC.wp F (.seq (.reg (.done [(4, (.inp 3)), (5, (.cst (.bool true)))] none)) .ret) Q env w := rfl
def h95_1 : HC := (.reg (.chk none (.bin .add) (.cons (.inp 6) (.cons (.cst (.int .i64 1)) .nil)) (.done [(6, (.op (.bin .add) (.cons (.inp 6) (.cons (.cst (.int .i64 1)) .nil))))] none)))
@[simp] theorem h95_1_wp {P : Program} {F : PF P} {Q : EX → List Value → World → Prop} {env : List Value} {w : World} : h95_1.wp F Q env w = HC.wp F (.reg (.chk none (.bin .add) (.cons (.inp 6) (.cons (.cst (.int .i64 1)) .nil)) (.done [(6, (.op (.bin .add) (.cons (.inp 6) (.cons (.cst (.int .i64 1)) .nil))))] none))) Q env w := rfl
def h95_2 : HC := (.reg (.chk none (.bin .mul) (.cons (.inp 3) (.cons (.cst (.int .i64 64)) .nil)) (.chk none (.bin .add) (.cons (.inp 1) (.cons (.inp 6) .nil)) (.chk none .chS (.cons (.inp 0) (.cons (.op (.bin .add) (.cons (.inp 1) (.cons (.inp 6) .nil))) .nil)) (.chk none (.convI .i64) (.cons (.op .chS (.cons (.inp 0) (.cons (.op (.bin .add) (.cons (.inp 1) (.cons (.inp 6) .nil))) .nil))) .nil) (.chk none (.bin .add) (.cons (.op (.bin .mul) (.cons (.inp 3) (.cons (.cst (.int .i64 64)) .nil))) (.cons (.op (.convI .i64) (.cons (.op .chS (.cons (.inp 0) (.cons (.op (.bin .add) (.cons (.inp 1) (.cons (.inp 6) .nil))) .nil))) .nil)) .nil)) (.chk none (.bin .sub) (.cons (.op (.bin .add) (.cons (.op (.bin .mul) (.cons (.inp 3) (.cons (.cst (.int .i64 64)) .nil))) (.cons (.op (.convI .i64) (.cons (.op .chS (.cons (.inp 0) (.cons (.op (.bin .add) (.cons (.inp 1) (.cons (.inp 6) .nil))) .nil))) .nil)) .nil))) (.cons (.cst (.int .i64 128)) .nil)) (.done [(3, (.op (.bin .sub) (.cons (.op (.bin .add) (.cons (.op (.bin .mul) (.cons (.inp 3) (.cons (.cst (.int .i64 64)) .nil))) (.cons (.op (.convI .i64) (.cons (.op .chS (.cons (.inp 0) (.cons (.op (.bin .add) (.cons (.inp 1) (.cons (.inp 6) .nil))) .nil))) .nil)) .nil))) (.cons (.cst (.int .i64 128)) .nil))))] none))))))))
@[simp] theorem h95_2_wp {P : Program} {F : PF P} {Q : EX → List Value → World → Prop} {env : List Value} {w : World} : h95_2.wp F Q env w = HC.wp F (.reg (.chk none (.bin .mul) (.cons (.inp 3) (.cons (.cst (.int .i64 64)) .nil)) (.chk none (.bin .add) (.cons (.inp 1) (.cons (.inp 6) .nil)) (.chk none .chS (.cons (.inp 0) (.cons (.op (.bin .add) (.cons (.inp 1) (.cons (.inp 6) .nil))) .nil)) (.chk none (.convI .i64) (.cons (.op .chS (.cons (.inp 0) (.cons (.op (.bin .add) (.cons (.inp 1) (.cons (.inp 6) .nil))) .nil))) .nil) (.chk none (.bin .add) (.cons (.op (.bin .mul) (.cons (.inp 3) (.cons (.cst (.int .i64 64)) .nil))) (.cons (.op (.convI .i64) (.cons (.op .chS (.cons (.inp 0) (.cons (.op (.bin .add) (.cons (.inp 1) (.cons (.inp 6) .nil))) .nil))) .nil)) .nil)) (.chk none (.bin .sub) (.cons (.op (.bin .add) (.cons (.op (.bin .mul) (.cons (.inp 3) (.cons (.cst (.int .i64 64)) .nil))) (.cons (.op (.convI .i64) (.cons (.op .chS (.cons (.inp 0) (.cons (.op (.bin .add) (.cons (.inp 1) (.cons (.inp 6) .nil))) .nil))) .nil)) .nil))) (.cons (.cst (.int .i64 128)) .nil)) (.done [(3, (.op (.bin .sub) (.cons (.op (.bin .add) (.cons (.op (.bin .mul) (.cons (.inp 3) (.cons (.cst (.int .i64 64)) .nil))) (.cons (.op (.convI .i64) (.cons (.op .chS (.cons (.inp 0) (.cons (.op (.bin .add) (.cons (.inp 1) (.cons (.inp 6) .nil))) .nil))) .nil)) .nil))) (.cons (.cst (.int .i64 128)) .nil))))] none)))))))) Q env w := rfl
def h95_3 : HC := (.seq (.reg (.done [(4, (.cst (.int .i64 0))), (5, (.cst (.bool false)))] none)) .ret)
@[simp] theorem h95_3_wp {P : Program} {F : PF P} {Q : EX → List Value → World → Prop} {env : List Value} {w : World} : h95_3.wp F Q env w = HC.wp F (.seq (.reg (.done [(4, (.cst (.int .i64 0))), (5, (.cst (.bool false)))] none)) .ret) Q env w := rfl
def h95_4 : HC := (.seq (.br (.chk none (.bin .add) (.cons (.inp 1) (.cons (.inp 6) .nil)) (.chk none .lenS (.cons (.inp 0) .nil) (.chk none (.bin .geq) (.cons (.op (.bin .add) (.cons (.inp 1) (.cons (.inp 6) .nil))) (.cons (.op .lenS (.cons (.inp 0) .nil)) .nil)) (.bnd (.op (.bin .geq) (.cons (.op (.bin .add) (.cons (.inp 1) (.cons (.inp 6) .nil))) (.cons (.op .lenS (.cons (.inp 0) .nil)) .nil))) (.chk (some ((.bv 0), false)) (.bin .add) (.cons (.inp 1) (.cons (.inp 6) .nil)) (.chk (some ((.bv 0), false)) .chS (.cons (.inp 0) (.cons (.op (.bin .add) (.cons (.inp 1) (.cons (.inp 6) .nil))) .nil)) (.chk (some ((.bv 0), false)) (.bin .lss) (.cons (.op .chS (.cons (.inp 0) (.cons (.op (.bin .add) (.cons (.inp 1) (.cons (.inp 6) .nil))) .nil))) (.cons (.cst (.int .u8 128)) .nil)) (.isb none (.bv 0) (.bnd (.ite (.bv 0) true (.cst (.bool true)) (.op (.bin .lss) (.cons (.op .chS (.cons (.inp 0) (.cons (.op (.bin .add) (.cons (.inp 1) (.cons (.inp 6) .nil))) .nil))) (.cons (.cst (.int .u8 128)) .nil)))) (.chk (some ((.bv 1), false)) (.bin .add) (.cons (.inp 1) (.cons (.inp 6) .nil)) (.chk (some ((.bv 1), false)) .chS (.cons (.inp 0) (.cons (.op (.bin .add) (.cons (.inp 1) (.cons (.inp 6) .nil))) .nil)) (.chk (some ((.bv 1), false)) (.bin .gtr) (.cons (.op .chS (.cons (.inp 0) (.cons (.op (.bin .add) (.cons (.inp 1) (.cons (.inp 6) .nil))) .nil))) (.cons (.cst (.int .u8 191)) .nil)) (.isb none (.bv 1) (.done [] (some (.ite (.bv 1) true (.cst (.bool true)) (.op (.bin .gtr) (.cons (.op .chS (.cons (.inp 0) (.cons (.op (.bin .add) (.cons (.inp 1) (.cons (.inp 6) .nil))) .nil))) (.cons (.cst (.int .u8 191)) .nil))))))))))))))))))) h95_3 .skip) h95_2)
@[simp] theorem h95_4_wp {P : Program} {F : PF P} {Q : EX → List Value → World → Prop} {env : List Value} {w : World} : h95_4.wp F Q env w = HC.wp F (.seq (.br (.chk none (.bin .add) (.cons (.inp 1) (.cons (.inp 6) .nil)) (.chk none .lenS (.cons (.inp 0) .nil) (.chk none (.bin .geq) (.cons (.op (.bin .add) (.cons (.inp 1) (.cons (.inp 6) .nil))) (.cons (.op .lenS (.cons (.inp 0) .nil)) .nil)) (.bnd (.op (.bin .geq) (.cons (.op (.bin .add) (.cons (.inp 1) (.cons (.inp 6) .nil))) (.cons (.op .lenS (.cons (.inp 0) .nil)) .nil))) (.chk (some ((.bv 0), false)) (.bin .add) (.cons (.inp 1) (.cons (.inp 6) .nil)) (.chk (some ((.bv 0), false)) .chS (.cons (.inp 0) (.cons (.op (.bin .add) (.cons (.inp 1) (.cons (.inp 6) .nil))) .nil)) (.chk (some ((.bv 0), false)) (.bin .lss) (.cons (.op .chS (.cons (.inp 0) (.cons (.op (.bin .add) (.cons (.inp 1) (.cons (.inp 6) .nil))) .nil))) (.cons (.cst (.int .u8 128)) .nil)) (.isb none (.bv 0) (.bnd (.ite (.bv 0) true (.cst (.bool true)) (.op (.bin .lss) (.cons (.op .chS (.cons (.inp 0) (.cons (.op (.bin .add) (.cons (.inp 1) (.cons (.inp 6) .nil))) .nil))) (.cons (.cst (.int .u8 128)) .nil)))) (.chk (some ((.bv 1), false)) (.bin .add) (.cons (.inp 1) (.cons (.inp 6) .nil)) (.chk (some ((.bv 1), false)) .chS (.cons (.inp 0) (.cons (.op (.bin .add) (.cons (.inp 1) (.cons (.inp 6) .nil))) .nil)) (.chk (some ((.bv 1), false)) (.bin .gtr) (.cons (.op .chS (.cons (.inp 0) (.cons (.op (.bin .add) (.cons (.inp 1) (.cons (.inp 6) .nil))) .nil))) (.cons (.cst (.int .u8 191)) .nil)) (.isb none (.bv 1) (.done [] (some (.ite (.bv 1) true (.cst (.bool true)) (.op (.bin .gtr) (.cons (.op .chS (.cons (.inp 0) (.cons (.op (.bin .add) (.cons (.inp 1) (.cons (.inp 6) .nil))) .nil))) (.cons (.cst (.int .u8 191)) .nil))))))))))))))))))) h95_3 .skip) h95_2) Q env w := rfl
def h95_5 : HC := (.seq (.block 1 h95_4) h95_1)
@[simp] theorem h95_5_wp {P : Program} {F : PF P} {Q : EX → List Value → World → Prop} {env : List Value} {w : World} : h95_5.wp F Q env w = HC.wp F (.seq (.block 1 h95_4) h95_1) Q env w := rfl
def h95_6 : HC := (.seq (.br (.chk none (.bin .leq) (.cons (.inp 6) (.cons (.inp 2) .nil)) (.done [] (some (.op (.bin .leq) (.cons (.inp 6) (.cons (.inp 2) .nil)))))) .skip (.exit 0)) h95_5)
@[simp] theorem h95_6_wp {P : Program} {F : PF P} {Q : EX → List Value → World → Prop} {env : List Value} {w : World} : h95_6.wp F Q env w = HC.wp F (.seq (.br (.chk none (.bin .leq) (.cons (.inp 6) (.cons (.inp 2) .nil)) (.done [] (some (.op (.bin .leq) (.cons (.inp 6) (.cons (.inp 2) .nil)))))) .skip (.exit 0)) h95_5) Q env w := rfl
def h95_7 : HC := (.loop h95_6)
@[simp] theorem h95_7_wp {P : Program} {F : PF P} {Q : EX → List Value → World → Prop} {env : List Value} {w : World} : h95_7.wp F Q env w = HC.wp F (.loop h95_6) Q env w := rfl
def h95_8 : HC := (.seq (.block 0 h95_7) h95_0)
@[simp] theorem h95_8_wp {P : Program} {F : PF P} {Q : EX → List Value → World → Prop} {env : List Value} {w : World} : h95_8.wp F Q env w = HC.wp F (.seq (.block 0 h95_7) h95_0) Q env w := rfl
def h95_9 : HC := (.seq (.reg (.done [(6, (.cst (.int .i64 1)))] none)) h95_8)
@[simp] theorem h95_9_wp {P : Program} {F : PF P} {Q : EX → List Value → World → Prop} {env : List Value} {w : World} : h95_9.wp F Q env w = HC.wp F (.seq (.reg (.done [(6, (.cst (.int .i64 1)))] none)) h95_8) Q env w := rfl
def l95 : Lifted := ⟨[0, 1, 2, 3, 8, 9, 10], 49, [.slot 4, .slot 5], (.seq (.reg (.done [(4, (.cst (.int .i64 0))), (5, (.cst (.bool false)))] none)) h95_9)⟩
theorem l95_ok : liftFn F0 95 400 = some l95 := by kernel_rfl

-- bazaar/bazaarref04.in
def h90_0 : HC := (.seq (.reg (.chk none (.bin .geq) (.cons (.inp 0) (.cons (.inp 1) .nil)) (.bnd (.op (.bin .geq) (.cons (.inp 0) (.cons (.inp 1) .nil))) (.chk (some ((.bv 0), true)) (.bin .leq) (.cons (.inp 0) (.cons (.inp 2) .nil)) (.isb none (.bv 0) (.done [(3, (.ite (.bv 0) true (.op (.bin .leq) (.cons (.inp 0) (.cons (.inp 2) .nil))) (.cst (.bool false))))] none)))))) .ret)
@[simp] theorem h90_0_wp {P : Program} {F : PF P} {Q : EX → List Value → World → Prop} {env : List Value} {w : World} : h90_0.wp F Q env w = HC.wp F (.seq (.reg (.chk none (.bin .geq) (.cons (.inp 0) (.cons (.inp 1) .nil)) (.bnd (.op (.bin .geq) (.cons (.inp 0) (.cons (.inp 1) .nil))) (.chk (some ((.bv 0), true)) (.bin .leq) (.cons (.inp 0) (.cons (.inp 2) .nil)) (.isb none (.bv 0) (.done [(3, (.ite (.bv 0) true (.op (.bin .leq) (.cons (.inp 0) (.cons (.inp 2) .nil))) (.cst (.bool false))))] none)))))) .ret) Q env w := rfl
def l90 : Lifted := ⟨[0, 1, 2, 6], 15, [.slot 3], (.seq (.reg (.done [(3, (.cst (.bool false)))] none)) h90_0)⟩
theorem l90_ok : liftFn F0 90 400 = some l90 := by kernel_rfl

-- bazaar/bazaarref04.Joiner
def h81_0 : HC := (.seq (.reg (.chk none (.bin .eql) (.cons (.inp 0) (.cons (.cst (.int .i64 32)) .nil)) (.bnd (.op (.bin .eql) (.cons (.inp 0) (.cons (.cst (.int .i64 32)) .nil))) (.chk (some ((.bv 0), false)) (.bin .eql) (.cons (.inp 0) (.cons (.cst (.int .i64 45)) .nil)) (.isb none (.bv 0) (.bnd (.ite (.bv 0) true (.cst (.bool true)) (.op (.bin .eql) (.cons (.inp 0) (.cons (.cst (.int .i64 45)) .nil)))) (.chk (some ((.bv 1), false)) (.bin .eql) (.cons (.inp 0) (.cons (.cst (.int .i64 95)) .nil)) (.isb none (.bv 1) (.done [(1, (.ite (.bv 1) true (.cst (.bool true)) (.op (.bin .eql) (.cons (.inp 0) (.cons (.cst (.int .i64 95)) .nil)))))] none))))))))) .ret)
@[simp] theorem h81_0_wp {P : Program} {F : PF P} {Q : EX → List Value → World → Prop} {env : List Value} {w : World} : h81_0.wp F Q env w = HC.wp F (.seq (.reg (.chk none (.bin .eql) (.cons (.inp 0) (.cons (.cst (.int .i64 32)) .nil)) (.bnd (.op (.bin .eql) (.cons (.inp 0) (.cons (.cst (.int .i64 32)) .nil))) (.chk (some ((.bv 0), false)) (.bin .eql) (.cons (.inp 0) (.cons (.cst (.int .i64 45)) .nil)) (.isb none (.bv 0) (.bnd (.ite (.bv 0) true (.cst (.bool true)) (.op (.bin .eql) (.cons (.inp 0) (.cons (.cst (.int .i64 45)) .nil)))) (.chk (some ((.bv 1), false)) (.bin .eql) (.cons (.inp 0) (.cons (.cst (.int .i64 95)) .nil)) (.isb none (.bv 1) (.done [(1, (.ite (.bv 1) true (.cst (.bool true)) (.op (.bin .eql) (.cons (.inp 0) (.cons (.cst (.int .i64 95)) .nil)))))] none))))))))) .ret) Q env w := rfl
def l81 : Lifted := ⟨[0, 2], 13, [.slot 1], (.seq (.reg (.done [(1, (.cst (.bool false)))] none)) h81_0)⟩
theorem l81_ok : liftFn F0 81 400 = some l81 := by kernel_rfl

-- bazaar/name.joiner
def h46_0 : HC := (.seq (.reg (.chk none (.bin .eql) (.cons (.inp 0) (.cons (.cst (.int .i32 32)) .nil)) (.bnd (.op (.bin .eql) (.cons (.inp 0) (.cons (.cst (.int .i32 32)) .nil))) (.chk (some ((.bv 0), false)) (.bin .eql) (.cons (.inp 0) (.cons (.cst (.int .i32 45)) .nil)) (.isb none (.bv 0) (.bnd (.ite (.bv 0) true (.cst (.bool true)) (.op (.bin .eql) (.cons (.inp 0) (.cons (.cst (.int .i32 45)) .nil)))) (.chk (some ((.bv 1), false)) (.bin .eql) (.cons (.inp 0) (.cons (.cst (.int .i32 95)) .nil)) (.isb none (.bv 1) (.done [(1, (.ite (.bv 1) true (.cst (.bool true)) (.op (.bin .eql) (.cons (.inp 0) (.cons (.cst (.int .i32 95)) .nil)))))] none))))))))) .ret)
@[simp] theorem h46_0_wp {P : Program} {F : PF P} {Q : EX → List Value → World → Prop} {env : List Value} {w : World} : h46_0.wp F Q env w = HC.wp F (.seq (.reg (.chk none (.bin .eql) (.cons (.inp 0) (.cons (.cst (.int .i32 32)) .nil)) (.bnd (.op (.bin .eql) (.cons (.inp 0) (.cons (.cst (.int .i32 32)) .nil))) (.chk (some ((.bv 0), false)) (.bin .eql) (.cons (.inp 0) (.cons (.cst (.int .i32 45)) .nil)) (.isb none (.bv 0) (.bnd (.ite (.bv 0) true (.cst (.bool true)) (.op (.bin .eql) (.cons (.inp 0) (.cons (.cst (.int .i32 45)) .nil)))) (.chk (some ((.bv 1), false)) (.bin .eql) (.cons (.inp 0) (.cons (.cst (.int .i32 95)) .nil)) (.isb none (.bv 1) (.done [(1, (.ite (.bv 1) true (.cst (.bool true)) (.op (.bin .eql) (.cons (.inp 0) (.cons (.cst (.int .i32 95)) .nil)))))] none))))))))) .ret) Q env w := rfl
def l46 : Lifted := ⟨[0, 2], 13, [.slot 1], (.seq (.reg (.done [(1, (.cst (.bool false)))] none)) h46_0)⟩
theorem l46_ok : liftFn F0 46 400 = some l46 := by kernel_rfl

-- bazaar/name.letter
def h45_0 : HC := (.seq (.reg (.chk none (.bin .geq) (.cons (.inp 0) (.cons (.cst (.int .i32 945)) .nil)) (.bnd (.op (.bin .geq) (.cons (.inp 0) (.cons (.cst (.int .i32 945)) .nil))) (.chk (some ((.bv 0), true)) (.bin .leq) (.cons (.inp 0) (.cons (.cst (.int .i32 969)) .nil)) (.isb none (.bv 0) (.bnd (.ite (.bv 0) true (.op (.bin .leq) (.cons (.inp 0) (.cons (.cst (.int .i32 969)) .nil))) (.cst (.bool false))) (.chk (some ((.bv 1), false)) (.bin .geq) (.cons (.inp 0) (.cons (.cst (.int .i32 1040)) .nil)) (.bnd (.ite (.bv 1) false (.op (.bin .geq) (.cons (.inp 0) (.cons (.cst (.int .i32 1040)) .nil))) (.cst (.tuple #[]))) (.chk (some ((.bv 2), true)) (.bin .leq) (.cons (.inp 0) (.cons (.cst (.int .i32 1103)) .nil)) (.isb (some ((.bv 1), false)) (.bv 2) (.isb none (.bv 1) (.bnd (.ite (.bv 1) true (.cst (.bool true)) (.ite (.bv 2) true (.op (.bin .leq) (.cons (.inp 0) (.cons (.cst (.int .i32 1103)) .nil))) (.cst (.bool false)))) (.chk (some ((.bv 3), false)) (.bin .eql) (.cons (.inp 0) (.cons (.cst (.int .i32 1025)) .nil)) (.isb none (.bv 3) (.bnd (.ite (.bv 3) true (.cst (.bool true)) (.op (.bin .eql) (.cons (.inp 0) (.cons (.cst (.int .i32 1025)) .nil)))) (.chk (some ((.bv 4), false)) (.bin .eql) (.cons (.inp 0) (.cons (.cst (.int .i32 1105)) .nil)) (.isb none (.bv 4) (.done [(1, (.ite (.bv 4) true (.cst (.bool true)) (.op (.bin .eql) (.cons (.inp 0) (.cons (.cst (.int .i32 1105)) .nil)))))] none)))))))))))))))))) .ret)
@[simp] theorem h45_0_wp {P : Program} {F : PF P} {Q : EX → List Value → World → Prop} {env : List Value} {w : World} : h45_0.wp F Q env w = HC.wp F (.seq (.reg (.chk none (.bin .geq) (.cons (.inp 0) (.cons (.cst (.int .i32 945)) .nil)) (.bnd (.op (.bin .geq) (.cons (.inp 0) (.cons (.cst (.int .i32 945)) .nil))) (.chk (some ((.bv 0), true)) (.bin .leq) (.cons (.inp 0) (.cons (.cst (.int .i32 969)) .nil)) (.isb none (.bv 0) (.bnd (.ite (.bv 0) true (.op (.bin .leq) (.cons (.inp 0) (.cons (.cst (.int .i32 969)) .nil))) (.cst (.bool false))) (.chk (some ((.bv 1), false)) (.bin .geq) (.cons (.inp 0) (.cons (.cst (.int .i32 1040)) .nil)) (.bnd (.ite (.bv 1) false (.op (.bin .geq) (.cons (.inp 0) (.cons (.cst (.int .i32 1040)) .nil))) (.cst (.tuple #[]))) (.chk (some ((.bv 2), true)) (.bin .leq) (.cons (.inp 0) (.cons (.cst (.int .i32 1103)) .nil)) (.isb (some ((.bv 1), false)) (.bv 2) (.isb none (.bv 1) (.bnd (.ite (.bv 1) true (.cst (.bool true)) (.ite (.bv 2) true (.op (.bin .leq) (.cons (.inp 0) (.cons (.cst (.int .i32 1103)) .nil))) (.cst (.bool false)))) (.chk (some ((.bv 3), false)) (.bin .eql) (.cons (.inp 0) (.cons (.cst (.int .i32 1025)) .nil)) (.isb none (.bv 3) (.bnd (.ite (.bv 3) true (.cst (.bool true)) (.op (.bin .eql) (.cons (.inp 0) (.cons (.cst (.int .i32 1025)) .nil)))) (.chk (some ((.bv 4), false)) (.bin .eql) (.cons (.inp 0) (.cons (.cst (.int .i32 1105)) .nil)) (.isb none (.bv 4) (.done [(1, (.ite (.bv 4) true (.cst (.bool true)) (.op (.bin .eql) (.cons (.inp 0) (.cons (.cst (.int .i32 1105)) .nil)))))] none)))))))))))))))))) .ret) Q env w := rfl
def h45_1 : HC := (.seq (.reg (.done [(1, (.cst (.bool true)))] none)) .ret)
@[simp] theorem h45_1_wp {P : Program} {F : PF P} {Q : EX → List Value → World → Prop} {env : List Value} {w : World} : h45_1.wp F Q env w = HC.wp F (.seq (.reg (.done [(1, (.cst (.bool true)))] none)) .ret) Q env w := rfl
def h45_2 : HC := (.seq (.reg (.chk none (.bin .neq) (.cons (.inp 0) (.cons (.cst (.int .i32 215)) .nil)) (.bnd (.op (.bin .neq) (.cons (.inp 0) (.cons (.cst (.int .i32 215)) .nil))) (.chk (some ((.bv 0), true)) (.bin .neq) (.cons (.inp 0) (.cons (.cst (.int .i32 247)) .nil)) (.isb none (.bv 0) (.done [(1, (.ite (.bv 0) true (.op (.bin .neq) (.cons (.inp 0) (.cons (.cst (.int .i32 247)) .nil))) (.cst (.bool false))))] none)))))) .ret)
@[simp] theorem h45_2_wp {P : Program} {F : PF P} {Q : EX → List Value → World → Prop} {env : List Value} {w : World} : h45_2.wp F Q env w = HC.wp F (.seq (.reg (.chk none (.bin .neq) (.cons (.inp 0) (.cons (.cst (.int .i32 215)) .nil)) (.bnd (.op (.bin .neq) (.cons (.inp 0) (.cons (.cst (.int .i32 215)) .nil))) (.chk (some ((.bv 0), true)) (.bin .neq) (.cons (.inp 0) (.cons (.cst (.int .i32 247)) .nil)) (.isb none (.bv 0) (.done [(1, (.ite (.bv 0) true (.op (.bin .neq) (.cons (.inp 0) (.cons (.cst (.int .i32 247)) .nil))) (.cst (.bool false))))] none)))))) .ret) Q env w := rfl
def h45_3 : HC := (.seq (.reg (.chk none (.bin .neq) (.cons (.inp 0) (.cons (.cst (.int .i32 930)) .nil)) (.done [(1, (.op (.bin .neq) (.cons (.inp 0) (.cons (.cst (.int .i32 930)) .nil))))] none))) .ret)
@[simp] theorem h45_3_wp {P : Program} {F : PF P} {Q : EX → List Value → World → Prop} {env : List Value} {w : World} : h45_3.wp F Q env w = HC.wp F (.seq (.reg (.chk none (.bin .neq) (.cons (.inp 0) (.cons (.cst (.int .i32 930)) .nil)) (.done [(1, (.op (.bin .neq) (.cons (.inp 0) (.cons (.cst (.int .i32 930)) .nil))))] none))) .ret) Q env w := rfl
def h45_4 : HC := (.br (.chk none (.bin .geq) (.cons (.inp 0) (.cons (.cst (.int .i32 913)) .nil)) (.bnd (.op (.bin .geq) (.cons (.inp 0) (.cons (.cst (.int .i32 913)) .nil))) (.chk (some ((.bv 0), true)) (.bin .leq) (.cons (.inp 0) (.cons (.cst (.int .i32 937)) .nil)) (.isb none (.bv 0) (.done [] (some (.ite (.bv 0) true (.op (.bin .leq) (.cons (.inp 0) (.cons (.cst (.int .i32 937)) .nil))) (.cst (.bool false))))))))) h45_3 .skip)
@[simp] theorem h45_4_wp {P : Program} {F : PF P} {Q : EX → List Value → World → Prop} {env : List Value} {w : World} : h45_4.wp F Q env w = HC.wp F (.br (.chk none (.bin .geq) (.cons (.inp 0) (.cons (.cst (.int .i32 913)) .nil)) (.bnd (.op (.bin .geq) (.cons (.inp 0) (.cons (.cst (.int .i32 913)) .nil))) (.chk (some ((.bv 0), true)) (.bin .leq) (.cons (.inp 0) (.cons (.cst (.int .i32 937)) .nil)) (.isb none (.bv 0) (.done [] (some (.ite (.bv 0) true (.op (.bin .leq) (.cons (.inp 0) (.cons (.cst (.int .i32 937)) .nil))) (.cst (.bool false))))))))) h45_3 .skip) Q env w := rfl
def h45_5 : HC := (.br (.chk none (.bin .geq) (.cons (.inp 0) (.cons (.cst (.int .i32 192)) .nil)) (.bnd (.op (.bin .geq) (.cons (.inp 0) (.cons (.cst (.int .i32 192)) .nil))) (.chk (some ((.bv 0), true)) (.bin .leq) (.cons (.inp 0) (.cons (.cst (.int .i32 255)) .nil)) (.isb none (.bv 0) (.done [] (some (.ite (.bv 0) true (.op (.bin .leq) (.cons (.inp 0) (.cons (.cst (.int .i32 255)) .nil))) (.cst (.bool false))))))))) h45_2 h45_4)
@[simp] theorem h45_5_wp {P : Program} {F : PF P} {Q : EX → List Value → World → Prop} {env : List Value} {w : World} : h45_5.wp F Q env w = HC.wp F (.br (.chk none (.bin .geq) (.cons (.inp 0) (.cons (.cst (.int .i32 192)) .nil)) (.bnd (.op (.bin .geq) (.cons (.inp 0) (.cons (.cst (.int .i32 192)) .nil))) (.chk (some ((.bv 0), true)) (.bin .leq) (.cons (.inp 0) (.cons (.cst (.int .i32 255)) .nil)) (.isb none (.bv 0) (.done [] (some (.ite (.bv 0) true (.op (.bin .leq) (.cons (.inp 0) (.cons (.cst (.int .i32 255)) .nil))) (.cst (.bool false))))))))) h45_2 h45_4) Q env w := rfl
def h45_6 : HC := (.cnd 2 h45_1 h45_5)
@[simp] theorem h45_6_wp {P : Program} {F : PF P} {Q : EX → List Value → World → Prop} {env : List Value} {w : World} : h45_6.wp F Q env w = HC.wp F (.cnd 2 h45_1 h45_5) Q env w := rfl
def h45_7 : HC := (.reg (.chk none (.bin .geq) (.cons (.inp 0) (.cons (.cst (.int .i32 97)) .nil)) (.bnd (.op (.bin .geq) (.cons (.inp 0) (.cons (.cst (.int .i32 97)) .nil))) (.chk (some ((.bv 0), true)) (.bin .leq) (.cons (.inp 0) (.cons (.cst (.int .i32 122)) .nil)) (.isb none (.bv 0) (.done [(2, (.ite (.bv 0) true (.op (.bin .leq) (.cons (.inp 0) (.cons (.cst (.int .i32 122)) .nil))) (.cst (.bool false))))] none))))))
@[simp] theorem h45_7_wp {P : Program} {F : PF P} {Q : EX → List Value → World → Prop} {env : List Value} {w : World} : h45_7.wp F Q env w = HC.wp F (.reg (.chk none (.bin .geq) (.cons (.inp 0) (.cons (.cst (.int .i32 97)) .nil)) (.bnd (.op (.bin .geq) (.cons (.inp 0) (.cons (.cst (.int .i32 97)) .nil))) (.chk (some ((.bv 0), true)) (.bin .leq) (.cons (.inp 0) (.cons (.cst (.int .i32 122)) .nil)) (.isb none (.bv 0) (.done [(2, (.ite (.bv 0) true (.op (.bin .leq) (.cons (.inp 0) (.cons (.cst (.int .i32 122)) .nil))) (.cst (.bool false))))] none)))))) Q env w := rfl
def h45_8 : HC := (.cnd 2 .skip h45_7)
@[simp] theorem h45_8_wp {P : Program} {F : PF P} {Q : EX → List Value → World → Prop} {env : List Value} {w : World} : h45_8.wp F Q env w = HC.wp F (.cnd 2 .skip h45_7) Q env w := rfl
def h45_9 : HC := (.seq (.reg (.chk none (.bin .geq) (.cons (.inp 0) (.cons (.cst (.int .i32 65)) .nil)) (.bnd (.op (.bin .geq) (.cons (.inp 0) (.cons (.cst (.int .i32 65)) .nil))) (.chk (some ((.bv 0), true)) (.bin .leq) (.cons (.inp 0) (.cons (.cst (.int .i32 90)) .nil)) (.isb none (.bv 0) (.done [(2, (.ite (.bv 0) true (.op (.bin .leq) (.cons (.inp 0) (.cons (.cst (.int .i32 90)) .nil))) (.cst (.bool false))))] none)))))) h45_8)
@[simp] theorem h45_9_wp {P : Program} {F : PF P} {Q : EX → List Value → World → Prop} {env : List Value} {w : World} : h45_9.wp F Q env w = HC.wp F (.seq (.reg (.chk none (.bin .geq) (.cons (.inp 0) (.cons (.cst (.int .i32 65)) .nil)) (.bnd (.op (.bin .geq) (.cons (.inp 0) (.cons (.cst (.int .i32 65)) .nil))) (.chk (some ((.bv 0), true)) (.bin .leq) (.cons (.inp 0) (.cons (.cst (.int .i32 90)) .nil)) (.isb none (.bv 0) (.done [(2, (.ite (.bv 0) true (.op (.bin .leq) (.cons (.inp 0) (.cons (.cst (.int .i32 90)) .nil))) (.cst (.bool false))))] none)))))) h45_8) Q env w := rfl
def h45_10 : HC := (.seq (.cnd 2 .skip h45_9) h45_6)
@[simp] theorem h45_10_wp {P : Program} {F : PF P} {Q : EX → List Value → World → Prop} {env : List Value} {w : World} : h45_10.wp F Q env w = HC.wp F (.seq (.cnd 2 .skip h45_9) h45_6) Q env w := rfl
def h45_11 : HC := (.seq (.reg (.chk none (.bin .geq) (.cons (.inp 0) (.cons (.cst (.int .i32 48)) .nil)) (.bnd (.op (.bin .geq) (.cons (.inp 0) (.cons (.cst (.int .i32 48)) .nil))) (.chk (some ((.bv 0), true)) (.bin .leq) (.cons (.inp 0) (.cons (.cst (.int .i32 57)) .nil)) (.isb none (.bv 0) (.done [(2, (.ite (.bv 0) true (.op (.bin .leq) (.cons (.inp 0) (.cons (.cst (.int .i32 57)) .nil))) (.cst (.bool false))))] none)))))) h45_10)
@[simp] theorem h45_11_wp {P : Program} {F : PF P} {Q : EX → List Value → World → Prop} {env : List Value} {w : World} : h45_11.wp F Q env w = HC.wp F (.seq (.reg (.chk none (.bin .geq) (.cons (.inp 0) (.cons (.cst (.int .i32 48)) .nil)) (.bnd (.op (.bin .geq) (.cons (.inp 0) (.cons (.cst (.int .i32 48)) .nil))) (.chk (some ((.bv 0), true)) (.bin .leq) (.cons (.inp 0) (.cons (.cst (.int .i32 57)) .nil)) (.isb none (.bv 0) (.done [(2, (.ite (.bv 0) true (.op (.bin .leq) (.cons (.inp 0) (.cons (.cst (.int .i32 57)) .nil))) (.cst (.bool false))))] none)))))) h45_10) Q env w := rfl
def h45_12 : HC := (.seq (.block 0 h45_11) h45_0)
@[simp] theorem h45_12_wp {P : Program} {F : PF P} {Q : EX → List Value → World → Prop} {env : List Value} {w : World} : h45_12.wp F Q env w = HC.wp F (.seq (.block 0 h45_11) h45_0) Q env w := rfl
def l45 : Lifted := ⟨[0, 2, 3], 66, [.slot 1], (.seq (.reg (.done [(1, (.cst (.bool false)))] none)) h45_12)⟩
theorem l45_ok : liftFn F0 45 400 = some l45 := by kernel_rfl

-- bazaar/name.fold
def h78_0 : HC := (.seq (.reg (.done [(1, (.inp 0))] none)) .ret)
@[simp] theorem h78_0_wp {P : Program} {F : PF P} {Q : EX → List Value → World → Prop} {env : List Value} {w : World} : h78_0.wp F Q env w = HC.wp F (.seq (.reg (.done [(1, (.inp 0))] none)) .ret) Q env w := rfl
def h78_1 : HC := (.seq (.reg (.chk none (.bin .add) (.cons (.inp 0) (.cons (.cst (.int .i32 32)) .nil)) (.done [(1, (.op (.bin .add) (.cons (.inp 0) (.cons (.cst (.int .i32 32)) .nil))))] none))) .ret)
@[simp] theorem h78_1_wp {P : Program} {F : PF P} {Q : EX → List Value → World → Prop} {env : List Value} {w : World} : h78_1.wp F Q env w = HC.wp F (.seq (.reg (.chk none (.bin .add) (.cons (.inp 0) (.cons (.cst (.int .i32 32)) .nil)) (.done [(1, (.op (.bin .add) (.cons (.inp 0) (.cons (.cst (.int .i32 32)) .nil))))] none))) .ret) Q env w := rfl
def h78_2 : HC := (.seq (.reg (.done [(1, (.cst (.int .i32 1105)))] none)) .ret)
@[simp] theorem h78_2_wp {P : Program} {F : PF P} {Q : EX → List Value → World → Prop} {env : List Value} {w : World} : h78_2.wp F Q env w = HC.wp F (.seq (.reg (.done [(1, (.cst (.int .i32 1105)))] none)) .ret) Q env w := rfl
def h78_3 : HC := (.seq (.reg (.done [(1, (.cst (.int .i32 963)))] none)) .ret)
@[simp] theorem h78_3_wp {P : Program} {F : PF P} {Q : EX → List Value → World → Prop} {env : List Value} {w : World} : h78_3.wp F Q env w = HC.wp F (.seq (.reg (.done [(1, (.cst (.int .i32 963)))] none)) .ret) Q env w := rfl
def h78_4 : HC := (.br (.chk none (.bin .eql) (.cons (.inp 0) (.cons (.cst (.int .i32 962)) .nil)) (.done [] (some (.op (.bin .eql) (.cons (.inp 0) (.cons (.cst (.int .i32 962)) .nil)))))) h78_3 .skip)
@[simp] theorem h78_4_wp {P : Program} {F : PF P} {Q : EX → List Value → World → Prop} {env : List Value} {w : World} : h78_4.wp F Q env w = HC.wp F (.br (.chk none (.bin .eql) (.cons (.inp 0) (.cons (.cst (.int .i32 962)) .nil)) (.done [] (some (.op (.bin .eql) (.cons (.inp 0) (.cons (.cst (.int .i32 962)) .nil)))))) h78_3 .skip) Q env w := rfl
def h78_5 : HC := (.br (.chk none (.bin .eql) (.cons (.inp 0) (.cons (.cst (.int .i32 1025)) .nil)) (.done [] (some (.op (.bin .eql) (.cons (.inp 0) (.cons (.cst (.int .i32 1025)) .nil)))))) h78_2 h78_4)
@[simp] theorem h78_5_wp {P : Program} {F : PF P} {Q : EX → List Value → World → Prop} {env : List Value} {w : World} : h78_5.wp F Q env w = HC.wp F (.br (.chk none (.bin .eql) (.cons (.inp 0) (.cons (.cst (.int .i32 1025)) .nil)) (.done [] (some (.op (.bin .eql) (.cons (.inp 0) (.cons (.cst (.int .i32 1025)) .nil)))))) h78_2 h78_4) Q env w := rfl
def h78_6 : HC := (.cnd 2 h78_1 h78_5)
@[simp] theorem h78_6_wp {P : Program} {F : PF P} {Q : EX → List Value → World → Prop} {env : List Value} {w : World} : h78_6.wp F Q env w = HC.wp F (.cnd 2 h78_1 h78_5) Q env w := rfl
def h78_7 : HC := (.reg (.chk none (.bin .geq) (.cons (.inp 0) (.cons (.cst (.int .i32 1040)) .nil)) (.bnd (.op (.bin .geq) (.cons (.inp 0) (.cons (.cst (.int .i32 1040)) .nil))) (.chk (some ((.bv 0), true)) (.bin .leq) (.cons (.inp 0) (.cons (.cst (.int .i32 1071)) .nil)) (.isb none (.bv 0) (.done [(2, (.ite (.bv 0) true (.op (.bin .leq) (.cons (.inp 0) (.cons (.cst (.int .i32 1071)) .nil))) (.cst (.bool false))))] none))))))
@[simp] theorem h78_7_wp {P : Program} {F : PF P} {Q : EX → List Value → World → Prop} {env : List Value} {w : World} : h78_7.wp F Q env w = HC.wp F (.reg (.chk none (.bin .geq) (.cons (.inp 0) (.cons (.cst (.int .i32 1040)) .nil)) (.bnd (.op (.bin .geq) (.cons (.inp 0) (.cons (.cst (.int .i32 1040)) .nil))) (.chk (some ((.bv 0), true)) (.bin .leq) (.cons (.inp 0) (.cons (.cst (.int .i32 1071)) .nil)) (.isb none (.bv 0) (.done [(2, (.ite (.bv 0) true (.op (.bin .leq) (.cons (.inp 0) (.cons (.cst (.int .i32 1071)) .nil))) (.cst (.bool false))))] none)))))) Q env w := rfl
def h78_8 : HC := (.cnd 2 .skip h78_7)
@[simp] theorem h78_8_wp {P : Program} {F : PF P} {Q : EX → List Value → World → Prop} {env : List Value} {w : World} : h78_8.wp F Q env w = HC.wp F (.cnd 2 .skip h78_7) Q env w := rfl
def h78_9 : HC := (.seq (.reg (.chk none (.bin .geq) (.cons (.inp 0) (.cons (.cst (.int .i32 913)) .nil)) (.bnd (.op (.bin .geq) (.cons (.inp 0) (.cons (.cst (.int .i32 913)) .nil))) (.chk (some ((.bv 0), true)) (.bin .leq) (.cons (.inp 0) (.cons (.cst (.int .i32 937)) .nil)) (.isb none (.bv 0) (.bnd (.ite (.bv 0) true (.op (.bin .leq) (.cons (.inp 0) (.cons (.cst (.int .i32 937)) .nil))) (.cst (.bool false))) (.chk (some ((.bv 1), true)) (.bin .neq) (.cons (.inp 0) (.cons (.cst (.int .i32 930)) .nil)) (.isb none (.bv 1) (.done [(2, (.ite (.bv 1) true (.op (.bin .neq) (.cons (.inp 0) (.cons (.cst (.int .i32 930)) .nil))) (.cst (.bool false))))] none))))))))) h78_8)
@[simp] theorem h78_9_wp {P : Program} {F : PF P} {Q : EX → List Value → World → Prop} {env : List Value} {w : World} : h78_9.wp F Q env w = HC.wp F (.seq (.reg (.chk none (.bin .geq) (.cons (.inp 0) (.cons (.cst (.int .i32 913)) .nil)) (.bnd (.op (.bin .geq) (.cons (.inp 0) (.cons (.cst (.int .i32 913)) .nil))) (.chk (some ((.bv 0), true)) (.bin .leq) (.cons (.inp 0) (.cons (.cst (.int .i32 937)) .nil)) (.isb none (.bv 0) (.bnd (.ite (.bv 0) true (.op (.bin .leq) (.cons (.inp 0) (.cons (.cst (.int .i32 937)) .nil))) (.cst (.bool false))) (.chk (some ((.bv 1), true)) (.bin .neq) (.cons (.inp 0) (.cons (.cst (.int .i32 930)) .nil)) (.isb none (.bv 1) (.done [(2, (.ite (.bv 1) true (.op (.bin .neq) (.cons (.inp 0) (.cons (.cst (.int .i32 930)) .nil))) (.cst (.bool false))))] none))))))))) h78_8) Q env w := rfl
def h78_10 : HC := (.cnd 2 .skip h78_9)
@[simp] theorem h78_10_wp {P : Program} {F : PF P} {Q : EX → List Value → World → Prop} {env : List Value} {w : World} : h78_10.wp F Q env w = HC.wp F (.cnd 2 .skip h78_9) Q env w := rfl
def h78_11 : HC := (.seq (.reg (.chk none (.bin .geq) (.cons (.inp 0) (.cons (.cst (.int .i32 192)) .nil)) (.bnd (.op (.bin .geq) (.cons (.inp 0) (.cons (.cst (.int .i32 192)) .nil))) (.chk (some ((.bv 0), true)) (.bin .leq) (.cons (.inp 0) (.cons (.cst (.int .i32 222)) .nil)) (.isb none (.bv 0) (.bnd (.ite (.bv 0) true (.op (.bin .leq) (.cons (.inp 0) (.cons (.cst (.int .i32 222)) .nil))) (.cst (.bool false))) (.chk (some ((.bv 1), true)) (.bin .neq) (.cons (.inp 0) (.cons (.cst (.int .i32 215)) .nil)) (.isb none (.bv 1) (.done [(2, (.ite (.bv 1) true (.op (.bin .neq) (.cons (.inp 0) (.cons (.cst (.int .i32 215)) .nil))) (.cst (.bool false))))] none))))))))) h78_10)
@[simp] theorem h78_11_wp {P : Program} {F : PF P} {Q : EX → List Value → World → Prop} {env : List Value} {w : World} : h78_11.wp F Q env w = HC.wp F (.seq (.reg (.chk none (.bin .geq) (.cons (.inp 0) (.cons (.cst (.int .i32 192)) .nil)) (.bnd (.op (.bin .geq) (.cons (.inp 0) (.cons (.cst (.int .i32 192)) .nil))) (.chk (some ((.bv 0), true)) (.bin .leq) (.cons (.inp 0) (.cons (.cst (.int .i32 222)) .nil)) (.isb none (.bv 0) (.bnd (.ite (.bv 0) true (.op (.bin .leq) (.cons (.inp 0) (.cons (.cst (.int .i32 222)) .nil))) (.cst (.bool false))) (.chk (some ((.bv 1), true)) (.bin .neq) (.cons (.inp 0) (.cons (.cst (.int .i32 215)) .nil)) (.isb none (.bv 1) (.done [(2, (.ite (.bv 1) true (.op (.bin .neq) (.cons (.inp 0) (.cons (.cst (.int .i32 215)) .nil))) (.cst (.bool false))))] none))))))))) h78_10) Q env w := rfl
def h78_12 : HC := (.seq (.cnd 2 .skip h78_11) h78_6)
@[simp] theorem h78_12_wp {P : Program} {F : PF P} {Q : EX → List Value → World → Prop} {env : List Value} {w : World} : h78_12.wp F Q env w = HC.wp F (.seq (.cnd 2 .skip h78_11) h78_6) Q env w := rfl
def h78_13 : HC := (.seq (.reg (.chk none (.bin .geq) (.cons (.inp 0) (.cons (.cst (.int .i32 65)) .nil)) (.bnd (.op (.bin .geq) (.cons (.inp 0) (.cons (.cst (.int .i32 65)) .nil))) (.chk (some ((.bv 0), true)) (.bin .leq) (.cons (.inp 0) (.cons (.cst (.int .i32 90)) .nil)) (.isb none (.bv 0) (.done [(2, (.ite (.bv 0) true (.op (.bin .leq) (.cons (.inp 0) (.cons (.cst (.int .i32 90)) .nil))) (.cst (.bool false))))] none)))))) h78_12)
@[simp] theorem h78_13_wp {P : Program} {F : PF P} {Q : EX → List Value → World → Prop} {env : List Value} {w : World} : h78_13.wp F Q env w = HC.wp F (.seq (.reg (.chk none (.bin .geq) (.cons (.inp 0) (.cons (.cst (.int .i32 65)) .nil)) (.bnd (.op (.bin .geq) (.cons (.inp 0) (.cons (.cst (.int .i32 65)) .nil))) (.chk (some ((.bv 0), true)) (.bin .leq) (.cons (.inp 0) (.cons (.cst (.int .i32 90)) .nil)) (.isb none (.bv 0) (.done [(2, (.ite (.bv 0) true (.op (.bin .leq) (.cons (.inp 0) (.cons (.cst (.int .i32 90)) .nil))) (.cst (.bool false))))] none)))))) h78_12) Q env w := rfl
def h78_14 : HC := (.seq (.block 0 h78_13) h78_0)
@[simp] theorem h78_14_wp {P : Program} {F : PF P} {Q : EX → List Value → World → Prop} {env : List Value} {w : World} : h78_14.wp F Q env w = HC.wp F (.seq (.block 0 h78_13) h78_0) Q env w := rfl
def l78 : Lifted := ⟨[0, 2, 3], 45, [.slot 1], (.seq (.reg (.done [(1, (.cst (.int .i32 0)))] none)) h78_14)⟩
theorem l78_ok : liftFn F0 78 400 = some l78 := by kernel_rfl

-- internal/stringslite.HasPrefix
def h87_0 : HC := (.seq (.reg (.chk none .lenS (.cons (.inp 0) .nil) (.chk none .lenS (.cons (.inp 1) .nil) (.chk none (.bin .geq) (.cons (.op .lenS (.cons (.inp 0) .nil)) (.cons (.op .lenS (.cons (.inp 1) .nil)) .nil)) (.bnd (.op (.bin .geq) (.cons (.op .lenS (.cons (.inp 0) .nil)) (.cons (.op .lenS (.cons (.inp 1) .nil)) .nil))) (.chk (some ((.bv 0), true)) .lenS (.cons (.inp 1) .nil) (.chk (some ((.bv 0), true)) (.slS false true) (.cons (.inp 0) (.cons (.op .lenS (.cons (.inp 1) .nil)) .nil)) (.chk (some ((.bv 0), true)) (.bin .eql) (.cons (.op (.slS false true) (.cons (.inp 0) (.cons (.op .lenS (.cons (.inp 1) .nil)) .nil))) (.cons (.inp 1) .nil)) (.isb none (.bv 0) (.done [(2, (.ite (.bv 0) true (.op (.bin .eql) (.cons (.op (.slS false true) (.cons (.inp 0) (.cons (.op .lenS (.cons (.inp 1) .nil)) .nil))) (.cons (.inp 1) .nil))) (.cst (.bool false))))] none)))))))))) .ret)
@[simp] theorem h87_0_wp {P : Program} {F : PF P} {Q : EX → List Value → World → Prop} {env : List Value} {w : World} : h87_0.wp F Q env w = HC.wp F (.seq (.reg (.chk none .lenS (.cons (.inp 0) .nil) (.chk none .lenS (.cons (.inp 1) .nil) (.chk none (.bin .geq) (.cons (.op .lenS (.cons (.inp 0) .nil)) (.cons (.op .lenS (.cons (.inp 1) .nil)) .nil)) (.bnd (.op (.bin .geq) (.cons (.op .lenS (.cons (.inp 0) .nil)) (.cons (.op .lenS (.cons (.inp 1) .nil)) .nil))) (.chk (some ((.bv 0), true)) .lenS (.cons (.inp 1) .nil) (.chk (some ((.bv 0), true)) (.slS false true) (.cons (.inp 0) (.cons (.op .lenS (.cons (.inp 1) .nil)) .nil)) (.chk (some ((.bv 0), true)) (.bin .eql) (.cons (.op (.slS false true) (.cons (.inp 0) (.cons (.op .lenS (.cons (.inp 1) .nil)) .nil))) (.cons (.inp 1) .nil)) (.isb none (.bv 0) (.done [(2, (.ite (.bv 0) true (.op (.bin .eql) (.cons (.op (.slS false true) (.cons (.inp 0) (.cons (.op .lenS (.cons (.inp 1) .nil)) .nil))) (.cons (.inp 1) .nil))) (.cst (.bool false))))] none)))))))))) .ret) Q env w := rfl
def l87 : Lifted := ⟨[0, 1, 4], 18, [.slot 2], (.seq (.reg (.done [(2, (.cst (.bool false)))] none)) h87_0)⟩
theorem l87_ok : liftFn F0 87 400 = some l87 := by kernel_rfl



theorem tail_spec (l : List UInt8) (i n : Nat) (v : Int) (w : World) (hi : i < l.length) (hn : n ≤ 3) (hv : 0 ≤ v) (hv2 : v < 32) (hl : l.length ≤ 1048576) :
    CallW Try.prog 95 [.string (mk l), .int .i64 i, .int .i64 n, .int .i64 v] (fun r w' =>
      r = (match tailF (l.drop (i + 1)) n v with | some u => .tuple #[.int .i64 u, .bool true] | none => .tuple #[.int .i64 0, .bool false]) ∧ w' = w) w := by
  refine callW_of_lift l95_ok (by simp [l95]) ?_
  simp [l95]
  refine loopI (fun env w' => ∃ (k : Nat) (x : Int), env = [.string (mk l), .int .i64 i, .int .i64 n, .int .i64 x, .int .i64 0, .bool false, .int .i64 (k + 1 : Nat)] ∧ w' = w ∧ k ≤ n ∧ 0 ≤ x ∧ x < 32 * 64 ^ k ∧
      tailF (l.drop (i + 1)) n v = tailF (l.drop (i + 1 + k)) (n - k) x) (fun env _ => 5 - slotN env 6) ⟨0, v, by simp, rfl, by omega, hv, by simpa using hv2, rfl⟩ ?_
  rintro LQ env w' ⟨k, x, rfl, rfl, hk, hx, hx2, ht⟩ hN hE hR
  have hx3 : x < 8388608 := by
    have : k = 0 ∨ k = 1 ∨ k = 2 ∨ k = 3 := by omega
    rcases this with rfl | rfl | rfl | rfl <;> omega
  simp
  refine cndI (fun h => ?_) (fun h => ?_)
  · simp at h
    have e0 : n - k = (n - (k + 1)) + 1 := by omega
    rw [e0, tailF_cons] at ht
    have hg : (l.drop (i + 1 + k)).getD 0 0 = l[i + (k + 1)]?.getD 0 := by simp [List.getElem?_drop, Nat.add_comm, Nat.add_left_comm]
    have hc : contAt (l.drop (i + 1 + k)) 0 = decide (i + (k + 1) < l.length ∧ 128 ≤ (l[i + (k + 1)]?.getD 0).toNat ∧ (l[i + (k + 1)]?.getD 0).toNat ≤ 191) := by
      simp only [contAt, hg, List.length_drop]
      rw [Bool.eq_iff_iff]
      simp
      omega
    have hb := (l[i + (k + 1)]?.getD 0).toNat_lt
    have ei : ((i : Int) + ((k : Int) + 1)).toNat = i + (k + 1) := by omega
    rw [hc, hg] at ht
    simp
    try simp (disch := omega) only [wrap64, ei]
    refine ⟨by omega, by omega, ?_⟩
    refine cndI (fun h2 => ?_) (fun h2 => ?_)
    · simp only [Bool.or_eq_true, decide_eq_true_eq] at h2
      simp
      refine hR _ _ ?_
      simp
      rw [ht, if_neg (by simp; omega)]
    · simp at h2
      rw [if_pos (by simp; omega)] at ht
      simp
      try simp (disch := omega) only [wrap64, ei]
      refine ⟨by omega, hN _ _ ⟨k + 1, x * 64 + (l[i + (k + 1)]?.getD 0).toNat - 128, by simp, rfl, by omega, by omega, by rw [Int.pow_succ]; omega, ?_⟩ (by simp [slotN]; omega)⟩
      rw [ht]
      simp [Nat.add_assoc]
  · simp at h
    simp
    refine hE _ _ _ ?_
    simp
    have : k = n := by omega
    subst this
    rw [ht]
    simp [tailF_zero]

def inF (u lo hi : Int) : Bool := decide (lo ≤ u) && decide (u ≤ hi)
theorem in_spec (u lo hi : Int) (w : World) : CallW Try.prog 90 [.int .i64 u, .int .i64 lo, .int .i64 hi] (fun r w' => r = .bool (inF u lo hi) ∧ w' = w) w := by
  refine callW_of_lift l90_ok (by simp [l90]) ?_
  simp [l90, inF]
def joinerF (u : Int) : Bool := decide (u = 32) || decide (u = 45) || decide (u = 95)
theorem rjoiner_spec (u : Int) (w : World) : CallW Try.prog 81 [.int .i64 u] (fun r w' => r = .bool (joinerF u) ∧ w' = w) w := by
  refine callW_of_lift l81_ok (by simp [l81]) ?_
  simp [l81, joinerF]
theorem joiner_spec (u : Int) (w : World) : CallW Try.prog 46 [.int .i32 u] (fun r w' => r = .bool (joinerF u) ∧ w' = w) w := by
  refine callW_of_lift l46_ok (by simp [l46]) ?_
  simp [l46, joinerF]
def letterF (u : Int) : Bool := !(decide (u = 215) || decide (u = 247) || decide (u = 930)) &&
  (inF u 48 57 || inF u 65 90 || inF u 97 122 || inF u 192 255 || inF u 913 937 || inF u 945 969 || decide (u = 1025) || inF u 1040 1103 || decide (u = 1105))
theorem letter_spec (u : Int) (w : World) : CallW Try.prog 45 [.int .i32 u] (fun r w' => r = .bool (letterF u) ∧ w' = w) w := by
  refine callW_of_lift l45_ok (by simp [l45]) ?_
  simp [l45, condC_ite, letterF, inF]
  repeat' split
  all_goals (try simp)
  all_goals (try (rw [Bool.eq_iff_iff]; simp))
  all_goals omega
def foldF (u : Int) : Int :=
  if (65 ≤ u ∧ u ≤ 90) ∨ (192 ≤ u ∧ u ≤ 222 ∧ u ≠ 215) ∨ (913 ≤ u ∧ u ≤ 937 ∧ u ≠ 930) ∨ (1040 ≤ u ∧ u ≤ 1071) then u + 32
  else if u = 1025 then 1105 else if u = 962 then 963 else u
theorem fold_spec (u : Int) (w : World) (h0 : 0 ≤ u) (h1 : u < 2097408) : CallW Try.prog 78 [.int .i32 u] (fun r w' => r = .int .i32 (foldF u) ∧ w' = w) w := by
  refine callW_of_lift l78_ok (by simp [l78]) ?_
  simp [l78, condC_ite, foldF]
  repeat' split
  all_goals (try simp (disch := omega) only [wrap32])
  all_goals (try (first | rfl | omega))
theorem slhp_spec (s p : List UInt8) (w : World) (hs : s.length ≤ 1048576) : CallW Try.prog 87 [.string (mk s), .string (mk p)] (fun r w' => r = .bool (p.isPrefixOf s) ∧ w' = w) w := by
  refine callW_of_lift l87_ok (by simp [l87]) ?_
  simp [l87]
  rw [Bool.eq_iff_iff]
  simp only [Bool.and_eq_true, decide_eq_true_eq, beq_iff_eq, List.isPrefixOf_iff_prefix]
  constructor
  · rintro ⟨h1, h2⟩
    exact List.prefix_iff_eq_take.2 h2.symm
  · intro h
    exact ⟨h.length_le, (List.prefix_iff_eq_take.1 h).symm⟩
end Go.HL.Nm

namespace Go.HL.Nm
open Go.HL Go.Proofs
set_option maxRecDepth 4000
set_option linter.unusedSimpArgs false
set_option linter.unusedVariables false
-- bazaar/bazaarref04.One
def h89_0 : HC := (.seq (.reg (.chk none (.bin .add) (.cons (.cst (.int .i64 1)) (.cons (.inp 6) .nil)) (.done [(2, (.inp 5)), (3, (.op (.bin .add) (.cons (.cst (.int .i64 1)) (.cons (.inp 6) .nil))))] none))) .ret)
@[simp] theorem h89_0_wp {P : Program} {F : PF P} {Q : EX → List Value → World → Prop} {env : List Value} {w : World} : h89_0.wp F Q env w = HC.wp F (.seq (.reg (.chk none (.bin .add) (.cons (.cst (.int .i64 1)) (.cons (.inp 6) .nil)) (.done [(2, (.inp 5)), (3, (.op (.bin .add) (.cons (.cst (.int .i64 1)) (.cons (.inp 6) .nil))))] none))) .ret) Q env w := rfl
def h89_1 : HC := (.seq (.reg (.chk none (.bin .add) (.cons (.cst (.int .i64 2097152)) (.cons (.inp 4) .nil)) (.done [(2, (.op (.bin .add) (.cons (.cst (.int .i64 2097152)) (.cons (.inp 4) .nil)))), (3, (.cst (.int .i64 1)))] none))) .ret)
@[simp] theorem h89_1_wp {P : Program} {F : PF P} {Q : EX → List Value → World → Prop} {env : List Value} {w : World} : h89_1.wp F Q env w = HC.wp F (.seq (.reg (.chk none (.bin .add) (.cons (.cst (.int .i64 2097152)) (.cons (.inp 4) .nil)) (.done [(2, (.op (.bin .add) (.cons (.cst (.int .i64 2097152)) (.cons (.inp 4) .nil)))), (3, (.cst (.int .i64 1)))] none))) .ret) Q env w := rfl
def h89_2 : HC := (.seq (.br (.chk none (.un .not) (.cons (.inp 8) .nil) (.bnd (.op (.un .not) (.cons (.inp 8) .nil)) (.chk (some ((.bv 0), false)) (.bin .lss) (.cons (.inp 5) (.cons (.inp 7) .nil)) (.isb none (.bv 0) (.bnd (.ite (.bv 0) true (.cst (.bool true)) (.op (.bin .lss) (.cons (.inp 5) (.cons (.inp 7) .nil)))) (.chk (some ((.bv 1), false)) (.bin .gtr) (.cons (.inp 5) (.cons (.cst (.int .i64 1114111)) .nil)) (.isb none (.bv 1) (.bnd (.ite (.bv 1) true (.cst (.bool true)) (.op (.bin .gtr) (.cons (.inp 5) (.cons (.cst (.int .i64 1114111)) .nil)))) (.chk (some ((.bv 2), false)) (.bin .geq) (.cons (.inp 5) (.cons (.cst (.int .i64 55296)) .nil)) (.bnd (.ite (.bv 2) false (.op (.bin .geq) (.cons (.inp 5) (.cons (.cst (.int .i64 55296)) .nil))) (.cst (.tuple #[]))) (.chk (some ((.bv 3), true)) (.bin .leq) (.cons (.inp 5) (.cons (.cst (.int .i64 57343)) .nil)) (.isb (some ((.bv 2), false)) (.bv 3) (.isb none (.bv 2) (.done [] (some (.ite (.bv 2) true (.cst (.bool true)) (.ite (.bv 3) true (.op (.bin .leq) (.cons (.inp 5) (.cons (.cst (.int .i64 57343)) .nil))) (.cst (.bool false))))))))))))))))))) h89_1 .skip) h89_0)
@[simp] theorem h89_2_wp {P : Program} {F : PF P} {Q : EX → List Value → World → Prop} {env : List Value} {w : World} : h89_2.wp F Q env w = HC.wp F (.seq (.br (.chk none (.un .not) (.cons (.inp 8) .nil) (.bnd (.op (.un .not) (.cons (.inp 8) .nil)) (.chk (some ((.bv 0), false)) (.bin .lss) (.cons (.inp 5) (.cons (.inp 7) .nil)) (.isb none (.bv 0) (.bnd (.ite (.bv 0) true (.cst (.bool true)) (.op (.bin .lss) (.cons (.inp 5) (.cons (.inp 7) .nil)))) (.chk (some ((.bv 1), false)) (.bin .gtr) (.cons (.inp 5) (.cons (.cst (.int .i64 1114111)) .nil)) (.isb none (.bv 1) (.bnd (.ite (.bv 1) true (.cst (.bool true)) (.op (.bin .gtr) (.cons (.inp 5) (.cons (.cst (.int .i64 1114111)) .nil)))) (.chk (some ((.bv 2), false)) (.bin .geq) (.cons (.inp 5) (.cons (.cst (.int .i64 55296)) .nil)) (.bnd (.ite (.bv 2) false (.op (.bin .geq) (.cons (.inp 5) (.cons (.cst (.int .i64 55296)) .nil))) (.cst (.tuple #[]))) (.chk (some ((.bv 3), true)) (.bin .leq) (.cons (.inp 5) (.cons (.cst (.int .i64 57343)) .nil)) (.isb (some ((.bv 2), false)) (.bv 3) (.isb none (.bv 2) (.done [] (some (.ite (.bv 2) true (.cst (.bool true)) (.ite (.bv 3) true (.op (.bin .leq) (.cons (.inp 5) (.cons (.cst (.int .i64 57343)) .nil))) (.cst (.bool false))))))))))))))))))) h89_1 .skip) h89_0) Q env w := rfl
def h89_3 : HC := (.seq (.reg (.eff (.call 95) (.cons (.inp 0) (.cons (.inp 1) (.cons (.inp 6) (.cons (.inp 5) .nil)))) (.chk none (.ext 0) (.cons (.bv 0) .nil) (.chk none (.ext 1) (.cons (.bv 0) .nil) (.done [(5, (.op (.ext 0) (.cons (.bv 0) .nil))), (8, (.op (.ext 1) (.cons (.bv 0) .nil)))] none))))) h89_2)
@[simp] theorem h89_3_wp {P : Program} {F : PF P} {Q : EX → List Value → World → Prop} {env : List Value} {w : World} : h89_3.wp F Q env w = HC.wp F (.seq (.reg (.eff (.call 95) (.cons (.inp 0) (.cons (.inp 1) (.cons (.inp 6) (.cons (.inp 5) .nil)))) (.chk none (.ext 0) (.cons (.bv 0) .nil) (.chk none (.ext 1) (.cons (.bv 0) .nil) (.done [(5, (.op (.ext 0) (.cons (.bv 0) .nil))), (8, (.op (.ext 1) (.cons (.bv 0) .nil)))] none))))) h89_2) Q env w := rfl
def h89_4 : HC := (.seq (.reg (.done [(2, (.inp 4)), (3, (.cst (.int .i64 1)))] none)) .ret)
@[simp] theorem h89_4_wp {P : Program} {F : PF P} {Q : EX → List Value → World → Prop} {env : List Value} {w : World} : h89_4.wp F Q env w = HC.wp F (.seq (.reg (.done [(2, (.inp 4)), (3, (.cst (.int .i64 1)))] none)) .ret) Q env w := rfl
def h89_5 : HC := (.reg (.chk none (.bin .sub) (.cons (.inp 4) (.cons (.cst (.int .i64 192)) .nil)) (.done [(5, (.op (.bin .sub) (.cons (.inp 4) (.cons (.cst (.int .i64 192)) .nil)))), (6, (.cst (.int .i64 1))), (7, (.cst (.int .i64 128)))] none)))
@[simp] theorem h89_5_wp {P : Program} {F : PF P} {Q : EX → List Value → World → Prop} {env : List Value} {w : World} : h89_5.wp F Q env w = HC.wp F (.reg (.chk none (.bin .sub) (.cons (.inp 4) (.cons (.cst (.int .i64 192)) .nil)) (.done [(5, (.op (.bin .sub) (.cons (.inp 4) (.cons (.cst (.int .i64 192)) .nil)))), (6, (.cst (.int .i64 1))), (7, (.cst (.int .i64 128)))] none))) Q env w := rfl
def h89_6 : HC := (.reg (.chk none (.bin .sub) (.cons (.inp 4) (.cons (.cst (.int .i64 224)) .nil)) (.done [(5, (.op (.bin .sub) (.cons (.inp 4) (.cons (.cst (.int .i64 224)) .nil)))), (6, (.cst (.int .i64 2))), (7, (.cst (.int .i64 2048)))] none)))
@[simp] theorem h89_6_wp {P : Program} {F : PF P} {Q : EX → List Value → World → Prop} {env : List Value} {w : World} : h89_6.wp F Q env w = HC.wp F (.reg (.chk none (.bin .sub) (.cons (.inp 4) (.cons (.cst (.int .i64 224)) .nil)) (.done [(5, (.op (.bin .sub) (.cons (.inp 4) (.cons (.cst (.int .i64 224)) .nil)))), (6, (.cst (.int .i64 2))), (7, (.cst (.int .i64 2048)))] none))) Q env w := rfl
def h89_7 : HC := (.reg (.chk none (.bin .sub) (.cons (.inp 4) (.cons (.cst (.int .i64 240)) .nil)) (.done [(5, (.op (.bin .sub) (.cons (.inp 4) (.cons (.cst (.int .i64 240)) .nil)))), (6, (.cst (.int .i64 3))), (7, (.cst (.int .i64 65536)))] none)))
@[simp] theorem h89_7_wp {P : Program} {F : PF P} {Q : EX → List Value → World → Prop} {env : List Value} {w : World} : h89_7.wp F Q env w = HC.wp F (.reg (.chk none (.bin .sub) (.cons (.inp 4) (.cons (.cst (.int .i64 240)) .nil)) (.done [(5, (.op (.bin .sub) (.cons (.inp 4) (.cons (.cst (.int .i64 240)) .nil)))), (6, (.cst (.int .i64 3))), (7, (.cst (.int .i64 65536)))] none))) Q env w := rfl
def h89_8 : HC := (.seq (.reg (.chk none (.bin .add) (.cons (.cst (.int .i64 2097152)) (.cons (.inp 4) .nil)) (.done [(2, (.op (.bin .add) (.cons (.cst (.int .i64 2097152)) (.cons (.inp 4) .nil)))), (3, (.cst (.int .i64 1)))] none))) .ret)
@[simp] theorem h89_8_wp {P : Program} {F : PF P} {Q : EX → List Value → World → Prop} {env : List Value} {w : World} : h89_8.wp F Q env w = HC.wp F (.seq (.reg (.chk none (.bin .add) (.cons (.cst (.int .i64 2097152)) (.cons (.inp 4) .nil)) (.done [(2, (.op (.bin .add) (.cons (.cst (.int .i64 2097152)) (.cons (.inp 4) .nil)))), (3, (.cst (.int .i64 1)))] none))) .ret) Q env w := rfl
def h89_9 : HC := (.br (.chk none (.bin .geq) (.cons (.inp 4) (.cons (.cst (.int .i64 240)) .nil)) (.bnd (.op (.bin .geq) (.cons (.inp 4) (.cons (.cst (.int .i64 240)) .nil))) (.chk (some ((.bv 0), true)) (.bin .lss) (.cons (.inp 4) (.cons (.cst (.int .i64 248)) .nil)) (.isb none (.bv 0) (.done [] (some (.ite (.bv 0) true (.op (.bin .lss) (.cons (.inp 4) (.cons (.cst (.int .i64 248)) .nil))) (.cst (.bool false))))))))) h89_7 h89_8)
@[simp] theorem h89_9_wp {P : Program} {F : PF P} {Q : EX → List Value → World → Prop} {env : List Value} {w : World} : h89_9.wp F Q env w = HC.wp F (.br (.chk none (.bin .geq) (.cons (.inp 4) (.cons (.cst (.int .i64 240)) .nil)) (.bnd (.op (.bin .geq) (.cons (.inp 4) (.cons (.cst (.int .i64 240)) .nil))) (.chk (some ((.bv 0), true)) (.bin .lss) (.cons (.inp 4) (.cons (.cst (.int .i64 248)) .nil)) (.isb none (.bv 0) (.done [] (some (.ite (.bv 0) true (.op (.bin .lss) (.cons (.inp 4) (.cons (.cst (.int .i64 248)) .nil))) (.cst (.bool false))))))))) h89_7 h89_8) Q env w := rfl
def h89_10 : HC := (.br (.chk none (.bin .geq) (.cons (.inp 4) (.cons (.cst (.int .i64 224)) .nil)) (.bnd (.op (.bin .geq) (.cons (.inp 4) (.cons (.cst (.int .i64 224)) .nil))) (.chk (some ((.bv 0), true)) (.bin .lss) (.cons (.inp 4) (.cons (.cst (.int .i64 240)) .nil)) (.isb none (.bv 0) (.done [] (some (.ite (.bv 0) true (.op (.bin .lss) (.cons (.inp 4) (.cons (.cst (.int .i64 240)) .nil))) (.cst (.bool false))))))))) h89_6 h89_9)
@[simp] theorem h89_10_wp {P : Program} {F : PF P} {Q : EX → List Value → World → Prop} {env : List Value} {w : World} : h89_10.wp F Q env w = HC.wp F (.br (.chk none (.bin .geq) (.cons (.inp 4) (.cons (.cst (.int .i64 224)) .nil)) (.bnd (.op (.bin .geq) (.cons (.inp 4) (.cons (.cst (.int .i64 224)) .nil))) (.chk (some ((.bv 0), true)) (.bin .lss) (.cons (.inp 4) (.cons (.cst (.int .i64 240)) .nil)) (.isb none (.bv 0) (.done [] (some (.ite (.bv 0) true (.op (.bin .lss) (.cons (.inp 4) (.cons (.cst (.int .i64 240)) .nil))) (.cst (.bool false))))))))) h89_6 h89_9) Q env w := rfl
def h89_11 : HC := (.br (.chk none (.bin .geq) (.cons (.inp 4) (.cons (.cst (.int .i64 192)) .nil)) (.bnd (.op (.bin .geq) (.cons (.inp 4) (.cons (.cst (.int .i64 192)) .nil))) (.chk (some ((.bv 0), true)) (.bin .lss) (.cons (.inp 4) (.cons (.cst (.int .i64 224)) .nil)) (.isb none (.bv 0) (.done [] (some (.ite (.bv 0) true (.op (.bin .lss) (.cons (.inp 4) (.cons (.cst (.int .i64 224)) .nil))) (.cst (.bool false))))))))) h89_5 h89_10)
@[simp] theorem h89_11_wp {P : Program} {F : PF P} {Q : EX → List Value → World → Prop} {env : List Value} {w : World} : h89_11.wp F Q env w = HC.wp F (.br (.chk none (.bin .geq) (.cons (.inp 4) (.cons (.cst (.int .i64 192)) .nil)) (.bnd (.op (.bin .geq) (.cons (.inp 4) (.cons (.cst (.int .i64 192)) .nil))) (.chk (some ((.bv 0), true)) (.bin .lss) (.cons (.inp 4) (.cons (.cst (.int .i64 224)) .nil)) (.isb none (.bv 0) (.done [] (some (.ite (.bv 0) true (.op (.bin .lss) (.cons (.inp 4) (.cons (.cst (.int .i64 224)) .nil))) (.cst (.bool false))))))))) h89_5 h89_10) Q env w := rfl
def h89_12 : HC := (.br (.chk none (.bin .lss) (.cons (.inp 4) (.cons (.cst (.int .i64 128)) .nil)) (.done [] (some (.op (.bin .lss) (.cons (.inp 4) (.cons (.cst (.int .i64 128)) .nil)))))) h89_4 h89_11)
@[simp] theorem h89_12_wp {P : Program} {F : PF P} {Q : EX → List Value → World → Prop} {env : List Value} {w : World} : h89_12.wp F Q env w = HC.wp F (.br (.chk none (.bin .lss) (.cons (.inp 4) (.cons (.cst (.int .i64 128)) .nil)) (.done [] (some (.op (.bin .lss) (.cons (.inp 4) (.cons (.cst (.int .i64 128)) .nil)))))) h89_4 h89_11) Q env w := rfl
def h89_13 : HC := (.seq (.block 0 h89_12) h89_3)
@[simp] theorem h89_13_wp {P : Program} {F : PF P} {Q : EX → List Value → World → Prop} {env : List Value} {w : World} : h89_13.wp F Q env w = HC.wp F (.seq (.block 0 h89_12) h89_3) Q env w := rfl
def h89_14 : HC := (.seq (.reg (.done [(5, (.inp 4)), (6, (.cst (.int .i64 0))), (7, (.cst (.int .i64 0)))] none)) h89_13)
@[simp] theorem h89_14_wp {P : Program} {F : PF P} {Q : EX → List Value → World → Prop} {env : List Value} {w : World} : h89_14.wp F Q env w = HC.wp F (.seq (.reg (.done [(5, (.inp 4)), (6, (.cst (.int .i64 0))), (7, (.cst (.int .i64 0)))] none)) h89_13) Q env w := rfl
def h89_15 : HC := (.seq (.reg (.chk none .chS (.cons (.inp 0) (.cons (.inp 1) .nil)) (.chk none (.convI .i64) (.cons (.op .chS (.cons (.inp 0) (.cons (.inp 1) .nil))) .nil) (.done [(4, (.op (.convI .i64) (.cons (.op .chS (.cons (.inp 0) (.cons (.inp 1) .nil))) .nil)))] none)))) h89_14)
@[simp] theorem h89_15_wp {P : Program} {F : PF P} {Q : EX → List Value → World → Prop} {env : List Value} {w : World} : h89_15.wp F Q env w = HC.wp F (.seq (.reg (.chk none .chS (.cons (.inp 0) (.cons (.inp 1) .nil)) (.chk none (.convI .i64) (.cons (.op .chS (.cons (.inp 0) (.cons (.inp 1) .nil))) .nil) (.done [(4, (.op (.convI .i64) (.cons (.op .chS (.cons (.inp 0) (.cons (.inp 1) .nil))) .nil)))] none)))) h89_14) Q env w := rfl
def l89 : Lifted := ⟨[0, 1, 4, 5, 6, 7, 8, 9, 10], 81, [.slot 2, .slot 3], (.seq (.reg (.done [(2, (.cst (.int .i64 0))), (3, (.cst (.int .i64 0)))] none)) h89_15)⟩
theorem l89_ok : liftFn F0 89 400 = some l89 := by kernel_rfl



theorem one_spec (l : List UInt8) (i : Nat) (w : World) (hi : i < l.length) (hl : l.length ≤ 1048576) :
    CallW Try.prog 89 [.string (mk l), .int .i64 i] (fun r w' => r = .tuple #[.int .i64 (oneF (l.drop i)).1, .int .i64 (oneF (l.drop i)).2] ∧ w' = w) w := by
  have hd : l.drop i = l[i] :: l.drop (i + 1) := by rw [List.drop_eq_getElem_cons hi]
  have hg : l[i]?.getD 0 = l[i] := by simp [hi]
  rw [hd]
  have hc := l[i].toNat_lt
  generalize l[i] = c at *
  refine callW_of_lift l89_ok (by simp [l89]) ?_
  simp [l89]
  simp only [hg]
  refine ⟨hi, ?_⟩
  try simp (disch := omega) only [wrap64]
  -- what follows the switch
  have rest : ∀ (v least : Int) (n : Nat) (Q : EX → List Value → World → Prop), n ≤ 3 → 0 ≤ v → v < 32 → (∀ env : List Value, env[2]?.getD undef = .int .i64 (chkF c.toNat (l.drop (i + 1)) v n least).1 → env[3]?.getD undef = .int .i64 (chkF c.toNat (l.drop (i + 1)) v n least).2 → Q .ret env w) →
      HC.wp F0 h89_3 Q [.string (mk l), .int .i64 i, .int .i64 0, .int .i64 0, .int .i64 c.toNat, .int .i64 v, .int .i64 n, .int .i64 least, undef] w := by
    intro v least n Q hn hv hv2 hQ
    simp
    refine eff_call ((tail_spec l i n v w hi hn hv hv2 hl).mono ?_)
    rintro r w' ⟨rfl, rfl⟩
    unfold chkF at hQ
    cases ht : tailF (l.drop (i + 1)) n v with
    | none =>
      simp only [ht] at hQ
      simp [condC_ite]
      try simp (disch := omega) only [wrap64]
      exact hQ _ rfl rfl
    | some u =>
      simp only [ht] at hQ
      by_cases q : least ≤ u ∧ u ≤ 1114111
      · simp [q.1, q.2, Int.not_lt.2 q.1, Int.not_lt.2 q.2]
        refine cndI (fun h => ?_) (fun h => ?_)
        · simp at h
          rw [if_pos (by omega)] at hQ
          simp
          try simp (disch := omega) only [wrap64]
          exact hQ _ rfl rfl
        · simp at h
          rw [if_neg (by omega)] at hQ
          simp
          try simp (disch := omega) only [wrap64]
          exact hQ _ rfl (by simp)
      · have q' : u < least ∨ 1114111 < u := by omega
        simp [q]
        refine cndI (fun h => ?_) (fun h => ?_)
        · rw [if_pos (by omega)] at hQ
          simp
          try simp (disch := omega) only [wrap64]
          exact hQ _ rfl rfl
        · exfalso; simp at h; omega
  rw [oneF_cons]
  refine cndI (fun h => ?_) (fun h => ?_)
  · simp at h
    rw [if_pos (by omega)]
    simp
  simp at h
  rw [if_neg (by omega)]
  simp
  refine cndI (fun h2 => ?_) (fun h2 => ?_)
  · simp at h2
    rw [if_pos (by omega)]
    simp
    try simp (disch := omega) only [wrap64]
    exact rest _ 128 1 _ (by omega) (by omega) (by omega) (fun env e1 e2 => by simp [e1, e2])
  simp at h2
  rw [if_neg (by omega)]
  simp
  refine cndI (fun h3 => ?_) (fun h3 => ?_)
  · simp at h3
    rw [if_pos (by omega)]
    simp
    try simp (disch := omega) only [wrap64]
    exact rest _ 2048 2 _ (by omega) (by omega) (by omega) (fun env e1 e2 => by simp [e1, e2])
  simp at h3
  rw [if_neg (by omega)]
  simp
  refine cndI (fun h4 => ?_) (fun h4 => ?_)
  · simp at h4
    rw [if_pos (by omega)]
    simp
    try simp (disch := omega) only [wrap64]
    exact rest _ 65536 3 _ (by omega) (by omega) (by omega) (fun env e1 e2 => by simp [e1, e2])
  simp at h4
  rw [if_neg (by omega)]
  simp
  try simp (disch := omega) only [wrap64]
  trace_state
end Go.HL.Nm

namespace Go.HL.Nm
open Go.HL Go.Proofs
set_option maxRecDepth 4000
set_option linter.unusedSimpArgs false
set_option linter.unusedVariables false
noncomputable def oneS : PS Try.prog where
  f := 89
  val args := match args with
    | [.string s, .int _ i] => .tuple #[.int .i64 (oneF (s.data.toList.drop i.toNat)).1, .int .i64 (oneF (s.data.toList.drop i.toNat)).2]
    | _ => undef
  ok args := match args with
    | [.string s, .int .i64 i] => s.data.toList.length ≤ 1048576 ∧ 0 ≤ i ∧ i < s.data.toList.length
    | _ => False
  sound args w h := by
    split at h
    · rename_i s i
      obtain ⟨h1, h2, h3⟩ := h
      obtain ⟨n, rfl⟩ := Int.eq_ofNat_of_zero_le h2
      have := one_spec s.data.toList n w (by omega) h1
      rw [← mk_eta] at this
      simpa using this
    · exact h.elim
noncomputable abbrev F1 : PF Try.prog := PF.of [oneS]
@[simp] theorem F1_one_val (args : List Value) : F1.val 89 args = oneS.val args := rfl
@[simp] theorem F1_one_ok (args : List Value) : F1.ok 89 args = oneS.ok args := rfl
-- bazaar/bazaarref04.Units
def h80_0 : HC := (.seq (.reg (.done [(1, (.inp 3)), (2, (.inp 4))] none)) .ret)
@[simp] theorem h80_0_wp {P : Program} {F : PF P} {Q : EX → List Value → World → Prop} {env : List Value} {w : World} : h80_0.wp F Q env w = HC.wp F (.seq (.reg (.done [(1, (.inp 3)), (2, (.inp 4))] none)) .ret) Q env w := rfl
def h80_1 : HC := (.reg (.chk none (.bin .add) (.cons (.inp 5) (.cons (.inp 7) .nil)) (.done [(5, (.op (.bin .add) (.cons (.inp 5) (.cons (.inp 7) .nil))))] none)))
@[simp] theorem h80_1_wp {P : Program} {F : PF P} {Q : EX → List Value → World → Prop} {env : List Value} {w : World} : h80_1.wp F Q env w = HC.wp F (.reg (.chk none (.bin .add) (.cons (.inp 5) (.cons (.inp 7) .nil)) (.done [(5, (.op (.bin .add) (.cons (.inp 5) (.cons (.inp 7) .nil))))] none))) Q env w := rfl
def h80_2 : HC := (.seq (.reg (.eff (.bsl 3 1 1 #[(.int .i64 0)] [0]) (.cons (.inp 5) .nil) (.eff (.app 35 35 3 1 8 (.int .i64 0)) (.cons (.inp 4) (.cons (.bv 0) .nil)) (.done [(4, (.bv 1))] none)))) h80_1)
@[simp] theorem h80_2_wp {P : Program} {F : PF P} {Q : EX → List Value → World → Prop} {env : List Value} {w : World} : h80_2.wp F Q env w = HC.wp F (.seq (.reg (.eff (.bsl 3 1 1 #[(.int .i64 0)] [0]) (.cons (.inp 5) .nil) (.eff (.app 35 35 3 1 8 (.int .i64 0)) (.cons (.inp 4) (.cons (.bv 0) .nil)) (.done [(4, (.bv 1))] none)))) h80_1) Q env w := rfl
def h80_3 : HC := (.seq (.reg (.eff (.bsl 3 1 1 #[(.int .i64 0)] [0]) (.cons (.inp 6) .nil) (.eff (.app 35 35 3 1 8 (.int .i64 0)) (.cons (.inp 3) (.cons (.bv 0) .nil)) (.done [(3, (.bv 1))] none)))) h80_2)
@[simp] theorem h80_3_wp {P : Program} {F : PF P} {Q : EX → List Value → World → Prop} {env : List Value} {w : World} : h80_3.wp F Q env w = HC.wp F (.seq (.reg (.eff (.bsl 3 1 1 #[(.int .i64 0)] [0]) (.cons (.inp 6) .nil) (.eff (.app 35 35 3 1 8 (.int .i64 0)) (.cons (.inp 3) (.cons (.bv 0) .nil)) (.done [(3, (.bv 1))] none)))) h80_2) Q env w := rfl
def h80_4 : HC := (.seq (.reg (.chk none (.cal 89) (.cons (.inp 0) (.cons (.inp 5) .nil)) (.chk none (.ext 0) (.cons (.op (.cal 89) (.cons (.inp 0) (.cons (.inp 5) .nil))) .nil) (.chk none (.ext 1) (.cons (.op (.cal 89) (.cons (.inp 0) (.cons (.inp 5) .nil))) .nil) (.done [(6, (.op (.ext 0) (.cons (.op (.cal 89) (.cons (.inp 0) (.cons (.inp 5) .nil))) .nil))), (7, (.op (.ext 1) (.cons (.op (.cal 89) (.cons (.inp 0) (.cons (.inp 5) .nil))) .nil)))] none))))) h80_3)
@[simp] theorem h80_4_wp {P : Program} {F : PF P} {Q : EX → List Value → World → Prop} {env : List Value} {w : World} : h80_4.wp F Q env w = HC.wp F (.seq (.reg (.chk none (.cal 89) (.cons (.inp 0) (.cons (.inp 5) .nil)) (.chk none (.ext 0) (.cons (.op (.cal 89) (.cons (.inp 0) (.cons (.inp 5) .nil))) .nil) (.chk none (.ext 1) (.cons (.op (.cal 89) (.cons (.inp 0) (.cons (.inp 5) .nil))) .nil) (.done [(6, (.op (.ext 0) (.cons (.op (.cal 89) (.cons (.inp 0) (.cons (.inp 5) .nil))) .nil))), (7, (.op (.ext 1) (.cons (.op (.cal 89) (.cons (.inp 0) (.cons (.inp 5) .nil))) .nil)))] none))))) h80_3) Q env w := rfl
def h80_5 : HC := (.block 1 h80_4)
@[simp] theorem h80_5_wp {P : Program} {F : PF P} {Q : EX → List Value → World → Prop} {env : List Value} {w : World} : h80_5.wp F Q env w = HC.wp F (.block 1 h80_4) Q env w := rfl
def h80_6 : HC := (.seq (.br (.chk none .lenS (.cons (.inp 0) .nil) (.chk none (.bin .lss) (.cons (.inp 5) (.cons (.op .lenS (.cons (.inp 0) .nil)) .nil)) (.done [] (some (.op (.bin .lss) (.cons (.inp 5) (.cons (.op .lenS (.cons (.inp 0) .nil)) .nil))))))) .skip (.exit 0)) h80_5)
@[simp] theorem h80_6_wp {P : Program} {F : PF P} {Q : EX → List Value → World → Prop} {env : List Value} {w : World} : h80_6.wp F Q env w = HC.wp F (.seq (.br (.chk none .lenS (.cons (.inp 0) .nil) (.chk none (.bin .lss) (.cons (.inp 5) (.cons (.op .lenS (.cons (.inp 0) .nil)) .nil)) (.done [] (some (.op (.bin .lss) (.cons (.inp 5) (.cons (.op .lenS (.cons (.inp 0) .nil)) .nil))))))) .skip (.exit 0)) h80_5) Q env w := rfl
def h80_7 : HC := (.loop h80_6)
@[simp] theorem h80_7_wp {P : Program} {F : PF P} {Q : EX → List Value → World → Prop} {env : List Value} {w : World} : h80_7.wp F Q env w = HC.wp F (.loop h80_6) Q env w := rfl
def h80_8 : HC := (.seq (.block 0 h80_7) h80_0)
@[simp] theorem h80_8_wp {P : Program} {F : PF P} {Q : EX → List Value → World → Prop} {env : List Value} {w : World} : h80_8.wp F Q env w = HC.wp F (.seq (.block 0 h80_7) h80_0) Q env w := rfl
def h80_9 : HC := (.seq (.reg (.done [(5, (.cst (.int .i64 0)))] none)) h80_8)
@[simp] theorem h80_9_wp {P : Program} {F : PF P} {Q : EX → List Value → World → Prop} {env : List Value} {w : World} : h80_9.wp F Q env w = HC.wp F (.seq (.reg (.done [(5, (.cst (.int .i64 0)))] none)) h80_8) Q env w := rfl
def h80_10 : HC := (.seq (.reg (.done [(3, (.cst (.slice none 0 0))), (4, (.cst (.slice none 0 0)))] none)) h80_9)
@[simp] theorem h80_10_wp {P : Program} {F : PF P} {Q : EX → List Value → World → Prop} {env : List Value} {w : World} : h80_10.wp F Q env w = HC.wp F (.seq (.reg (.done [(3, (.cst (.slice none 0 0))), (4, (.cst (.slice none 0 0)))] none)) h80_9) Q env w := rfl
def l80 : Lifted := ⟨[0, 2, 3, 4, 5, 6, 7, 8], 32, [.slot 1, .slot 2], (.seq (.reg (.done [(1, (.cst (.slice none 0 0))), (2, (.cst (.slice none 0 0)))] none)) h80_10)⟩
theorem l80_ok : liftFn F1 80 400 = some l80 := by kernel_rfl


def ints (l : List Int) : List Value := l.map (Value.int .i64)
theorem units_spec (l : List UInt8) (w0 w : World) (A : Asn) (hl : l.length ≤ 1048576) (s : St w0 A w) :
    CallW Try.prog 80 [.string (mk l)] (fun r w' => ∃ v1 v2, r = .tuple #[v1, v2] ∧
      St w0 (A * own 3 1 v1 (units l).length (ints ((units l).map (·.1))) * own 3 1 v2 (units l).length (ints ((starts 0 (units l)).map (Nat.cast)))) w') w := by
  refine callW_of_lift l80_ok (by simp [l80]) ?_
  simp [l80]
  refine loopI (fun env w' => ∃ (i : Nat) (v1 v2 u n : Value) (done : List (Int × Nat)), env = [.string (mk l), .slice none 0 0, .slice none 0 0, v1, v2, .int .i64 i, u, n] ∧ i ≤ l.length ∧
      units l = done ++ units (l.drop i) ∧ i = sumW done ∧
      St w0 (A * own 3 1 v1 done.length (ints (done.map (·.1))) * own 3 1 v2 done.length (ints ((starts 0 done).map (Nat.cast)))) w')
    (fun env _ => l.length - slotN env 5) ⟨0, _, _, _, _, [], rfl, by omega, by simp, rfl, (s.own_nil _ _).own_nil _ _⟩ ?_
  rintro LQ env w' ⟨i, v1, v2, u, n, done, rfl, hi, hu, hsum, s'⟩ hN hE hR
  simp
  refine cndI (fun h => ?_) (fun h => ?_)
  · simp at h
    simp [oneS]
    refine ⟨⟨hl, h⟩, ?_⟩
    have hle := oneF_le (l := l) (i := i) h
    have hdl : done.length ≤ l.length := by have := units_len l; rw [hu, List.length_append] at this; omega
    refine eff_bsl1 s' rfl ?_
    intro b w1 s1
    simp
    refine eff_app (n := done.length) (m := 1) (news := [.int .i64 (oneF (l.drop i)).1]) s1.p3 rfl s1.cells_look (by simp [Value.oneCell']) (by decide) rfl (by unfold maxLen; omega) (by omega) ?_
    intro v1' w2 s2
    simp
    refine eff_bsl1 s2.p3.p3.drop rfl ?_
    intro b' w3 s3
    simp
    refine eff_app (n := done.length) (m := 1) (news := [.int .i64 i]) s3.swap rfl s3.cells_look (by simp [Value.oneCell']) (by decide) rfl (by unfold maxLen; omega) (by omega) ?_
    intro v2' w4 s4
    simp
    try simp (disch := omega) only [wrap64]
    refine hN _ _ ⟨i + (oneF (l.drop i)).2, v1', v2', _, _, done ++ [oneF (l.drop i)], by simp; exact ⟨rfl, rfl⟩, hle.1, units_step hu h, by simp [sumW_append, sumW, hsum], ?_⟩ (by simp [slotN]; omega)
    have := s4.swap.drop
    simpa [ints, starts_append, starts, hsum] using this
  · simp at h
    simp
    refine hE _ _ _ ?_
    simp
    have : i = l.length := by omega
    subst this
    rw [List.drop_length, units_nil, List.append_nil] at hu
    rw [hu]
    exact ⟨_, _, ⟨rfl, rfl⟩, s'⟩

/-- the first n units' bytes -/
def cutF (l : List UInt8) (n : Int) : List UInt8 := l.take (sumW ((units l).take n.toNat))
end Go.HL.Nm

namespace Go.HL.Nm
open Go.HL Go.Proofs
set_option maxRecDepth 4000
set_option linter.unusedSimpArgs false
set_option linter.unusedVariables false
noncomputable def inS : PS Try.prog where
  f := 90
  val args := match args with
    | [.int _ u, .int _ lo, .int _ hi] => .bool (inF u lo hi)
    | _ => undef
  ok args := match args with
    | [.int k _, .int k' _, .int k'' _] => k = .i64 ∧ k' = .i64 ∧ k'' = .i64
    | _ => False
  sound args w h := by
    split at h
    · obtain ⟨rfl, rfl, rfl⟩ := h; exact in_spec _ _ _ w
    · exact h.elim
noncomputable def rjoinerS : PS Try.prog := PS.ib 81 .i64 joinerF rjoiner_spec
noncomputable def joinerS : PS Try.prog := PS.ib 46 .i32 joinerF joiner_spec
noncomputable def letterS : PS Try.prog := PS.ib 45 .i32 letterF letter_spec
noncomputable def slhpS : PS Try.prog where
  f := 87
  val args := match args with
    | [.string s, .string p] => .bool (p.data.toList.isPrefixOf s.data.toList)
    | _ => undef
  ok args := match args with
    | [.string s, .string _] => s.data.toList.length ≤ 1048576
    | _ => False
  sound args w h := by
    split at h
    · rename_i s p
      have := slhp_spec s.data.toList p.data.toList w h
      rw [← mk_eta, ← mk_eta] at this
      exact this
    · exact h.elim
noncomputable abbrev F2 : PF Try.prog := PF.of [oneS, inS, rjoinerS, joinerS, letterS, slhpS]
@[simp] theorem F2_in_val (args : List Value) : F2.val 90 args = inS.val args := rfl
@[simp] theorem F2_in_ok (args : List Value) : F2.ok 90 args = inS.ok args := rfl
@[simp] theorem F2_hp_val (args : List Value) : F2.val 87 args = slhpS.val args := rfl
@[simp] theorem F2_hp_ok (args : List Value) : F2.ok 87 args = slhpS.ok args := rfl
-- bazaar/bazaarref04.Letter
def h82_0 : HC := (.seq (.reg (.chk none (.cal 90) (.cons (.inp 0) (.cons (.cst (.int .i64 48)) (.cons (.cst (.int .i64 57)) .nil))) (.bnd (.op (.cal 90) (.cons (.inp 0) (.cons (.cst (.int .i64 48)) (.cons (.cst (.int .i64 57)) .nil)))) (.chk (some ((.bv 0), false)) (.cal 90) (.cons (.inp 0) (.cons (.cst (.int .i64 65)) (.cons (.cst (.int .i64 90)) .nil))) (.isb none (.bv 0) (.bnd (.ite (.bv 0) true (.cst (.bool true)) (.op (.cal 90) (.cons (.inp 0) (.cons (.cst (.int .i64 65)) (.cons (.cst (.int .i64 90)) .nil))))) (.chk (some ((.bv 1), false)) (.cal 90) (.cons (.inp 0) (.cons (.cst (.int .i64 97)) (.cons (.cst (.int .i64 122)) .nil))) (.isb none (.bv 1) (.bnd (.ite (.bv 1) true (.cst (.bool true)) (.op (.cal 90) (.cons (.inp 0) (.cons (.cst (.int .i64 97)) (.cons (.cst (.int .i64 122)) .nil))))) (.chk (some ((.bv 2), false)) (.cal 90) (.cons (.inp 0) (.cons (.cst (.int .i64 192)) (.cons (.cst (.int .i64 255)) .nil))) (.isb none (.bv 2) (.bnd (.ite (.bv 2) true (.cst (.bool true)) (.op (.cal 90) (.cons (.inp 0) (.cons (.cst (.int .i64 192)) (.cons (.cst (.int .i64 255)) .nil))))) (.chk (some ((.bv 3), false)) (.cal 90) (.cons (.inp 0) (.cons (.cst (.int .i64 913)) (.cons (.cst (.int .i64 937)) .nil))) (.isb none (.bv 3) (.bnd (.ite (.bv 3) true (.cst (.bool true)) (.op (.cal 90) (.cons (.inp 0) (.cons (.cst (.int .i64 913)) (.cons (.cst (.int .i64 937)) .nil))))) (.chk (some ((.bv 4), false)) (.cal 90) (.cons (.inp 0) (.cons (.cst (.int .i64 945)) (.cons (.cst (.int .i64 969)) .nil))) (.isb none (.bv 4) (.bnd (.ite (.bv 4) true (.cst (.bool true)) (.op (.cal 90) (.cons (.inp 0) (.cons (.cst (.int .i64 945)) (.cons (.cst (.int .i64 969)) .nil))))) (.chk (some ((.bv 5), false)) (.bin .eql) (.cons (.inp 0) (.cons (.cst (.int .i64 1025)) .nil)) (.isb none (.bv 5) (.bnd (.ite (.bv 5) true (.cst (.bool true)) (.op (.bin .eql) (.cons (.inp 0) (.cons (.cst (.int .i64 1025)) .nil)))) (.chk (some ((.bv 6), false)) (.cal 90) (.cons (.inp 0) (.cons (.cst (.int .i64 1040)) (.cons (.cst (.int .i64 1103)) .nil))) (.isb none (.bv 6) (.bnd (.ite (.bv 6) true (.cst (.bool true)) (.op (.cal 90) (.cons (.inp 0) (.cons (.cst (.int .i64 1040)) (.cons (.cst (.int .i64 1103)) .nil))))) (.chk (some ((.bv 7), false)) (.bin .eql) (.cons (.inp 0) (.cons (.cst (.int .i64 1105)) .nil)) (.isb none (.bv 7) (.done [(1, (.ite (.bv 7) true (.cst (.bool true)) (.op (.bin .eql) (.cons (.inp 0) (.cons (.cst (.int .i64 1105)) .nil)))))] none))))))))))))))))))))))))))) .ret)
@[simp] theorem h82_0_wp {P : Program} {F : PF P} {Q : EX → List Value → World → Prop} {env : List Value} {w : World} : h82_0.wp F Q env w = HC.wp F (.seq (.reg (.chk none (.cal 90) (.cons (.inp 0) (.cons (.cst (.int .i64 48)) (.cons (.cst (.int .i64 57)) .nil))) (.bnd (.op (.cal 90) (.cons (.inp 0) (.cons (.cst (.int .i64 48)) (.cons (.cst (.int .i64 57)) .nil)))) (.chk (some ((.bv 0), false)) (.cal 90) (.cons (.inp 0) (.cons (.cst (.int .i64 65)) (.cons (.cst (.int .i64 90)) .nil))) (.isb none (.bv 0) (.bnd (.ite (.bv 0) true (.cst (.bool true)) (.op (.cal 90) (.cons (.inp 0) (.cons (.cst (.int .i64 65)) (.cons (.cst (.int .i64 90)) .nil))))) (.chk (some ((.bv 1), false)) (.cal 90) (.cons (.inp 0) (.cons (.cst (.int .i64 97)) (.cons (.cst (.int .i64 122)) .nil))) (.isb none (.bv 1) (.bnd (.ite (.bv 1) true (.cst (.bool true)) (.op (.cal 90) (.cons (.inp 0) (.cons (.cst (.int .i64 97)) (.cons (.cst (.int .i64 122)) .nil))))) (.chk (some ((.bv 2), false)) (.cal 90) (.cons (.inp 0) (.cons (.cst (.int .i64 192)) (.cons (.cst (.int .i64 255)) .nil))) (.isb none (.bv 2) (.bnd (.ite (.bv 2) true (.cst (.bool true)) (.op (.cal 90) (.cons (.inp 0) (.cons (.cst (.int .i64 192)) (.cons (.cst (.int .i64 255)) .nil))))) (.chk (some ((.bv 3), false)) (.cal 90) (.cons (.inp 0) (.cons (.cst (.int .i64 913)) (.cons (.cst (.int .i64 937)) .nil))) (.isb none (.bv 3) (.bnd (.ite (.bv 3) true (.cst (.bool true)) (.op (.cal 90) (.cons (.inp 0) (.cons (.cst (.int .i64 913)) (.cons (.cst (.int .i64 937)) .nil))))) (.chk (some ((.bv 4), false)) (.cal 90) (.cons (.inp 0) (.cons (.cst (.int .i64 945)) (.cons (.cst (.int .i64 969)) .nil))) (.isb none (.bv 4) (.bnd (.ite (.bv 4) true (.cst (.bool true)) (.op (.cal 90) (.cons (.inp 0) (.cons (.cst (.int .i64 945)) (.cons (.cst (.int .i64 969)) .nil))))) (.chk (some ((.bv 5), false)) (.bin .eql) (.cons (.inp 0) (.cons (.cst (.int .i64 1025)) .nil)) (.isb none (.bv 5) (.bnd (.ite (.bv 5) true (.cst (.bool true)) (.op (.bin .eql) (.cons (.inp 0) (.cons (.cst (.int .i64 1025)) .nil)))) (.chk (some ((.bv 6), false)) (.cal 90) (.cons (.inp 0) (.cons (.cst (.int .i64 1040)) (.cons (.cst (.int .i64 1103)) .nil))) (.isb none (.bv 6) (.bnd (.ite (.bv 6) true (.cst (.bool true)) (.op (.cal 90) (.cons (.inp 0) (.cons (.cst (.int .i64 1040)) (.cons (.cst (.int .i64 1103)) .nil))))) (.chk (some ((.bv 7), false)) (.bin .eql) (.cons (.inp 0) (.cons (.cst (.int .i64 1105)) .nil)) (.isb none (.bv 7) (.done [(1, (.ite (.bv 7) true (.cst (.bool true)) (.op (.bin .eql) (.cons (.inp 0) (.cons (.cst (.int .i64 1105)) .nil)))))] none))))))))))))))))))))))))))) .ret) Q env w := rfl
def h82_1 : HC := (.seq (.reg (.done [(1, (.cst (.bool false)))] none)) .ret)
@[simp] theorem h82_1_wp {P : Program} {F : PF P} {Q : EX → List Value → World → Prop} {env : List Value} {w : World} : h82_1.wp F Q env w = HC.wp F (.seq (.reg (.done [(1, (.cst (.bool false)))] none)) .ret) Q env w := rfl
def h82_2 : HC := (.seq (.br (.chk none (.bin .eql) (.cons (.inp 0) (.cons (.cst (.int .i64 215)) .nil)) (.bnd (.op (.bin .eql) (.cons (.inp 0) (.cons (.cst (.int .i64 215)) .nil))) (.chk (some ((.bv 0), false)) (.bin .eql) (.cons (.inp 0) (.cons (.cst (.int .i64 247)) .nil)) (.isb none (.bv 0) (.bnd (.ite (.bv 0) true (.cst (.bool true)) (.op (.bin .eql) (.cons (.inp 0) (.cons (.cst (.int .i64 247)) .nil)))) (.chk (some ((.bv 1), false)) (.bin .eql) (.cons (.inp 0) (.cons (.cst (.int .i64 930)) .nil)) (.isb none (.bv 1) (.done [] (some (.ite (.bv 1) true (.cst (.bool true)) (.op (.bin .eql) (.cons (.inp 0) (.cons (.cst (.int .i64 930)) .nil))))))))))))) h82_1 .skip) h82_0)
@[simp] theorem h82_2_wp {P : Program} {F : PF P} {Q : EX → List Value → World → Prop} {env : List Value} {w : World} : h82_2.wp F Q env w = HC.wp F (.seq (.br (.chk none (.bin .eql) (.cons (.inp 0) (.cons (.cst (.int .i64 215)) .nil)) (.bnd (.op (.bin .eql) (.cons (.inp 0) (.cons (.cst (.int .i64 215)) .nil))) (.chk (some ((.bv 0), false)) (.bin .eql) (.cons (.inp 0) (.cons (.cst (.int .i64 247)) .nil)) (.isb none (.bv 0) (.bnd (.ite (.bv 0) true (.cst (.bool true)) (.op (.bin .eql) (.cons (.inp 0) (.cons (.cst (.int .i64 247)) .nil)))) (.chk (some ((.bv 1), false)) (.bin .eql) (.cons (.inp 0) (.cons (.cst (.int .i64 930)) .nil)) (.isb none (.bv 1) (.done [] (some (.ite (.bv 1) true (.cst (.bool true)) (.op (.bin .eql) (.cons (.inp 0) (.cons (.cst (.int .i64 930)) .nil))))))))))))) h82_1 .skip) h82_0) Q env w := rfl
def l82 : Lifted := ⟨[0, 2], 47, [.slot 1], (.seq (.reg (.done [(1, (.cst (.bool false)))] none)) h82_2)⟩
theorem l82_ok : liftFn F2 82 400 = some l82 := by kernel_rfl

-- strings.HasPrefix
def h76_0 : HC := (.seq (.reg (.chk none (.cal 87) (.cons (.inp 0) (.cons (.inp 1) .nil)) (.done [(2, (.op (.cal 87) (.cons (.inp 0) (.cons (.inp 1) .nil))))] none))) .ret)
@[simp] theorem h76_0_wp {P : Program} {F : PF P} {Q : EX → List Value → World → Prop} {env : List Value} {w : World} : h76_0.wp F Q env w = HC.wp F (.seq (.reg (.chk none (.cal 87) (.cons (.inp 0) (.cons (.inp 1) .nil)) (.done [(2, (.op (.cal 87) (.cons (.inp 0) (.cons (.inp 1) .nil))))] none))) .ret) Q env w := rfl
def l76 : Lifted := ⟨[0, 1, 4], 8, [.slot 2], (.seq (.reg (.done [(2, (.cst (.bool false)))] none)) h76_0)⟩
theorem l76_ok : liftFn F2 76 400 = some l76 := by kernel_rfl

-- bazaar/bazaarref04.looks
def h93_0 : HC := (.seq (.reg (.done [(1, (.inp 0))] none)) .ret)
@[simp] theorem h93_0_wp {P : Program} {F : PF P} {Q : EX → List Value → World → Prop} {env : List Value} {w : World} : h93_0.wp F Q env w = HC.wp F (.seq (.reg (.done [(1, (.inp 0))] none)) .ret) Q env w := rfl
def h93_1 : HC := (.seq (.reg (.done [(1, (.cst (.int .i64 111)))] none)) .ret)
@[simp] theorem h93_1_wp {P : Program} {F : PF P} {Q : EX → List Value → World → Prop} {env : List Value} {w : World} : h93_1.wp F Q env w = HC.wp F (.seq (.reg (.done [(1, (.cst (.int .i64 111)))] none)) .ret) Q env w := rfl
def h93_2 : HC := (.seq (.reg (.done [(1, (.cst (.int .i64 108)))] none)) .ret)
@[simp] theorem h93_2_wp {P : Program} {F : PF P} {Q : EX → List Value → World → Prop} {env : List Value} {w : World} : h93_2.wp F Q env w = HC.wp F (.seq (.reg (.done [(1, (.cst (.int .i64 108)))] none)) .ret) Q env w := rfl
def h93_3 : HC := (.seq (.reg (.done [(1, (.cst (.int .i64 97)))] none)) .ret)
@[simp] theorem h93_3_wp {P : Program} {F : PF P} {Q : EX → List Value → World → Prop} {env : List Value} {w : World} : h93_3.wp F Q env w = HC.wp F (.seq (.reg (.done [(1, (.cst (.int .i64 97)))] none)) .ret) Q env w := rfl
def h93_4 : HC := (.seq (.reg (.done [(1, (.cst (.int .i64 99)))] none)) .ret)
@[simp] theorem h93_4_wp {P : Program} {F : PF P} {Q : EX → List Value → World → Prop} {env : List Value} {w : World} : h93_4.wp F Q env w = HC.wp F (.seq (.reg (.done [(1, (.cst (.int .i64 99)))] none)) .ret) Q env w := rfl
def h93_5 : HC := (.seq (.reg (.done [(1, (.cst (.int .i64 101)))] none)) .ret)
@[simp] theorem h93_5_wp {P : Program} {F : PF P} {Q : EX → List Value → World → Prop} {env : List Value} {w : World} : h93_5.wp F Q env w = HC.wp F (.seq (.reg (.done [(1, (.cst (.int .i64 101)))] none)) .ret) Q env w := rfl
def h93_6 : HC := (.seq (.reg (.done [(1, (.cst (.int .i64 105)))] none)) .ret)
@[simp] theorem h93_6_wp {P : Program} {F : PF P} {Q : EX → List Value → World → Prop} {env : List Value} {w : World} : h93_6.wp F Q env w = HC.wp F (.seq (.reg (.done [(1, (.cst (.int .i64 105)))] none)) .ret) Q env w := rfl
def h93_7 : HC := (.seq (.reg (.done [(1, (.cst (.int .i64 107)))] none)) .ret)
@[simp] theorem h93_7_wp {P : Program} {F : PF P} {Q : EX → List Value → World → Prop} {env : List Value} {w : World} : h93_7.wp F Q env w = HC.wp F (.seq (.reg (.done [(1, (.cst (.int .i64 107)))] none)) .ret) Q env w := rfl
def h93_8 : HC := (.seq (.reg (.done [(1, (.cst (.int .i64 110)))] none)) .ret)
@[simp] theorem h93_8_wp {P : Program} {F : PF P} {Q : EX → List Value → World → Prop} {env : List Value} {w : World} : h93_8.wp F Q env w = HC.wp F (.seq (.reg (.done [(1, (.cst (.int .i64 110)))] none)) .ret) Q env w := rfl
def h93_9 : HC := (.seq (.reg (.done [(1, (.cst (.int .i64 112)))] none)) .ret)
@[simp] theorem h93_9_wp {P : Program} {F : PF P} {Q : EX → List Value → World → Prop} {env : List Value} {w : World} : h93_9.wp F Q env w = HC.wp F (.seq (.reg (.done [(1, (.cst (.int .i64 112)))] none)) .ret) Q env w := rfl
def h93_10 : HC := (.seq (.reg (.done [(1, (.cst (.int .i64 116)))] none)) .ret)
@[simp] theorem h93_10_wp {P : Program} {F : PF P} {Q : EX → List Value → World → Prop} {env : List Value} {w : World} : h93_10.wp F Q env w = HC.wp F (.seq (.reg (.done [(1, (.cst (.int .i64 116)))] none)) .ret) Q env w := rfl
def h93_11 : HC := (.seq (.reg (.done [(1, (.cst (.int .i64 117)))] none)) .ret)
@[simp] theorem h93_11_wp {P : Program} {F : PF P} {Q : EX → List Value → World → Prop} {env : List Value} {w : World} : h93_11.wp F Q env w = HC.wp F (.seq (.reg (.done [(1, (.cst (.int .i64 117)))] none)) .ret) Q env w := rfl
def h93_12 : HC := (.seq (.reg (.done [(1, (.cst (.int .i64 118)))] none)) .ret)
@[simp] theorem h93_12_wp {P : Program} {F : PF P} {Q : EX → List Value → World → Prop} {env : List Value} {w : World} : h93_12.wp F Q env w = HC.wp F (.seq (.reg (.done [(1, (.cst (.int .i64 118)))] none)) .ret) Q env w := rfl
def h93_13 : HC := (.seq (.reg (.done [(1, (.cst (.int .i64 120)))] none)) .ret)
@[simp] theorem h93_13_wp {P : Program} {F : PF P} {Q : EX → List Value → World → Prop} {env : List Value} {w : World} : h93_13.wp F Q env w = HC.wp F (.seq (.reg (.done [(1, (.cst (.int .i64 120)))] none)) .ret) Q env w := rfl
def h93_14 : HC := (.seq (.reg (.done [(1, (.cst (.int .i64 121)))] none)) .ret)
@[simp] theorem h93_14_wp {P : Program} {F : PF P} {Q : EX → List Value → World → Prop} {env : List Value} {w : World} : h93_14.wp F Q env w = HC.wp F (.seq (.reg (.done [(1, (.cst (.int .i64 121)))] none)) .ret) Q env w := rfl
def h93_15 : HC := (.seq (.reg (.done [(1, (.cst (.int .i64 45)))] none)) .ret)
@[simp] theorem h93_15_wp {P : Program} {F : PF P} {Q : EX → List Value → World → Prop} {env : List Value} {w : World} : h93_15.wp F Q env w = HC.wp F (.seq (.reg (.done [(1, (.cst (.int .i64 45)))] none)) .ret) Q env w := rfl
def h93_16 : HC := (.br (.chk none (.bin .eql) (.cons (.inp 0) (.cons (.cst (.int .i64 32)) .nil)) (.bnd (.op (.bin .eql) (.cons (.inp 0) (.cons (.cst (.int .i64 32)) .nil))) (.chk (some ((.bv 0), false)) (.bin .eql) (.cons (.inp 0) (.cons (.cst (.int .i64 95)) .nil)) (.isb none (.bv 0) (.done [] (some (.ite (.bv 0) true (.cst (.bool true)) (.op (.bin .eql) (.cons (.inp 0) (.cons (.cst (.int .i64 95)) .nil)))))))))) h93_15 .skip)
@[simp] theorem h93_16_wp {P : Program} {F : PF P} {Q : EX → List Value → World → Prop} {env : List Value} {w : World} : h93_16.wp F Q env w = HC.wp F (.br (.chk none (.bin .eql) (.cons (.inp 0) (.cons (.cst (.int .i64 32)) .nil)) (.bnd (.op (.bin .eql) (.cons (.inp 0) (.cons (.cst (.int .i64 32)) .nil))) (.chk (some ((.bv 0), false)) (.bin .eql) (.cons (.inp 0) (.cons (.cst (.int .i64 95)) .nil)) (.isb none (.bv 0) (.done [] (some (.ite (.bv 0) true (.cst (.bool true)) (.op (.bin .eql) (.cons (.inp 0) (.cons (.cst (.int .i64 95)) .nil)))))))))) h93_15 .skip) Q env w := rfl
def h93_17 : HC := (.br (.chk none (.bin .eql) (.cons (.inp 0) (.cons (.cst (.int .i64 253)) .nil)) (.bnd (.op (.bin .eql) (.cons (.inp 0) (.cons (.cst (.int .i64 253)) .nil))) (.chk (some ((.bv 0), false)) (.bin .eql) (.cons (.inp 0) (.cons (.cst (.int .i64 255)) .nil)) (.isb none (.bv 0) (.bnd (.ite (.bv 0) true (.cst (.bool true)) (.op (.bin .eql) (.cons (.inp 0) (.cons (.cst (.int .i64 255)) .nil)))) (.chk (some ((.bv 1), false)) (.bin .eql) (.cons (.inp 0) (.cons (.cst (.int .i64 947)) .nil)) (.isb none (.bv 1) (.bnd (.ite (.bv 1) true (.cst (.bool true)) (.op (.bin .eql) (.cons (.inp 0) (.cons (.cst (.int .i64 947)) .nil)))) (.chk (some ((.bv 2), false)) (.bin .eql) (.cons (.inp 0) (.cons (.cst (.int .i64 1091)) .nil)) (.isb none (.bv 2) (.done [] (some (.ite (.bv 2) true (.cst (.bool true)) (.op (.bin .eql) (.cons (.inp 0) (.cons (.cst (.int .i64 1091)) .nil)))))))))))))))) h93_14 h93_16)
@[simp] theorem h93_17_wp {P : Program} {F : PF P} {Q : EX → List Value → World → Prop} {env : List Value} {w : World} : h93_17.wp F Q env w = HC.wp F (.br (.chk none (.bin .eql) (.cons (.inp 0) (.cons (.cst (.int .i64 253)) .nil)) (.bnd (.op (.bin .eql) (.cons (.inp 0) (.cons (.cst (.int .i64 253)) .nil))) (.chk (some ((.bv 0), false)) (.bin .eql) (.cons (.inp 0) (.cons (.cst (.int .i64 255)) .nil)) (.isb none (.bv 0) (.bnd (.ite (.bv 0) true (.cst (.bool true)) (.op (.bin .eql) (.cons (.inp 0) (.cons (.cst (.int .i64 255)) .nil)))) (.chk (some ((.bv 1), false)) (.bin .eql) (.cons (.inp 0) (.cons (.cst (.int .i64 947)) .nil)) (.isb none (.bv 1) (.bnd (.ite (.bv 1) true (.cst (.bool true)) (.op (.bin .eql) (.cons (.inp 0) (.cons (.cst (.int .i64 947)) .nil)))) (.chk (some ((.bv 2), false)) (.bin .eql) (.cons (.inp 0) (.cons (.cst (.int .i64 1091)) .nil)) (.isb none (.bv 2) (.done [] (some (.ite (.bv 2) true (.cst (.bool true)) (.op (.bin .eql) (.cons (.inp 0) (.cons (.cst (.int .i64 1091)) .nil)))))))))))))))) h93_14 h93_16) Q env w := rfl
def h93_18 : HC := (.br (.chk none (.bin .eql) (.cons (.inp 0) (.cons (.cst (.int .i64 967)) .nil)) (.bnd (.op (.bin .eql) (.cons (.inp 0) (.cons (.cst (.int .i64 967)) .nil))) (.chk (some ((.bv 0), false)) (.bin .eql) (.cons (.inp 0) (.cons (.cst (.int .i64 1093)) .nil)) (.isb none (.bv 0) (.done [] (some (.ite (.bv 0) true (.cst (.bool true)) (.op (.bin .eql) (.cons (.inp 0) (.cons (.cst (.int .i64 1093)) .nil)))))))))) h93_13 h93_17)
@[simp] theorem h93_18_wp {P : Program} {F : PF P} {Q : EX → List Value → World → Prop} {env : List Value} {w : World} : h93_18.wp F Q env w = HC.wp F (.br (.chk none (.bin .eql) (.cons (.inp 0) (.cons (.cst (.int .i64 967)) .nil)) (.bnd (.op (.bin .eql) (.cons (.inp 0) (.cons (.cst (.int .i64 967)) .nil))) (.chk (some ((.bv 0), false)) (.bin .eql) (.cons (.inp 0) (.cons (.cst (.int .i64 1093)) .nil)) (.isb none (.bv 0) (.done [] (some (.ite (.bv 0) true (.cst (.bool true)) (.op (.bin .eql) (.cons (.inp 0) (.cons (.cst (.int .i64 1093)) .nil)))))))))) h93_13 h93_17) Q env w := rfl
def h93_19 : HC := (.br (.chk none (.bin .eql) (.cons (.inp 0) (.cons (.cst (.int .i64 957)) .nil)) (.done [] (some (.op (.bin .eql) (.cons (.inp 0) (.cons (.cst (.int .i64 957)) .nil)))))) h93_12 h93_18)
@[simp] theorem h93_19_wp {P : Program} {F : PF P} {Q : EX → List Value → World → Prop} {env : List Value} {w : World} : h93_19.wp F Q env w = HC.wp F (.br (.chk none (.bin .eql) (.cons (.inp 0) (.cons (.cst (.int .i64 957)) .nil)) (.done [] (some (.op (.bin .eql) (.cons (.inp 0) (.cons (.cst (.int .i64 957)) .nil)))))) h93_12 h93_18) Q env w := rfl
def h93_20 : HC := (.br (.chk none (.cal 90) (.cons (.inp 0) (.cons (.cst (.int .i64 249)) (.cons (.cst (.int .i64 252)) .nil))) (.bnd (.op (.cal 90) (.cons (.inp 0) (.cons (.cst (.int .i64 249)) (.cons (.cst (.int .i64 252)) .nil)))) (.chk (some ((.bv 0), false)) (.bin .eql) (.cons (.inp 0) (.cons (.cst (.int .i64 965)) .nil)) (.isb none (.bv 0) (.done [] (some (.ite (.bv 0) true (.cst (.bool true)) (.op (.bin .eql) (.cons (.inp 0) (.cons (.cst (.int .i64 965)) .nil)))))))))) h93_11 h93_19)
@[simp] theorem h93_20_wp {P : Program} {F : PF P} {Q : EX → List Value → World → Prop} {env : List Value} {w : World} : h93_20.wp F Q env w = HC.wp F (.br (.chk none (.cal 90) (.cons (.inp 0) (.cons (.cst (.int .i64 249)) (.cons (.cst (.int .i64 252)) .nil))) (.bnd (.op (.cal 90) (.cons (.inp 0) (.cons (.cst (.int .i64 249)) (.cons (.cst (.int .i64 252)) .nil)))) (.chk (some ((.bv 0), false)) (.bin .eql) (.cons (.inp 0) (.cons (.cst (.int .i64 965)) .nil)) (.isb none (.bv 0) (.done [] (some (.ite (.bv 0) true (.cst (.bool true)) (.op (.bin .eql) (.cons (.inp 0) (.cons (.cst (.int .i64 965)) .nil)))))))))) h93_11 h93_19) Q env w := rfl
def h93_21 : HC := (.br (.chk none (.bin .eql) (.cons (.inp 0) (.cons (.cst (.int .i64 964)) .nil)) (.bnd (.op (.bin .eql) (.cons (.inp 0) (.cons (.cst (.int .i64 964)) .nil))) (.chk (some ((.bv 0), false)) (.bin .eql) (.cons (.inp 0) (.cons (.cst (.int .i64 1090)) .nil)) (.isb none (.bv 0) (.done [] (some (.ite (.bv 0) true (.cst (.bool true)) (.op (.bin .eql) (.cons (.inp 0) (.cons (.cst (.int .i64 1090)) .nil)))))))))) h93_10 h93_20)
@[simp] theorem h93_21_wp {P : Program} {F : PF P} {Q : EX → List Value → World → Prop} {env : List Value} {w : World} : h93_21.wp F Q env w = HC.wp F (.br (.chk none (.bin .eql) (.cons (.inp 0) (.cons (.cst (.int .i64 964)) .nil)) (.bnd (.op (.bin .eql) (.cons (.inp 0) (.cons (.cst (.int .i64 964)) .nil))) (.chk (some ((.bv 0), false)) (.bin .eql) (.cons (.inp 0) (.cons (.cst (.int .i64 1090)) .nil)) (.isb none (.bv 0) (.done [] (some (.ite (.bv 0) true (.cst (.bool true)) (.op (.bin .eql) (.cons (.inp 0) (.cons (.cst (.int .i64 1090)) .nil)))))))))) h93_10 h93_20) Q env w := rfl
def h93_22 : HC := (.br (.chk none (.bin .eql) (.cons (.inp 0) (.cons (.cst (.int .i64 961)) .nil)) (.bnd (.op (.bin .eql) (.cons (.inp 0) (.cons (.cst (.int .i64 961)) .nil))) (.chk (some ((.bv 0), false)) (.bin .eql) (.cons (.inp 0) (.cons (.cst (.int .i64 1088)) .nil)) (.isb none (.bv 0) (.done [] (some (.ite (.bv 0) true (.cst (.bool true)) (.op (.bin .eql) (.cons (.inp 0) (.cons (.cst (.int .i64 1088)) .nil)))))))))) h93_9 h93_21)
@[simp] theorem h93_22_wp {P : Program} {F : PF P} {Q : EX → List Value → World → Prop} {env : List Value} {w : World} : h93_22.wp F Q env w = HC.wp F (.br (.chk none (.bin .eql) (.cons (.inp 0) (.cons (.cst (.int .i64 961)) .nil)) (.bnd (.op (.bin .eql) (.cons (.inp 0) (.cons (.cst (.int .i64 961)) .nil))) (.chk (some ((.bv 0), false)) (.bin .eql) (.cons (.inp 0) (.cons (.cst (.int .i64 1088)) .nil)) (.isb none (.bv 0) (.done [] (some (.ite (.bv 0) true (.cst (.bool true)) (.op (.bin .eql) (.cons (.inp 0) (.cons (.cst (.int .i64 1088)) .nil)))))))))) h93_9 h93_21) Q env w := rfl
def h93_23 : HC := (.br (.chk none (.bin .eql) (.cons (.inp 0) (.cons (.cst (.int .i64 241)) .nil)) (.done [] (some (.op (.bin .eql) (.cons (.inp 0) (.cons (.cst (.int .i64 241)) .nil)))))) h93_8 h93_22)
@[simp] theorem h93_23_wp {P : Program} {F : PF P} {Q : EX → List Value → World → Prop} {env : List Value} {w : World} : h93_23.wp F Q env w = HC.wp F (.br (.chk none (.bin .eql) (.cons (.inp 0) (.cons (.cst (.int .i64 241)) .nil)) (.done [] (some (.op (.bin .eql) (.cons (.inp 0) (.cons (.cst (.int .i64 241)) .nil)))))) h93_8 h93_22) Q env w := rfl
def h93_24 : HC := (.br (.chk none (.bin .eql) (.cons (.inp 0) (.cons (.cst (.int .i64 954)) .nil)) (.bnd (.op (.bin .eql) (.cons (.inp 0) (.cons (.cst (.int .i64 954)) .nil))) (.chk (some ((.bv 0), false)) (.bin .eql) (.cons (.inp 0) (.cons (.cst (.int .i64 1082)) .nil)) (.isb none (.bv 0) (.done [] (some (.ite (.bv 0) true (.cst (.bool true)) (.op (.bin .eql) (.cons (.inp 0) (.cons (.cst (.int .i64 1082)) .nil)))))))))) h93_7 h93_23)
@[simp] theorem h93_24_wp {P : Program} {F : PF P} {Q : EX → List Value → World → Prop} {env : List Value} {w : World} : h93_24.wp F Q env w = HC.wp F (.br (.chk none (.bin .eql) (.cons (.inp 0) (.cons (.cst (.int .i64 954)) .nil)) (.bnd (.op (.bin .eql) (.cons (.inp 0) (.cons (.cst (.int .i64 954)) .nil))) (.chk (some ((.bv 0), false)) (.bin .eql) (.cons (.inp 0) (.cons (.cst (.int .i64 1082)) .nil)) (.isb none (.bv 0) (.done [] (some (.ite (.bv 0) true (.cst (.bool true)) (.op (.bin .eql) (.cons (.inp 0) (.cons (.cst (.int .i64 1082)) .nil)))))))))) h93_7 h93_23) Q env w := rfl
def h93_25 : HC := (.br (.chk none (.cal 90) (.cons (.inp 0) (.cons (.cst (.int .i64 236)) (.cons (.cst (.int .i64 239)) .nil))) (.bnd (.op (.cal 90) (.cons (.inp 0) (.cons (.cst (.int .i64 236)) (.cons (.cst (.int .i64 239)) .nil)))) (.chk (some ((.bv 0), false)) (.bin .eql) (.cons (.inp 0) (.cons (.cst (.int .i64 953)) .nil)) (.isb none (.bv 0) (.done [] (some (.ite (.bv 0) true (.cst (.bool true)) (.op (.bin .eql) (.cons (.inp 0) (.cons (.cst (.int .i64 953)) .nil)))))))))) h93_6 h93_24)
@[simp] theorem h93_25_wp {P : Program} {F : PF P} {Q : EX → List Value → World → Prop} {env : List Value} {w : World} : h93_25.wp F Q env w = HC.wp F (.br (.chk none (.cal 90) (.cons (.inp 0) (.cons (.cst (.int .i64 236)) (.cons (.cst (.int .i64 239)) .nil))) (.bnd (.op (.cal 90) (.cons (.inp 0) (.cons (.cst (.int .i64 236)) (.cons (.cst (.int .i64 239)) .nil)))) (.chk (some ((.bv 0), false)) (.bin .eql) (.cons (.inp 0) (.cons (.cst (.int .i64 953)) .nil)) (.isb none (.bv 0) (.done [] (some (.ite (.bv 0) true (.cst (.bool true)) (.op (.bin .eql) (.cons (.inp 0) (.cons (.cst (.int .i64 953)) .nil)))))))))) h93_6 h93_24) Q env w := rfl
def h93_26 : HC := (.br (.chk none (.cal 90) (.cons (.inp 0) (.cons (.cst (.int .i64 232)) (.cons (.cst (.int .i64 235)) .nil))) (.bnd (.op (.cal 90) (.cons (.inp 0) (.cons (.cst (.int .i64 232)) (.cons (.cst (.int .i64 235)) .nil)))) (.chk (some ((.bv 0), false)) (.bin .eql) (.cons (.inp 0) (.cons (.cst (.int .i64 1077)) .nil)) (.isb none (.bv 0) (.bnd (.ite (.bv 0) true (.cst (.bool true)) (.op (.bin .eql) (.cons (.inp 0) (.cons (.cst (.int .i64 1077)) .nil)))) (.chk (some ((.bv 1), false)) (.bin .eql) (.cons (.inp 0) (.cons (.cst (.int .i64 1105)) .nil)) (.isb none (.bv 1) (.done [] (some (.ite (.bv 1) true (.cst (.bool true)) (.op (.bin .eql) (.cons (.inp 0) (.cons (.cst (.int .i64 1105)) .nil))))))))))))) h93_5 h93_25)
@[simp] theorem h93_26_wp {P : Program} {F : PF P} {Q : EX → List Value → World → Prop} {env : List Value} {w : World} : h93_26.wp F Q env w = HC.wp F (.br (.chk none (.cal 90) (.cons (.inp 0) (.cons (.cst (.int .i64 232)) (.cons (.cst (.int .i64 235)) .nil))) (.bnd (.op (.cal 90) (.cons (.inp 0) (.cons (.cst (.int .i64 232)) (.cons (.cst (.int .i64 235)) .nil)))) (.chk (some ((.bv 0), false)) (.bin .eql) (.cons (.inp 0) (.cons (.cst (.int .i64 1077)) .nil)) (.isb none (.bv 0) (.bnd (.ite (.bv 0) true (.cst (.bool true)) (.op (.bin .eql) (.cons (.inp 0) (.cons (.cst (.int .i64 1077)) .nil)))) (.chk (some ((.bv 1), false)) (.bin .eql) (.cons (.inp 0) (.cons (.cst (.int .i64 1105)) .nil)) (.isb none (.bv 1) (.done [] (some (.ite (.bv 1) true (.cst (.bool true)) (.op (.bin .eql) (.cons (.inp 0) (.cons (.cst (.int .i64 1105)) .nil))))))))))))) h93_5 h93_25) Q env w := rfl
def h93_27 : HC := (.br (.chk none (.bin .eql) (.cons (.inp 0) (.cons (.cst (.int .i64 231)) .nil)) (.bnd (.op (.bin .eql) (.cons (.inp 0) (.cons (.cst (.int .i64 231)) .nil))) (.chk (some ((.bv 0), false)) (.bin .eql) (.cons (.inp 0) (.cons (.cst (.int .i64 1089)) .nil)) (.isb none (.bv 0) (.done [] (some (.ite (.bv 0) true (.cst (.bool true)) (.op (.bin .eql) (.cons (.inp 0) (.cons (.cst (.int .i64 1089)) .nil)))))))))) h93_4 h93_26)
@[simp] theorem h93_27_wp {P : Program} {F : PF P} {Q : EX → List Value → World → Prop} {env : List Value} {w : World} : h93_27.wp F Q env w = HC.wp F (.br (.chk none (.bin .eql) (.cons (.inp 0) (.cons (.cst (.int .i64 231)) .nil)) (.bnd (.op (.bin .eql) (.cons (.inp 0) (.cons (.cst (.int .i64 231)) .nil))) (.chk (some ((.bv 0), false)) (.bin .eql) (.cons (.inp 0) (.cons (.cst (.int .i64 1089)) .nil)) (.isb none (.bv 0) (.done [] (some (.ite (.bv 0) true (.cst (.bool true)) (.op (.bin .eql) (.cons (.inp 0) (.cons (.cst (.int .i64 1089)) .nil)))))))))) h93_4 h93_26) Q env w := rfl
def h93_28 : HC := (.br (.chk none (.cal 90) (.cons (.inp 0) (.cons (.cst (.int .i64 224)) (.cons (.cst (.int .i64 229)) .nil))) (.bnd (.op (.cal 90) (.cons (.inp 0) (.cons (.cst (.int .i64 224)) (.cons (.cst (.int .i64 229)) .nil)))) (.chk (some ((.bv 0), false)) (.bin .eql) (.cons (.inp 0) (.cons (.cst (.int .i64 945)) .nil)) (.isb none (.bv 0) (.bnd (.ite (.bv 0) true (.cst (.bool true)) (.op (.bin .eql) (.cons (.inp 0) (.cons (.cst (.int .i64 945)) .nil)))) (.chk (some ((.bv 1), false)) (.bin .eql) (.cons (.inp 0) (.cons (.cst (.int .i64 1072)) .nil)) (.isb none (.bv 1) (.done [] (some (.ite (.bv 1) true (.cst (.bool true)) (.op (.bin .eql) (.cons (.inp 0) (.cons (.cst (.int .i64 1072)) .nil))))))))))))) h93_3 h93_27)
@[simp] theorem h93_28_wp {P : Program} {F : PF P} {Q : EX → List Value → World → Prop} {env : List Value} {w : World} : h93_28.wp F Q env w = HC.wp F (.br (.chk none (.cal 90) (.cons (.inp 0) (.cons (.cst (.int .i64 224)) (.cons (.cst (.int .i64 229)) .nil))) (.bnd (.op (.cal 90) (.cons (.inp 0) (.cons (.cst (.int .i64 224)) (.cons (.cst (.int .i64 229)) .nil)))) (.chk (some ((.bv 0), false)) (.bin .eql) (.cons (.inp 0) (.cons (.cst (.int .i64 945)) .nil)) (.isb none (.bv 0) (.bnd (.ite (.bv 0) true (.cst (.bool true)) (.op (.bin .eql) (.cons (.inp 0) (.cons (.cst (.int .i64 945)) .nil)))) (.chk (some ((.bv 1), false)) (.bin .eql) (.cons (.inp 0) (.cons (.cst (.int .i64 1072)) .nil)) (.isb none (.bv 1) (.done [] (some (.ite (.bv 1) true (.cst (.bool true)) (.op (.bin .eql) (.cons (.inp 0) (.cons (.cst (.int .i64 1072)) .nil))))))))))))) h93_3 h93_27) Q env w := rfl
def h93_29 : HC := (.br (.chk none (.bin .eql) (.cons (.inp 0) (.cons (.cst (.int .i64 49)) .nil)) (.done [] (some (.op (.bin .eql) (.cons (.inp 0) (.cons (.cst (.int .i64 49)) .nil)))))) h93_2 h93_28)
@[simp] theorem h93_29_wp {P : Program} {F : PF P} {Q : EX → List Value → World → Prop} {env : List Value} {w : World} : h93_29.wp F Q env w = HC.wp F (.br (.chk none (.bin .eql) (.cons (.inp 0) (.cons (.cst (.int .i64 49)) .nil)) (.done [] (some (.op (.bin .eql) (.cons (.inp 0) (.cons (.cst (.int .i64 49)) .nil)))))) h93_2 h93_28) Q env w := rfl
def h93_30 : HC := (.br (.chk none (.bin .eql) (.cons (.inp 0) (.cons (.cst (.int .i64 48)) .nil)) (.bnd (.op (.bin .eql) (.cons (.inp 0) (.cons (.cst (.int .i64 48)) .nil))) (.chk (some ((.bv 0), false)) (.bin .eql) (.cons (.inp 0) (.cons (.cst (.int .i64 959)) .nil)) (.isb none (.bv 0) (.bnd (.ite (.bv 0) true (.cst (.bool true)) (.op (.bin .eql) (.cons (.inp 0) (.cons (.cst (.int .i64 959)) .nil)))) (.chk (some ((.bv 1), false)) (.bin .eql) (.cons (.inp 0) (.cons (.cst (.int .i64 1086)) .nil)) (.isb none (.bv 1) (.bnd (.ite (.bv 1) true (.cst (.bool true)) (.op (.bin .eql) (.cons (.inp 0) (.cons (.cst (.int .i64 1086)) .nil)))) (.chk (some ((.bv 2), false)) (.cal 90) (.cons (.inp 0) (.cons (.cst (.int .i64 242)) (.cons (.cst (.int .i64 246)) .nil))) (.isb none (.bv 2) (.bnd (.ite (.bv 2) true (.cst (.bool true)) (.op (.cal 90) (.cons (.inp 0) (.cons (.cst (.int .i64 242)) (.cons (.cst (.int .i64 246)) .nil))))) (.chk (some ((.bv 3), false)) (.bin .eql) (.cons (.inp 0) (.cons (.cst (.int .i64 248)) .nil)) (.isb none (.bv 3) (.done [] (some (.ite (.bv 3) true (.cst (.bool true)) (.op (.bin .eql) (.cons (.inp 0) (.cons (.cst (.int .i64 248)) .nil))))))))))))))))))) h93_1 h93_29)
@[simp] theorem h93_30_wp {P : Program} {F : PF P} {Q : EX → List Value → World → Prop} {env : List Value} {w : World} : h93_30.wp F Q env w = HC.wp F (.br (.chk none (.bin .eql) (.cons (.inp 0) (.cons (.cst (.int .i64 48)) .nil)) (.bnd (.op (.bin .eql) (.cons (.inp 0) (.cons (.cst (.int .i64 48)) .nil))) (.chk (some ((.bv 0), false)) (.bin .eql) (.cons (.inp 0) (.cons (.cst (.int .i64 959)) .nil)) (.isb none (.bv 0) (.bnd (.ite (.bv 0) true (.cst (.bool true)) (.op (.bin .eql) (.cons (.inp 0) (.cons (.cst (.int .i64 959)) .nil)))) (.chk (some ((.bv 1), false)) (.bin .eql) (.cons (.inp 0) (.cons (.cst (.int .i64 1086)) .nil)) (.isb none (.bv 1) (.bnd (.ite (.bv 1) true (.cst (.bool true)) (.op (.bin .eql) (.cons (.inp 0) (.cons (.cst (.int .i64 1086)) .nil)))) (.chk (some ((.bv 2), false)) (.cal 90) (.cons (.inp 0) (.cons (.cst (.int .i64 242)) (.cons (.cst (.int .i64 246)) .nil))) (.isb none (.bv 2) (.bnd (.ite (.bv 2) true (.cst (.bool true)) (.op (.cal 90) (.cons (.inp 0) (.cons (.cst (.int .i64 242)) (.cons (.cst (.int .i64 246)) .nil))))) (.chk (some ((.bv 3), false)) (.bin .eql) (.cons (.inp 0) (.cons (.cst (.int .i64 248)) .nil)) (.isb none (.bv 3) (.done [] (some (.ite (.bv 3) true (.cst (.bool true)) (.op (.bin .eql) (.cons (.inp 0) (.cons (.cst (.int .i64 248)) .nil))))))))))))))))))) h93_1 h93_29) Q env w := rfl
def h93_31 : HC := (.seq (.block 0 h93_30) h93_0)
@[simp] theorem h93_31_wp {P : Program} {F : PF P} {Q : EX → List Value → World → Prop} {env : List Value} {w : World} : h93_31.wp F Q env w = HC.wp F (.seq (.block 0 h93_30) h93_0) Q env w := rfl
def l93 : Lifted := ⟨[0, 2], 125, [.slot 1], (.seq (.reg (.done [(1, (.cst (.int .i64 0)))] none)) h93_31)⟩
theorem l93_ok : liftFn F2 93 400 = some l93 := by kernel_rfl


theorem rletter_spec (u : Int) (w : World) : CallW Try.prog 82 [.int .i64 u] (fun r w' => r = .bool (letterF u) ∧ w' = w) w := by
  refine callW_of_lift l82_ok (by simp [l82]) ?_
  simp [l82, inS, condC_ite, letterF]
  grind
theorem hp_spec (s p : List UInt8) (w : World) (hs : s.length ≤ 1048576) : CallW Try.prog 76 [.string (mk s), .string (mk p)] (fun r w' => r = .bool (p.isPrefixOf s) ∧ w' = w) w := by
  refine callW_of_lift l76_ok (by simp [l76]) ?_
  simp [l76, slhpS]
  exact hs
/-- how a folded unit looks -/
def looksF (u : Int) : Int :=
  if u = 48 ∨ u = 959 ∨ u = 1086 ∨ (242 ≤ u ∧ u ≤ 246) ∨ u = 248 then 111
  else if u = 49 then 108
  else if (224 ≤ u ∧ u ≤ 229) ∨ u = 945 ∨ u = 1072 then 97
  else if u = 231 ∨ u = 1089 then 99
  else if (232 ≤ u ∧ u ≤ 235) ∨ u = 1077 ∨ u = 1105 then 101
  else if (236 ≤ u ∧ u ≤ 239) ∨ u = 953 then 105
  else if u = 954 ∨ u = 1082 then 107
  else if u = 241 then 110
  else if u = 961 ∨ u = 1088 then 112
  else if u = 964 ∨ u = 1090 then 116
  else if (249 ≤ u ∧ u ≤ 252) ∨ u = 965 then 117
  else if u = 957 then 118
  else if u = 967 ∨ u = 1093 then 120
  else if u = 253 ∨ u = 255 ∨ u = 947 ∨ u = 1091 then 121
  else if u = 32 ∨ u = 95 then 45
  else u
theorem looks_spec (u : Int) (w : World) : CallW Try.prog 93 [.int .i64 u] (fun r w' => r = .int .i64 (looksF u) ∧ w' = w) w := by
  refine callW_of_lift l93_ok (by simp [l93]) ?_
  simp [l93, inS, condC_ite, inF]
  unfold looksF
  grind (splits := 80)

noncomputable def rletterS : PS Try.prog := PS.ib 82 .i64 letterF rletter_spec
noncomputable def hpS : PS Try.prog where
  f := 76
  val args := match args with
    | [.string s, .string p] => .bool (p.data.toList.isPrefixOf s.data.toList)
    | _ => undef
  ok args := match args with
    | [.string s, .string _] => s.data.toList.length ≤ 1048576
    | _ => False
  sound args w h := by
    split at h
    · rename_i s p
      have := hp_spec s.data.toList p.data.toList w h
      rw [← mk_eta, ← mk_eta] at this
      exact this
    · exact h.elim
noncomputable def looksS : PS Try.prog where
  f := 93
  val args := match args with
    | [.int _ u] => .int .i64 (looksF u)
    | _ => undef
  ok args := match args with
    | [.int k _] => k = .i64
    | _ => False
  sound args w h := by
    split at h
    · subst h; exact looks_spec _ w
    · exact h.elim
noncomputable def foldS : PS Try.prog where
  f := 78
  val args := match args with
    | [.int _ u] => .int .i32 (foldF u)
    | _ => undef
  ok args := match args with
    | [.int k u] => k = .i32 ∧ 0 ≤ u ∧ u < 2097408
    | _ => False
  sound args w h := by
    split at h
    · obtain ⟨rfl, h1, h2⟩ := h; exact fold_spec _ w h1 h2
    · exact h.elim
noncomputable abbrev F3 : PF Try.prog := PF.of [oneS, inS, rjoinerS, joinerS, letterS, slhpS, rletterS, hpS, looksS, foldS]
@[simp] theorem F3_hp_val (args : List Value) : F3.val 76 args = hpS.val args := rfl
@[simp] theorem F3_hp_ok (args : List Value) : F3.ok 76 args = hpS.ok args := rfl
-- bazaar/name.at
def h44_0 : HC := (.seq (.reg (.done [(3, (.inp 2))] none)) .ret)
@[simp] theorem h44_0_wp {P : Program} {F : PF P} {Q : EX → List Value → World → Prop} {env : List Value} {w : World} : h44_0.wp F Q env w = HC.wp F (.seq (.reg (.done [(3, (.inp 2))] none)) .ret) Q env w := rfl
def h44_1 : HC := (.seq (.reg (.chk none .chS (.cons (.inp 0) (.cons (.inp 1) .nil)) (.chk none (.convI .i32) (.cons (.op .chS (.cons (.inp 0) (.cons (.inp 1) .nil))) .nil) (.chk none (.bin .add) (.cons (.cst (.int .i32 2097152)) (.cons (.op (.convI .i32) (.cons (.op .chS (.cons (.inp 0) (.cons (.inp 1) .nil))) .nil)) .nil)) (.done [(3, (.op (.bin .add) (.cons (.cst (.int .i32 2097152)) (.cons (.op (.convI .i32) (.cons (.op .chS (.cons (.inp 0) (.cons (.inp 1) .nil))) .nil)) .nil))))] none))))) .ret)
@[simp] theorem h44_1_wp {P : Program} {F : PF P} {Q : EX → List Value → World → Prop} {env : List Value} {w : World} : h44_1.wp F Q env w = HC.wp F (.seq (.reg (.chk none .chS (.cons (.inp 0) (.cons (.inp 1) .nil)) (.chk none (.convI .i32) (.cons (.op .chS (.cons (.inp 0) (.cons (.inp 1) .nil))) .nil) (.chk none (.bin .add) (.cons (.cst (.int .i32 2097152)) (.cons (.op (.convI .i32) (.cons (.op .chS (.cons (.inp 0) (.cons (.inp 1) .nil))) .nil)) .nil)) (.done [(3, (.op (.bin .add) (.cons (.cst (.int .i32 2097152)) (.cons (.op (.convI .i32) (.cons (.op .chS (.cons (.inp 0) (.cons (.inp 1) .nil))) .nil)) .nil))))] none))))) .ret) Q env w := rfl
def h44_2 : HC := (.seq (.br (.chk none (.bin .eql) (.cons (.inp 2) (.cons (.cst (.int .i32 65533)) .nil)) (.bnd (.op (.bin .eql) (.cons (.inp 2) (.cons (.cst (.int .i32 65533)) .nil))) (.chk (some ((.bv 0), true)) (.slS true false) (.cons (.inp 0) (.cons (.inp 1) .nil)) (.chk (some ((.bv 0), true)) (.cal 76) (.cons (.op (.slS true false) (.cons (.inp 0) (.cons (.inp 1) .nil))) (.cons (.cst (.string ⟨#[239, 191, 189]⟩)) .nil)) (.chk (some ((.bv 0), true)) (.un .not) (.cons (.op (.cal 76) (.cons (.op (.slS true false) (.cons (.inp 0) (.cons (.inp 1) .nil))) (.cons (.cst (.string ⟨#[239, 191, 189]⟩)) .nil))) .nil) (.isb none (.bv 0) (.done [] (some (.ite (.bv 0) true (.op (.un .not) (.cons (.op (.cal 76) (.cons (.op (.slS true false) (.cons (.inp 0) (.cons (.inp 1) .nil))) (.cons (.cst (.string ⟨#[239, 191, 189]⟩)) .nil))) .nil)) (.cst (.bool false))))))))))) h44_1 .skip) h44_0)
@[simp] theorem h44_2_wp {P : Program} {F : PF P} {Q : EX → List Value → World → Prop} {env : List Value} {w : World} : h44_2.wp F Q env w = HC.wp F (.seq (.br (.chk none (.bin .eql) (.cons (.inp 2) (.cons (.cst (.int .i32 65533)) .nil)) (.bnd (.op (.bin .eql) (.cons (.inp 2) (.cons (.cst (.int .i32 65533)) .nil))) (.chk (some ((.bv 0), true)) (.slS true false) (.cons (.inp 0) (.cons (.inp 1) .nil)) (.chk (some ((.bv 0), true)) (.cal 76) (.cons (.op (.slS true false) (.cons (.inp 0) (.cons (.inp 1) .nil))) (.cons (.cst (.string ⟨#[239, 191, 189]⟩)) .nil)) (.chk (some ((.bv 0), true)) (.un .not) (.cons (.op (.cal 76) (.cons (.op (.slS true false) (.cons (.inp 0) (.cons (.inp 1) .nil))) (.cons (.cst (.string ⟨#[239, 191, 189]⟩)) .nil))) .nil) (.isb none (.bv 0) (.done [] (some (.ite (.bv 0) true (.op (.un .not) (.cons (.op (.cal 76) (.cons (.op (.slS true false) (.cons (.inp 0) (.cons (.inp 1) .nil))) (.cons (.cst (.string ⟨#[239, 191, 189]⟩)) .nil))) .nil)) (.cst (.bool false))))))))))) h44_1 .skip) h44_0) Q env w := rfl
def l44 : Lifted := ⟨[0, 1, 2, 6], 22, [.slot 3], (.seq (.reg (.done [(3, (.cst (.int .i32 0)))] none)) h44_2)⟩
theorem l44_ok : liftFn F3 44 400 = some l44 := by kernel_rfl


theorem at_spec (l : List UInt8) (i : Nat) (w : World) (hi : i < l.length) (hl : l.length ≤ 1048576) :
    CallW Try.prog 44 [.string (mk l), .int .i64 i, .int .i32 (runeOf (oneF (l.drop i)).1)] (fun r w' => r = .int .i32 (oneF (l.drop i)).1 ∧ w' = w) w := by
  have hne : l.drop i ≠ [] := by simp; omega
  have hu := unit_of hne
  have hb := oneF_bd hne
  have hd : (l.drop i).headD 0 = l[i]?.getD 0 := by simp [List.headD_eq_head?_getD, List.head?_drop]
  have hc := (l[i]?.getD 0).toNat_lt
  rw [hd] at hu
  refine callW_of_lift l44_ok (by simp [l44]) ?_
  simp [l44, hpS]
  refine ⟨fun _ => by omega, fun _ => by omega, ?_⟩
  refine cndI (fun h => ?_) (fun h => ?_)
  · simp at h
    rw [if_pos ⟨by omega, h.2⟩] at hu
    simp
    try simp (disch := omega) only [wrap32]
    exact ⟨hi, hu⟩
  · simp at h
    rw [if_neg (by rintro ⟨h1, h2⟩; rw [List.isPrefixOf_iff_prefix.2 (h (by omega))] at h2; cases h2)] at hu
    simp
    exact hu
noncomputable def atS : PS Try.prog where
  f := 44
  val args := match args with
    | [.string s, .int _ i, .int _ _] => .int .i32 (oneF (s.data.toList.drop i.toNat)).1
    | _ => undef
  ok args := match args with
    | [.string s, .int k i, .int k' r] => k = .i64 ∧ k' = .i32 ∧ s.data.toList.length ≤ 1048576 ∧ 0 ≤ i ∧ i < s.data.toList.length ∧ r = runeOf (oneF (s.data.toList.drop i.toNat)).1
    | _ => False
  sound args w h := by
    split at h
    · rename_i s k i k' r
      obtain ⟨rfl, rfl, h1, h2, h3, rfl⟩ := h
      obtain ⟨n, rfl⟩ := Int.eq_ofNat_of_zero_le h2
      have := at_spec s.data.toList n w (by omega) h1
      rw [← mk_eta] at this
      simpa using this
    · exact h.elim
noncomputable abbrev F4 : PF Try.prog := PF.of [oneS, inS, rjoinerS, joinerS, letterS, slhpS, rletterS, hpS, looksS, foldS, atS]
@[simp] theorem F4_one_val (args : List Value) : F4.val 89 args = oneS.val args := rfl
@[simp] theorem F4_one_ok (args : List Value) : F4.ok 89 args = oneS.ok args := rfl
@[simp] theorem F4_rj_val (args : List Value) : F4.val 81 args = rjoinerS.val args := rfl
@[simp] theorem F4_rj_ok (args : List Value) : F4.ok 81 args = rjoinerS.ok args := rfl
@[simp] theorem F4_j_val (args : List Value) : F4.val 46 args = joinerS.val args := rfl
@[simp] theorem F4_j_ok (args : List Value) : F4.ok 46 args = joinerS.ok args := rfl
@[simp] theorem F4_l_val (args : List Value) : F4.val 45 args = letterS.val args := rfl
@[simp] theorem F4_l_ok (args : List Value) : F4.ok 45 args = letterS.ok args := rfl
@[simp] theorem F4_rl_val (args : List Value) : F4.val 82 args = rletterS.val args := rfl
@[simp] theorem F4_rl_ok (args : List Value) : F4.ok 82 args = rletterS.ok args := rfl
@[simp] theorem F4_lk_val (args : List Value) : F4.val 93 args = looksS.val args := rfl
@[simp] theorem F4_lk_ok (args : List Value) : F4.ok 93 args = looksS.ok args := rfl
@[simp] theorem F4_f_val (args : List Value) : F4.val 78 args = foldS.val args := rfl
@[simp] theorem F4_f_ok (args : List Value) : F4.ok 78 args = foldS.ok args := rfl
@[simp] theorem F4_at_val (args : List Value) : F4.val 44 args = atS.val args := rfl
@[simp] theorem F4_at_ok (args : List Value) : F4.ok 44 args = atS.ok args := rfl
@[simp] theorem rj_val (u : Int) (k : IntKind) : rjoinerS.val [.int k u] = .bool (joinerF u) := rfl
@[simp] theorem rj_ok (u : Int) (k : IntKind) : rjoinerS.ok [.int k u] = (k = .i64) := rfl
@[simp] theorem j_val (u : Int) (k : IntKind) : joinerS.val [.int k u] = .bool (joinerF u) := rfl
@[simp] theorem j_ok (u : Int) (k : IntKind) : joinerS.ok [.int k u] = (k = .i32) := rfl
@[simp] theorem l_val (u : Int) (k : IntKind) : letterS.val [.int k u] = .bool (letterF u) := rfl
@[simp] theorem l_ok (u : Int) (k : IntKind) : letterS.ok [.int k u] = (k = .i32) := rfl
@[simp] theorem rl_val (u : Int) (k : IntKind) : rletterS.val [.int k u] = .bool (letterF u) := rfl
@[simp] theorem rl_ok (u : Int) (k : IntKind) : rletterS.ok [.int k u] = (k = .i64) := rfl
@[simp] theorem lk_val (u : Int) (k : IntKind) : looksS.val [.int k u] = .int .i64 (looksF u) := rfl
@[simp] theorem lk_ok (u : Int) (k : IntKind) : looksS.ok [.int k u] = (k = .i64) := rfl
@[simp] theorem f_val (u : Int) (k : IntKind) : foldS.val [.int k u] = .int .i32 (foldF u) := rfl
@[simp] theorem f_ok (u : Int) (k : IntKind) : foldS.ok [.int k u] = (k = .i32 ∧ 0 ≤ u ∧ u < 2097408) := rfl
@[simp] theorem at_val (l : List UInt8) (i r : Int) (k k' : IntKind) : atS.val [.string (mk l), .int k i, .int k' r] = .int .i32 (oneF (l.drop i.toNat)).1 := by simp [atS]
@[simp] theorem at_ok (l : List UInt8) (i r : Int) (k k' : IntKind) : atS.ok [.string (mk l), .int k i, .int k' r] = (k = .i64 ∧ k' = .i32 ∧ l.length ≤ 1048576 ∧ 0 ≤ i ∧ i < l.length ∧ r = runeOf (oneF (l.drop i.toNat)).1) := by simp [atS]
end Go.HL.Nm

namespace Go.HL.Nm
open Go.HL Go.Proofs
set_option maxRecDepth 4000
set_option linter.unusedSimpArgs false
set_option linter.unusedVariables false
/-- may this unit not stand here? (j: a joiner may not) -/
def badAt (j : Bool) (u : Int) : Bool := !letterF u && (j || !joinerF u)
/-- the first place at fault; the last unit may be no joiner -/
def faultF : Bool → Nat → List (Int × Nat) → Option Nat
  | _, _, [] => none
  | j, p, u :: r => if badAt (j || r.isEmpty) u.1 then some p else faultF (joinerF u.1) (p + u.2) r
/-- the same, but for the last unit -/
def faultP : Bool → Nat → List (Int × Nat) → Option Nat
  | _, _, [] => none
  | j, p, u :: r => if badAt j u.1 then some p else faultP (joinerF u.1) (p + u.2) r
def lastJ : Bool → List (Int × Nat) → Bool
  | j, [] => j
  | _, u :: r => lastJ (joinerF u.1) r
def lastP : Nat → Nat → List (Int × Nat) → Nat
  | d, _, [] => d
  | _, p, u :: r => lastP p (p + u.2) r
theorem joiner_letter {u : Int} (h : joinerF u = true) : letterF u = false := by
  simp only [joinerF, Bool.or_eq_true, decide_eq_true_eq] at h
  rcases h with (h | h) | h <;> subst h <;> decide
theorem fault_eq : ∀ (r : List (Int × Nat)) (j : Bool) (p d : Nat), r ≠ [] → faultF j p r = (match faultP j p r with | some q => some q | none => if lastJ j r then some (lastP d p r) else none)
  | [], _, _, _, h => absurd rfl h
  | [u], j, p, d, _ => by
    cases hj : joinerF u.1 <;> cases hl : letterF u.1 <;> cases j <;> (first | (simp [faultF, faultP, lastJ, lastP, badAt, hj, hl]; done) | (have := joiner_letter hj; rw [hl] at this; cases this))
  | u :: v :: r, j, p, d, _ => by
    have ih := fault_eq (v :: r) (joinerF u.1) (p + u.2) p (by simp)
    rw [faultF, faultP]
    simp only [List.isEmpty_cons, Bool.or_false]
    cases badAt j u.1
    · simp only [Bool.false_eq_true, if_false]; rw [ih]; rfl
    · rfl
theorem faultP_snoc : ∀ (r : List (Int × Nat)) (u : Int × Nat) (j : Bool) (p : Nat), faultP j p (r ++ [u]) = (match faultP j p r with | some q => some q | none => if badAt (lastJ j r) u.1 then some (p + sumW r) else none)
  | [], u, j, p => by cases h : badAt j u.1 <;> simp [faultP, lastJ, sumW, h]
  | v :: r, u, j, p => by
    have ih := faultP_snoc r u (joinerF v.1) (p + v.2)
    cases h : badAt j v.1
    · simp only [List.cons_append, faultP, lastJ, sumW, h, Bool.false_eq_true, if_false]
      rw [ih, Nat.add_assoc]
      rfl
    · simp [faultP, h]
theorem lastJ_snoc : ∀ (r : List (Int × Nat)) (u : Int × Nat) (j : Bool), lastJ j (r ++ [u]) = joinerF u.1
  | [], u, j => rfl
  | v :: r, u, j => by simp only [List.cons_append, lastJ]; exact lastJ_snoc r u _
theorem lastP_snoc : ∀ (r : List (Int × Nat)) (u : Int × Nat) (d p : Nat), lastP d p (r ++ [u]) = p + sumW r
  | [], u, d, p => by simp [lastP, sumW]
  | v :: r, u, d, p => by simp only [List.cons_append, lastP, sumW]; rw [lastP_snoc r u]; omega
def optI : Option Nat → Int
  | some q => q
  | none => -1
/-- the answer: a place, an error's number -/
def checkF (l : List UInt8) : Int × Int :=
  if l = [] then (0, 41)
  else if 24 < (units l).length then (sumW ((units l).take 24), 42)
  else match faultF true 0 (units l) with
    | some p => (p, 40)
    | none => (0, 0)
-- bazaar/name.Check
def h11_0 : HC := (.seq (.reg (.done [(1, (.cst (.int .i64 0))), (2, (.cst (.int .i64 0)))] none)) .ret)
@[simp] theorem h11_0_wp {P : Program} {F : PF P} {Q : EX → List Value → World → Prop} {env : List Value} {w : World} : h11_0.wp F Q env w = HC.wp F (.seq (.reg (.done [(1, (.cst (.int .i64 0))), (2, (.cst (.int .i64 0)))] none)) .ret) Q env w := rfl
def h11_1 : HC := (.seq (.reg (.done [(1, (.inp 4)), (2, (.cst (.int .i64 40)))] none)) .ret)
@[simp] theorem h11_1_wp {P : Program} {F : PF P} {Q : EX → List Value → World → Prop} {env : List Value} {w : World} : h11_1.wp F Q env w = HC.wp F (.seq (.reg (.done [(1, (.inp 4)), (2, (.cst (.int .i64 40)))] none)) .ret) Q env w := rfl
def h11_2 : HC := (.seq (.br (.chk none (.bin .geq) (.cons (.inp 4) (.cons (.cst (.int .i64 0)) .nil)) (.done [] (some (.op (.bin .geq) (.cons (.inp 4) (.cons (.cst (.int .i64 0)) .nil)))))) h11_1 .skip) h11_0)
@[simp] theorem h11_2_wp {P : Program} {F : PF P} {Q : EX → List Value → World → Prop} {env : List Value} {w : World} : h11_2.wp F Q env w = HC.wp F (.seq (.br (.chk none (.bin .geq) (.cons (.inp 4) (.cons (.cst (.int .i64 0)) .nil)) (.done [] (some (.op (.bin .geq) (.cons (.inp 4) (.cons (.cst (.int .i64 0)) .nil)))))) h11_1 .skip) h11_0) Q env w := rfl
def h11_3 : HC := (.reg (.done [(4, (.inp 5))] none))
@[simp] theorem h11_3_wp {P : Program} {F : PF P} {Q : EX → List Value → World → Prop} {env : List Value} {w : World} : h11_3.wp F Q env w = HC.wp F (.reg (.done [(4, (.inp 5))] none)) Q env w := rfl
def h11_4 : HC := (.seq (.br (.chk none (.bin .lss) (.cons (.inp 4) (.cons (.cst (.int .i64 0)) .nil)) (.bnd (.op (.bin .lss) (.cons (.inp 4) (.cons (.cst (.int .i64 0)) .nil))) (.isb none (.bv 0) (.done [] (some (.ite (.bv 0) true (.inp 6) (.cst (.bool false)))))))) h11_3 .skip) h11_2)
@[simp] theorem h11_4_wp {P : Program} {F : PF P} {Q : EX → List Value → World → Prop} {env : List Value} {w : World} : h11_4.wp F Q env w = HC.wp F (.seq (.br (.chk none (.bin .lss) (.cons (.inp 4) (.cons (.cst (.int .i64 0)) .nil)) (.bnd (.op (.bin .lss) (.cons (.inp 4) (.cons (.cst (.int .i64 0)) .nil))) (.isb none (.bv 0) (.done [] (some (.ite (.bv 0) true (.inp 6) (.cst (.bool false)))))))) h11_3 .skip) h11_2) Q env w := rfl
def h11_5 : HC := (.reg (.done [(5, (.inp 7))] none))
@[simp] theorem h11_5_wp {P : Program} {F : PF P} {Q : EX → List Value → World → Prop} {env : List Value} {w : World} : h11_5.wp F Q env w = HC.wp F (.reg (.done [(5, (.inp 7))] none)) Q env w := rfl
def h11_6 : HC := (.seq (.reg (.chk none (.cal 46) (.cons (.inp 9) .nil) (.done [(6, (.op (.cal 46) (.cons (.inp 9) .nil)))] none))) h11_5)
@[simp] theorem h11_6_wp {P : Program} {F : PF P} {Q : EX → List Value → World → Prop} {env : List Value} {w : World} : h11_6.wp F Q env w = HC.wp F (.seq (.reg (.chk none (.cal 46) (.cons (.inp 9) .nil) (.done [(6, (.op (.cal 46) (.cons (.inp 9) .nil)))] none))) h11_5) Q env w := rfl
def h11_7 : HC := (.reg (.done [(4, (.inp 7))] none))
@[simp] theorem h11_7_wp {P : Program} {F : PF P} {Q : EX → List Value → World → Prop} {env : List Value} {w : World} : h11_7.wp F Q env w = HC.wp F (.reg (.done [(4, (.inp 7))] none)) Q env w := rfl
def h11_8 : HC := (.seq (.br (.chk none (.bin .lss) (.cons (.inp 4) (.cons (.cst (.int .i64 0)) .nil)) (.bnd (.op (.bin .lss) (.cons (.inp 4) (.cons (.cst (.int .i64 0)) .nil))) (.chk (some ((.bv 0), true)) (.cal 45) (.cons (.inp 9) .nil) (.chk (some ((.bv 0), true)) (.un .not) (.cons (.op (.cal 45) (.cons (.inp 9) .nil)) .nil) (.isb none (.bv 0) (.bnd (.ite (.bv 0) true (.op (.un .not) (.cons (.op (.cal 45) (.cons (.inp 9) .nil)) .nil)) (.cst (.bool false))) (.bnd (.ite (.bv 1) true (.inp 6) (.cst (.tuple #[]))) (.chk (some ((.bv 2), false)) (.cal 46) (.cons (.inp 9) .nil) (.chk (some ((.bv 2), false)) (.un .not) (.cons (.op (.cal 46) (.cons (.inp 9) .nil)) .nil) (.isb (some ((.bv 1), true)) (.bv 2) (.isb none (.bv 1) (.done [] (some (.ite (.bv 1) true (.ite (.bv 2) true (.cst (.bool true)) (.op (.un .not) (.cons (.op (.cal 46) (.cons (.inp 9) .nil)) .nil))) (.cst (.bool false)))))))))))))))) h11_7 .skip) h11_6)
@[simp] theorem h11_8_wp {P : Program} {F : PF P} {Q : EX → List Value → World → Prop} {env : List Value} {w : World} : h11_8.wp F Q env w = HC.wp F (.seq (.br (.chk none (.bin .lss) (.cons (.inp 4) (.cons (.cst (.int .i64 0)) .nil)) (.bnd (.op (.bin .lss) (.cons (.inp 4) (.cons (.cst (.int .i64 0)) .nil))) (.chk (some ((.bv 0), true)) (.cal 45) (.cons (.inp 9) .nil) (.chk (some ((.bv 0), true)) (.un .not) (.cons (.op (.cal 45) (.cons (.inp 9) .nil)) .nil) (.isb none (.bv 0) (.bnd (.ite (.bv 0) true (.op (.un .not) (.cons (.op (.cal 45) (.cons (.inp 9) .nil)) .nil)) (.cst (.bool false))) (.bnd (.ite (.bv 1) true (.inp 6) (.cst (.tuple #[]))) (.chk (some ((.bv 2), false)) (.cal 46) (.cons (.inp 9) .nil) (.chk (some ((.bv 2), false)) (.un .not) (.cons (.op (.cal 46) (.cons (.inp 9) .nil)) .nil) (.isb (some ((.bv 1), true)) (.bv 2) (.isb none (.bv 1) (.done [] (some (.ite (.bv 1) true (.ite (.bv 2) true (.cst (.bool true)) (.op (.un .not) (.cons (.op (.cal 46) (.cons (.inp 9) .nil)) .nil))) (.cst (.bool false)))))))))))))))) h11_7 .skip) h11_6) Q env w := rfl
def h11_9 : HC := (.seq (.reg (.chk none (.cal 44) (.cons (.inp 0) (.cons (.inp 7) (.cons (.inp 8) .nil))) (.done [(9, (.op (.cal 44) (.cons (.inp 0) (.cons (.inp 7) (.cons (.inp 8) .nil)))))] none))) h11_8)
@[simp] theorem h11_9_wp {P : Program} {F : PF P} {Q : EX → List Value → World → Prop} {env : List Value} {w : World} : h11_9.wp F Q env w = HC.wp F (.seq (.reg (.chk none (.cal 44) (.cons (.inp 0) (.cons (.inp 7) (.cons (.inp 8) .nil))) (.done [(9, (.op (.cal 44) (.cons (.inp 0) (.cons (.inp 7) (.cons (.inp 8) .nil)))))] none))) h11_8) Q env w := rfl
def h11_10 : HC := (.seq (.reg (.chk none (.bin .add) (.cons (.inp 3) (.cons (.cst (.int .i64 1)) .nil)) (.done [(3, (.op (.bin .add) (.cons (.inp 3) (.cons (.cst (.int .i64 1)) .nil))))] none))) h11_9)
@[simp] theorem h11_10_wp {P : Program} {F : PF P} {Q : EX → List Value → World → Prop} {env : List Value} {w : World} : h11_10.wp F Q env w = HC.wp F (.seq (.reg (.chk none (.bin .add) (.cons (.inp 3) (.cons (.cst (.int .i64 1)) .nil)) (.done [(3, (.op (.bin .add) (.cons (.inp 3) (.cons (.cst (.int .i64 1)) .nil))))] none))) h11_9) Q env w := rfl
def h11_11 : HC := (.seq (.reg (.done [(1, (.inp 7)), (2, (.cst (.int .i64 42)))] none)) .ret)
@[simp] theorem h11_11_wp {P : Program} {F : PF P} {Q : EX → List Value → World → Prop} {env : List Value} {w : World} : h11_11.wp F Q env w = HC.wp F (.seq (.reg (.done [(1, (.inp 7)), (2, (.cst (.int .i64 42)))] none)) .ret) Q env w := rfl
def h11_12 : HC := (.seq (.br (.chk none (.bin .eql) (.cons (.inp 3) (.cons (.cst (.int .i64 24)) .nil)) (.done [] (some (.op (.bin .eql) (.cons (.inp 3) (.cons (.cst (.int .i64 24)) .nil)))))) h11_11 .skip) h11_10)
@[simp] theorem h11_12_wp {P : Program} {F : PF P} {Q : EX → List Value → World → Prop} {env : List Value} {w : World} : h11_12.wp F Q env w = HC.wp F (.seq (.br (.chk none (.bin .eql) (.cons (.inp 3) (.cons (.cst (.int .i64 24)) .nil)) (.done [] (some (.op (.bin .eql) (.cons (.inp 3) (.cons (.cst (.int .i64 24)) .nil)))))) h11_11 .skip) h11_10) Q env w := rfl
def h11_13 : HC := (.seq (.reg (.chk none (.ext 1) (.cons (.inp 11) .nil) (.chk none (.ext 2) (.cons (.inp 11) .nil) (.done [(7, (.op (.ext 1) (.cons (.inp 11) .nil))), (8, (.op (.ext 2) (.cons (.inp 11) .nil)))] none)))) h11_12)
@[simp] theorem h11_13_wp {P : Program} {F : PF P} {Q : EX → List Value → World → Prop} {env : List Value} {w : World} : h11_13.wp F Q env w = HC.wp F (.seq (.reg (.chk none (.ext 1) (.cons (.inp 11) .nil) (.chk none (.ext 2) (.cons (.inp 11) .nil) (.done [(7, (.op (.ext 1) (.cons (.inp 11) .nil))), (8, (.op (.ext 2) (.cons (.inp 11) .nil)))] none)))) h11_12) Q env w := rfl
def h11_14 : HC := (.block 1 h11_13)
@[simp] theorem h11_14_wp {P : Program} {F : PF P} {Q : EX → List Value → World → Prop} {env : List Value} {w : World} : h11_14.wp F Q env w = HC.wp F (.block 1 h11_13) Q env w := rfl
def h11_15 : HC := (.seq (.br (.eff (.nxt true 0) (.cons (.inp 10) .nil) (.chk none (.ext 0) (.cons (.bv 0) .nil) (.done [(11, (.bv 0))] (some (.op (.ext 0) (.cons (.bv 0) .nil)))))) .skip (.exit 0)) h11_14)
@[simp] theorem h11_15_wp {P : Program} {F : PF P} {Q : EX → List Value → World → Prop} {env : List Value} {w : World} : h11_15.wp F Q env w = HC.wp F (.seq (.br (.eff (.nxt true 0) (.cons (.inp 10) .nil) (.chk none (.ext 0) (.cons (.bv 0) .nil) (.done [(11, (.bv 0))] (some (.op (.ext 0) (.cons (.bv 0) .nil)))))) .skip (.exit 0)) h11_14) Q env w := rfl
def h11_16 : HC := (.loop h11_15)
@[simp] theorem h11_16_wp {P : Program} {F : PF P} {Q : EX → List Value → World → Prop} {env : List Value} {w : World} : h11_16.wp F Q env w = HC.wp F (.loop h11_15) Q env w := rfl
def h11_17 : HC := (.seq (.block 0 h11_16) h11_4)
@[simp] theorem h11_17_wp {P : Program} {F : PF P} {Q : EX → List Value → World → Prop} {env : List Value} {w : World} : h11_17.wp F Q env w = HC.wp F (.seq (.block 0 h11_16) h11_4) Q env w := rfl
def h11_18 : HC := (.seq (.reg (.eff (.rngS 9) (.cons (.inp 0) .nil) (.done [(10, (.bv 0))] none))) h11_17)
@[simp] theorem h11_18_wp {P : Program} {F : PF P} {Q : EX → List Value → World → Prop} {env : List Value} {w : World} : h11_18.wp F Q env w = HC.wp F (.seq (.reg (.eff (.rngS 9) (.cons (.inp 0) .nil) (.done [(10, (.bv 0))] none))) h11_17) Q env w := rfl
def h11_19 : HC := (.seq (.reg (.done [(6, (.cst (.bool true)))] none)) h11_18)
@[simp] theorem h11_19_wp {P : Program} {F : PF P} {Q : EX → List Value → World → Prop} {env : List Value} {w : World} : h11_19.wp F Q env w = HC.wp F (.seq (.reg (.done [(6, (.cst (.bool true)))] none)) h11_18) Q env w := rfl
def h11_20 : HC := (.seq (.reg (.done [(3, (.cst (.int .i64 0))), (4, (.cst (.int .i64 (-1)))), (5, (.cst (.int .i64 0)))] none)) h11_19)
@[simp] theorem h11_20_wp {P : Program} {F : PF P} {Q : EX → List Value → World → Prop} {env : List Value} {w : World} : h11_20.wp F Q env w = HC.wp F (.seq (.reg (.done [(3, (.cst (.int .i64 0))), (4, (.cst (.int .i64 (-1)))), (5, (.cst (.int .i64 0)))] none)) h11_19) Q env w := rfl
def h11_21 : HC := (.seq (.reg (.done [(1, (.cst (.int .i64 0))), (2, (.cst (.int .i64 41)))] none)) .ret)
@[simp] theorem h11_21_wp {P : Program} {F : PF P} {Q : EX → List Value → World → Prop} {env : List Value} {w : World} : h11_21.wp F Q env w = HC.wp F (.seq (.reg (.done [(1, (.cst (.int .i64 0))), (2, (.cst (.int .i64 41)))] none)) .ret) Q env w := rfl
def h11_22 : HC := (.seq (.br (.chk none (.bin .eql) (.cons (.inp 0) (.cons (.cst (.string ⟨#[]⟩)) .nil)) (.done [] (some (.op (.bin .eql) (.cons (.inp 0) (.cons (.cst (.string ⟨#[]⟩)) .nil)))))) h11_21 .skip) h11_20)
@[simp] theorem h11_22_wp {P : Program} {F : PF P} {Q : EX → List Value → World → Prop} {env : List Value} {w : World} : h11_22.wp F Q env w = HC.wp F (.seq (.br (.chk none (.bin .eql) (.cons (.inp 0) (.cons (.cst (.string ⟨#[]⟩)) .nil)) (.done [] (some (.op (.bin .eql) (.cons (.inp 0) (.cons (.cst (.string ⟨#[]⟩)) .nil)))))) h11_21 .skip) h11_20) Q env w := rfl
def l11 : Lifted := ⟨[0, 2, 3, 4, 5, 6, 7, 8, 9, 10, 14, 15], 56, [.slot 1, .slot 2], (.seq (.reg (.done [(1, (.cst (.int .i64 0))), (2, (.cst (.int .i64 0)))] none)) h11_22)⟩
theorem l11_ok : liftFn F4 11 400 = some l11 := by kernel_rfl

-- bazaar/bazaarref04.Check
def h54_0 : HC := (.seq (.reg (.done [(1, (.cst (.int .i64 0))), (2, (.cst (.int .i64 0)))] none)) .ret)
@[simp] theorem h54_0_wp {P : Program} {F : PF P} {Q : EX → List Value → World → Prop} {env : List Value} {w : World} : h54_0.wp F Q env w = HC.wp F (.seq (.reg (.done [(1, (.cst (.int .i64 0))), (2, (.cst (.int .i64 0)))] none)) .ret) Q env w := rfl
def h54_1 : HC := (.reg (.chk none (.bin .add) (.cons (.inp 5) (.cons (.cst (.int .i64 1)) .nil)) (.done [(5, (.op (.bin .add) (.cons (.inp 5) (.cons (.cst (.int .i64 1)) .nil))))] none)))
@[simp] theorem h54_1_wp {P : Program} {F : PF P} {Q : EX → List Value → World → Prop} {env : List Value} {w : World} : h54_1.wp F Q env w = HC.wp F (.reg (.chk none (.bin .add) (.cons (.inp 5) (.cons (.cst (.int .i64 1)) .nil)) (.done [(5, (.op (.bin .add) (.cons (.inp 5) (.cons (.cst (.int .i64 1)) .nil))))] none))) Q env w := rfl
def h54_2 : HC := (.seq (.reg (.chk none (.idxL 1) (.cons (.inp 4) (.cons (.inp 5) .nil)) (.eff (.ld false 1) (.cons (.op (.idxL 1) (.cons (.inp 4) (.cons (.inp 5) .nil))) .nil) (.done [(1, (.bv 0)), (2, (.cst (.int .i64 40)))] none)))) .ret)
@[simp] theorem h54_2_wp {P : Program} {F : PF P} {Q : EX → List Value → World → Prop} {env : List Value} {w : World} : h54_2.wp F Q env w = HC.wp F (.seq (.reg (.chk none (.idxL 1) (.cons (.inp 4) (.cons (.inp 5) .nil)) (.eff (.ld false 1) (.cons (.op (.idxL 1) (.cons (.inp 4) (.cons (.inp 5) .nil))) .nil) (.done [(1, (.bv 0)), (2, (.cst (.int .i64 40)))] none)))) .ret) Q env w := rfl
def h54_3 : HC := (.br (.chk none (.idxL 1) (.cons (.inp 3) (.cons (.inp 5) .nil)) (.eff (.ld false 1) (.cons (.op (.idxL 1) (.cons (.inp 3) (.cons (.inp 5) .nil))) .nil) (.chk none (.cal 82) (.cons (.bv 0) .nil) (.chk none (.un .not) (.cons (.op (.cal 82) (.cons (.bv 0) .nil)) .nil) (.bnd (.op (.un .not) (.cons (.op (.cal 82) (.cons (.bv 0) .nil)) .nil)) (.chk (some ((.bv 1), true)) (.idxL 1) (.cons (.inp 3) (.cons (.inp 5) .nil)) (.ite (.bv 1) true (.eff (.ld false 1) (.cons (.ite (.bv 1) true (.op (.idxL 1) (.cons (.inp 3) (.cons (.inp 5) .nil))) (.cst (.tuple #[]))) .nil) (.chk none (.cal 81) (.cons (.bv 2) .nil) (.chk none (.un .not) (.cons (.op (.cal 81) (.cons (.bv 2) .nil)) .nil) (.bnd (.op (.un .not) (.cons (.op (.cal 81) (.cons (.bv 2) .nil)) .nil)) (.isb none (.bv 3) (.isb none (.bv 1) (.done [] (some (.ite (.bv 3) true (.cst (.bool true)) (.inp 6)))))))))) (.isb none (.bv 1) (.done [] (some (.cst (.bool false)))))))))))) h54_2 .skip)
@[simp] theorem h54_3_wp {P : Program} {F : PF P} {Q : EX → List Value → World → Prop} {env : List Value} {w : World} : h54_3.wp F Q env w = HC.wp F (.br (.chk none (.idxL 1) (.cons (.inp 3) (.cons (.inp 5) .nil)) (.eff (.ld false 1) (.cons (.op (.idxL 1) (.cons (.inp 3) (.cons (.inp 5) .nil))) .nil) (.chk none (.cal 82) (.cons (.bv 0) .nil) (.chk none (.un .not) (.cons (.op (.cal 82) (.cons (.bv 0) .nil)) .nil) (.bnd (.op (.un .not) (.cons (.op (.cal 82) (.cons (.bv 0) .nil)) .nil)) (.chk (some ((.bv 1), true)) (.idxL 1) (.cons (.inp 3) (.cons (.inp 5) .nil)) (.ite (.bv 1) true (.eff (.ld false 1) (.cons (.ite (.bv 1) true (.op (.idxL 1) (.cons (.inp 3) (.cons (.inp 5) .nil))) (.cst (.tuple #[]))) .nil) (.chk none (.cal 81) (.cons (.bv 2) .nil) (.chk none (.un .not) (.cons (.op (.cal 81) (.cons (.bv 2) .nil)) .nil) (.bnd (.op (.un .not) (.cons (.op (.cal 81) (.cons (.bv 2) .nil)) .nil)) (.isb none (.bv 3) (.isb none (.bv 1) (.done [] (some (.ite (.bv 3) true (.cst (.bool true)) (.inp 6)))))))))) (.isb none (.bv 1) (.done [] (some (.cst (.bool false)))))))))))) h54_2 .skip) Q env w := rfl
def h54_4 : HC := (.seq (.reg (.chk none (.bin .eql) (.cons (.inp 5) (.cons (.cst (.int .i64 0)) .nil)) (.bnd (.op (.bin .eql) (.cons (.inp 5) (.cons (.cst (.int .i64 0)) .nil))) (.chk (some ((.bv 0), false)) .lenL (.cons (.inp 3) .nil) (.chk (some ((.bv 0), false)) (.bin .sub) (.cons (.op .lenL (.cons (.inp 3) .nil)) (.cons (.cst (.int .i64 1)) .nil)) (.chk (some ((.bv 0), false)) (.bin .eql) (.cons (.inp 5) (.cons (.op (.bin .sub) (.cons (.op .lenL (.cons (.inp 3) .nil)) (.cons (.cst (.int .i64 1)) .nil))) .nil)) (.isb none (.bv 0) (.bnd (.ite (.bv 0) true (.cst (.bool true)) (.op (.bin .eql) (.cons (.inp 5) (.cons (.op (.bin .sub) (.cons (.op .lenL (.cons (.inp 3) .nil)) (.cons (.cst (.int .i64 1)) .nil))) .nil)))) (.chk (some ((.bv 1), false)) (.bin .sub) (.cons (.inp 5) (.cons (.cst (.int .i64 1)) .nil)) (.chk (some ((.bv 1), false)) (.idxL 1) (.cons (.inp 3) (.cons (.op (.bin .sub) (.cons (.inp 5) (.cons (.cst (.int .i64 1)) .nil))) .nil)) (.ite (.bv 1) false (.eff (.ld false 1) (.cons (.ite (.bv 1) false (.op (.idxL 1) (.cons (.inp 3) (.cons (.op (.bin .sub) (.cons (.inp 5) (.cons (.cst (.int .i64 1)) .nil))) .nil))) (.cst (.tuple #[]))) .nil) (.chk none (.cal 81) (.cons (.bv 2) .nil) (.isb none (.bv 1) (.done [(6, (.op (.cal 81) (.cons (.bv 2) .nil)))] none)))) (.isb none (.bv 1) (.done [(6, (.cst (.bool true)))] none))))))))))))) h54_3)
@[simp] theorem h54_4_wp {P : Program} {F : PF P} {Q : EX → List Value → World → Prop} {env : List Value} {w : World} : h54_4.wp F Q env w = HC.wp F (.seq (.reg (.chk none (.bin .eql) (.cons (.inp 5) (.cons (.cst (.int .i64 0)) .nil)) (.bnd (.op (.bin .eql) (.cons (.inp 5) (.cons (.cst (.int .i64 0)) .nil))) (.chk (some ((.bv 0), false)) .lenL (.cons (.inp 3) .nil) (.chk (some ((.bv 0), false)) (.bin .sub) (.cons (.op .lenL (.cons (.inp 3) .nil)) (.cons (.cst (.int .i64 1)) .nil)) (.chk (some ((.bv 0), false)) (.bin .eql) (.cons (.inp 5) (.cons (.op (.bin .sub) (.cons (.op .lenL (.cons (.inp 3) .nil)) (.cons (.cst (.int .i64 1)) .nil))) .nil)) (.isb none (.bv 0) (.bnd (.ite (.bv 0) true (.cst (.bool true)) (.op (.bin .eql) (.cons (.inp 5) (.cons (.op (.bin .sub) (.cons (.op .lenL (.cons (.inp 3) .nil)) (.cons (.cst (.int .i64 1)) .nil))) .nil)))) (.chk (some ((.bv 1), false)) (.bin .sub) (.cons (.inp 5) (.cons (.cst (.int .i64 1)) .nil)) (.chk (some ((.bv 1), false)) (.idxL 1) (.cons (.inp 3) (.cons (.op (.bin .sub) (.cons (.inp 5) (.cons (.cst (.int .i64 1)) .nil))) .nil)) (.ite (.bv 1) false (.eff (.ld false 1) (.cons (.ite (.bv 1) false (.op (.idxL 1) (.cons (.inp 3) (.cons (.op (.bin .sub) (.cons (.inp 5) (.cons (.cst (.int .i64 1)) .nil))) .nil))) (.cst (.tuple #[]))) .nil) (.chk none (.cal 81) (.cons (.bv 2) .nil) (.isb none (.bv 1) (.done [(6, (.op (.cal 81) (.cons (.bv 2) .nil)))] none)))) (.isb none (.bv 1) (.done [(6, (.cst (.bool true)))] none))))))))))))) h54_3) Q env w := rfl
def h54_5 : HC := (.seq (.block 1 h54_4) h54_1)
@[simp] theorem h54_5_wp {P : Program} {F : PF P} {Q : EX → List Value → World → Prop} {env : List Value} {w : World} : h54_5.wp F Q env w = HC.wp F (.seq (.block 1 h54_4) h54_1) Q env w := rfl
def h54_6 : HC := (.seq (.br (.chk none .lenL (.cons (.inp 3) .nil) (.chk none (.bin .lss) (.cons (.inp 5) (.cons (.op .lenL (.cons (.inp 3) .nil)) .nil)) (.done [] (some (.op (.bin .lss) (.cons (.inp 5) (.cons (.op .lenL (.cons (.inp 3) .nil)) .nil))))))) .skip (.exit 0)) h54_5)
@[simp] theorem h54_6_wp {P : Program} {F : PF P} {Q : EX → List Value → World → Prop} {env : List Value} {w : World} : h54_6.wp F Q env w = HC.wp F (.seq (.br (.chk none .lenL (.cons (.inp 3) .nil) (.chk none (.bin .lss) (.cons (.inp 5) (.cons (.op .lenL (.cons (.inp 3) .nil)) .nil)) (.done [] (some (.op (.bin .lss) (.cons (.inp 5) (.cons (.op .lenL (.cons (.inp 3) .nil)) .nil))))))) .skip (.exit 0)) h54_5) Q env w := rfl
def h54_7 : HC := (.loop h54_6)
@[simp] theorem h54_7_wp {P : Program} {F : PF P} {Q : EX → List Value → World → Prop} {env : List Value} {w : World} : h54_7.wp F Q env w = HC.wp F (.loop h54_6) Q env w := rfl
def h54_8 : HC := (.seq (.block 0 h54_7) h54_0)
@[simp] theorem h54_8_wp {P : Program} {F : PF P} {Q : EX → List Value → World → Prop} {env : List Value} {w : World} : h54_8.wp F Q env w = HC.wp F (.seq (.block 0 h54_7) h54_0) Q env w := rfl
def h54_9 : HC := (.seq (.reg (.done [(5, (.cst (.int .i64 0)))] none)) h54_8)
@[simp] theorem h54_9_wp {P : Program} {F : PF P} {Q : EX → List Value → World → Prop} {env : List Value} {w : World} : h54_9.wp F Q env w = HC.wp F (.seq (.reg (.done [(5, (.cst (.int .i64 0)))] none)) h54_8) Q env w := rfl
def h54_10 : HC := (.seq (.reg (.chk none (.idxL 1) (.cons (.inp 4) (.cons (.cst (.int .i64 24)) .nil)) (.eff (.ld false 1) (.cons (.op (.idxL 1) (.cons (.inp 4) (.cons (.cst (.int .i64 24)) .nil))) .nil) (.done [(1, (.bv 0)), (2, (.cst (.int .i64 42)))] none)))) .ret)
@[simp] theorem h54_10_wp {P : Program} {F : PF P} {Q : EX → List Value → World → Prop} {env : List Value} {w : World} : h54_10.wp F Q env w = HC.wp F (.seq (.reg (.chk none (.idxL 1) (.cons (.inp 4) (.cons (.cst (.int .i64 24)) .nil)) (.eff (.ld false 1) (.cons (.op (.idxL 1) (.cons (.inp 4) (.cons (.cst (.int .i64 24)) .nil))) .nil) (.done [(1, (.bv 0)), (2, (.cst (.int .i64 42)))] none)))) .ret) Q env w := rfl
def h54_11 : HC := (.seq (.br (.chk none .lenL (.cons (.inp 3) .nil) (.chk none (.bin .gtr) (.cons (.op .lenL (.cons (.inp 3) .nil)) (.cons (.cst (.int .i64 24)) .nil)) (.done [] (some (.op (.bin .gtr) (.cons (.op .lenL (.cons (.inp 3) .nil)) (.cons (.cst (.int .i64 24)) .nil))))))) h54_10 .skip) h54_9)
@[simp] theorem h54_11_wp {P : Program} {F : PF P} {Q : EX → List Value → World → Prop} {env : List Value} {w : World} : h54_11.wp F Q env w = HC.wp F (.seq (.br (.chk none .lenL (.cons (.inp 3) .nil) (.chk none (.bin .gtr) (.cons (.op .lenL (.cons (.inp 3) .nil)) (.cons (.cst (.int .i64 24)) .nil)) (.done [] (some (.op (.bin .gtr) (.cons (.op .lenL (.cons (.inp 3) .nil)) (.cons (.cst (.int .i64 24)) .nil))))))) h54_10 .skip) h54_9) Q env w := rfl
def h54_12 : HC := (.seq (.reg (.done [(1, (.cst (.int .i64 0))), (2, (.cst (.int .i64 41)))] none)) .ret)
@[simp] theorem h54_12_wp {P : Program} {F : PF P} {Q : EX → List Value → World → Prop} {env : List Value} {w : World} : h54_12.wp F Q env w = HC.wp F (.seq (.reg (.done [(1, (.cst (.int .i64 0))), (2, (.cst (.int .i64 41)))] none)) .ret) Q env w := rfl
def h54_13 : HC := (.seq (.br (.chk none .lenL (.cons (.inp 3) .nil) (.chk none (.bin .eql) (.cons (.op .lenL (.cons (.inp 3) .nil)) (.cons (.cst (.int .i64 0)) .nil)) (.done [] (some (.op (.bin .eql) (.cons (.op .lenL (.cons (.inp 3) .nil)) (.cons (.cst (.int .i64 0)) .nil))))))) h54_12 .skip) h54_11)
@[simp] theorem h54_13_wp {P : Program} {F : PF P} {Q : EX → List Value → World → Prop} {env : List Value} {w : World} : h54_13.wp F Q env w = HC.wp F (.seq (.br (.chk none .lenL (.cons (.inp 3) .nil) (.chk none (.bin .eql) (.cons (.op .lenL (.cons (.inp 3) .nil)) (.cons (.cst (.int .i64 0)) .nil)) (.done [] (some (.op (.bin .eql) (.cons (.op .lenL (.cons (.inp 3) .nil)) (.cons (.cst (.int .i64 0)) .nil))))))) h54_12 .skip) h54_11) Q env w := rfl
def h54_14 : HC := (.seq (.reg (.eff (.call 80) (.cons (.inp 0) .nil) (.chk none (.ext 0) (.cons (.bv 0) .nil) (.chk none (.ext 1) (.cons (.bv 0) .nil) (.done [(3, (.op (.ext 0) (.cons (.bv 0) .nil))), (4, (.op (.ext 1) (.cons (.bv 0) .nil)))] none))))) h54_13)
@[simp] theorem h54_14_wp {P : Program} {F : PF P} {Q : EX → List Value → World → Prop} {env : List Value} {w : World} : h54_14.wp F Q env w = HC.wp F (.seq (.reg (.eff (.call 80) (.cons (.inp 0) .nil) (.chk none (.ext 0) (.cons (.bv 0) .nil) (.chk none (.ext 1) (.cons (.bv 0) .nil) (.done [(3, (.op (.ext 0) (.cons (.bv 0) .nil))), (4, (.op (.ext 1) (.cons (.bv 0) .nil)))] none))))) h54_13) Q env w := rfl
def l54 : Lifted := ⟨[0, 2, 3, 4, 5, 6, 7], 66, [.slot 1, .slot 2], (.seq (.reg (.done [(1, (.cst (.int .i64 0))), (2, (.cst (.int .i64 0)))] none)) h54_14)⟩
theorem l54_ok : liftFn F4 54 400 = some l54 := by kernel_rfl


theorem check_spec (l : List UInt8) (w0 w : World) (A : Asn) (hl : l.length ≤ 1048576) (s : St w0 A w) :
    CallW Try.prog 11 [.string (mk l)] (fun r w' => r = .tuple #[.int .i64 (checkF l).1, .int .i64 (checkF l).2] ∧ St w0 A w') w := by
  refine callW_of_lift l11_ok (by simp [l11]) ?_
  simp [l11]
  refine cndI (fun h => ?_) (fun h => ?_)
  · simp at h
    subst h
    simp [checkF]
    exact s
  simp at h
  simp
  refine eff_rngS s ?_
  intro b w1 s1
  simp
  refine loopI (fun env w' => ∃ (i : Nat) (done : List (Int × Nat)) (x y z t : Value), env = [.string (mk l), .int .i64 0, .int .i64 0, .int .i64 done.length, .int .i64 (optI (faultP true 0 done)), .int .i64 (lastP 0 0 done), .bool (lastJ true done), x, y, z, .pointer (some ⟨b, 0, none⟩), t] ∧
      i ≤ l.length ∧ units l = done ++ units (l.drop i) ∧ i = sumW done ∧ done.length ≤ 24 ∧ St w0 (A * pt b (.stringIter (mk l) i)) w')
    (fun env _ => 25 - slotN env 3) ⟨0, [], _, _, _, _, by simp [optI, faultP, lastP, lastJ]; exact ⟨rfl, rfl, rfl, rfl⟩, by omega, by simp, rfl, by simp, s1⟩ ?_
  rintro LQ env w' ⟨i, done, x, y, z, t, rfl, hi, hu, hsum, hd24, s'⟩ hN hE hR
  simp
  refine eff_nxtS s' (fun h w2 s2 => ?_) (fun h => ?_)
  · simp at h
    have hle := oneF_le (l := l) (i := i) h
    have hob := oneF_bd (l := l.drop i) (by simp; omega)
    rw [decode_decL, decL_oneF _ (by simp; omega)] at s2
    have hstep := units_step hu h
    rw [decode_decL, decL_oneF _ (by simp; omega)]
    simp
    refine cndI (fun h2 => ?_) (fun h2 => ?_)
    · simp at h2
      simp
      refine hR _ _ ?_
      simp
      refine ⟨?_, s2.drop⟩
      have hlen : 24 < (units l).length := by rw [hstep]; simp; omega
      unfold checkF
      rw [if_neg (by assumption), if_pos hlen, hu, show (24 : Nat) = done.length by omega, List.take_left, ← hsum]
      simp
    · simp at h2
      simp
      try simp (disch := omega) only [wrap64]
      refine ⟨⟨hl, h⟩, ?_⟩
      have hsn := faultP_snoc done (oneF (l.drop i)) true 0
      -- how the round ends
      have fin : ∀ fv : Int, fv = optI (faultP true 0 (done ++ [oneF (l.drop i)])) → LQ .nrm [.string (mk l), .int .i64 0, .int .i64 0, .int .i64 (done.length + 1), .int .i64 fv, .int .i64 i, .bool (joinerF (oneF (l.drop i)).1), .int .i64 i, .int .i32 (runeOf (oneF (l.drop i)).1), .int .i32 (oneF (l.drop i)).1, .pointer (some ⟨b, 0, none⟩), .tuple #[.bool true, .int .i64 i, .int .i32 (runeOf (oneF (l.drop i)).1)]] w2 := by
        intro fv hfv
        refine hN _ _ ⟨i + (oneF (l.drop i)).2, done ++ [oneF (l.drop i)], .int .i64 i, .int .i32 (runeOf (oneF (l.drop i)).1), .int .i32 (oneF (l.drop i)).1, .tuple #[.bool true, .int .i64 i, .int .i32 (runeOf (oneF (l.drop i)).1)], ?_, hle.1, hstep, by simp [sumW_append, sumW, hsum], by simp; omega, s2⟩ (by simp [slotN]; omega)
        rw [hfv, lastP_snoc, lastJ_snoc, Nat.zero_add, ← hsum]
        simp
      cases hf : faultP true 0 done with
      | some q =>
        have e0 : optI (some q) = (q : Int) := rfl
        rw [hf] at hsn
        have e1 : ¬ ((q : Int) < 0) := by omega
        rw [e0]
        simp [e1]
        exact fin _ (by rw [hsn]; rfl)
      | none =>
        have e0 : optI none = -1 := rfl
        rw [hf] at hsn
        simp only at hsn
        rw [e0]
        cases hlt : letterF (oneF (l.drop i)).1
        · simp
          refine cndI (fun h3 => ?_) (fun h3 => ?_)
          · simp
            refine fin _ ?_
            rw [hsn, badAt, hlt, h3]
            simp [optI, hsum]
          · simp
            refine fin _ ?_
            rw [hsn, badAt, hlt, h3]
            rfl
        · simp
          refine fin _ ?_
          rw [hsn, badAt, hlt]
          rfl
  · simp at h
    simp
    refine hE _ _ _ ?_
    simp
    have : i = l.length := by omega
    subst this
    rw [List.drop_length, units_nil, List.append_nil] at hu
    have hne : units l ≠ [] := by intro e; have := sumW_units l; rw [e] at this; simp [sumW] at this; exact absurd (List.eq_nil_of_length_eq_zero this.symm) (by assumption)
    have hck : checkF l = (match faultF true 0 (units l) with | some p => ((p : Int), 40) | none => (0, 0)) := by
      unfold checkF
      rw [if_neg (by assumption), if_neg (by rw [hu]; omega)]
    rw [fault_eq _ _ _ 0 hne, hu] at hck
    cases hf : faultP true 0 done with
    | some q =>
      rw [hf] at hck
      simp only at hck
      have e0 : optI (some q) = (q : Int) := rfl
      rw [e0, hck]
      have e1 : decide ((q : Int) < 0) = false := by simp
      simp [e1]
      exact s'.drop
    | none =>
      rw [hf] at hck
      simp only at hck
      have e0 : optI none = -1 := rfl
      rw [e0, hck]
      cases hj : lastJ true done
      · simp
        exact s'.drop
      · simp
        exact s'.drop

theorem lastJ_take (us : List (Int × Nat)) (i : Nat) (hi : i ≤ us.length) : lastJ true (us.take i) = if i = 0 then true else joinerF (us[i - 1]?.getD (0, 0)).1 := by
  cases i with
  | zero => simp [lastJ]
  | succ i =>
    have hlt : i < us.length := by omega
    rw [List.take_succ_eq_append_getElem hlt, lastJ_snoc]
    simp [hlt]
theorem rcheck_spec (l : List UInt8) (w0 w : World) (A : Asn) (hl : l.length ≤ 1048576) (s : St w0 A w) :
    CallW Try.prog 54 [.string (mk l)] (fun r w' => r = .tuple #[.int .i64 (checkF l).1, .int .i64 (checkF l).2] ∧ St w0 A w') w := by
  refine callW_of_lift l54_ok (by simp [l54]) ?_
  simp [l54]
  refine eff_call ((units_spec l w0 w A hl s).mono ?_)
  rintro r w' ⟨v1, v2, rfl, s1⟩
  obtain ⟨a1, c1, rfl, hc1, hn1⟩ := s1.swap.own_val
  obtain ⟨a2, c2, rfl, hc2, hn2⟩ := s1.own_val
  have hul := units_len l
  simp
  refine cndI (fun h => ?_) (fun h => ?_)
  · simp at h
    have : l = [] := by have := sumW_units l; rw [h] at this; simp [sumW] at this; exact List.eq_nil_of_length_eq_zero this.symm
    simp [checkF, this]
    exact s1.drop.drop
  simp at h
  have hne : ¬ l = [] := by intro e; exact h (by rw [e]; rfl)
  have hpos : 0 < (units l).length := by have : (units l).length ≠ 0 := by simpa using h
                                         omega
  obtain ⟨g1, c1', e1, _, hcell1⟩ := s1.swap.own_at hpos
  obtain ⟨g2, c2', e2, _, hcell2⟩ := s1.own_at hpos
  cases e1
  cases e2
  simp
  refine cndI (fun h2 => ?_) (fun h2 => ?_)
  · simp at h2
    have h3 : 24 < (units l).length := by omega
    simp
    refine ⟨h2, eff_ldc (v := .int .i64 (sumW ((units l).take 24))) (hcell2 24 _ (by simp [ints, starts_get 0 (units l) 24 h3])) ?_⟩
    simp
    unfold checkF
    rw [if_neg hne, if_pos h3]
    simp
    exact s1.drop.drop
  simp at h2
  simp
  have hck : checkF l = (match faultF true 0 (units l) with | some p => ((p : Int), 40) | none => (0, 0)) := by
    unfold checkF
    rw [if_neg hne, if_neg (by omega)]
  refine loopI (fun env w'' => ∃ (i : Nat) (o : Value), env = [.string (mk l), .int .i64 0, .int .i64 0, .slice (some ⟨g1, 0, none⟩) (units l).length c1, .slice (some ⟨g2, 0, none⟩) (units l).length c2, .int .i64 i, o] ∧ w'' = w' ∧ i ≤ (units l).length ∧
      faultF true 0 (units l) = faultF (lastJ true ((units l).take i)) (sumW ((units l).take i)) ((units l).drop i)) (fun env _ => (units l).length - slotN env 5) ⟨0, _, rfl, rfl, by omega, by simp [lastJ, sumW]⟩ ?_
  rintro LQ env w'' ⟨i, o, rfl, rfl, hi, hf⟩ hN hE hR
  simp
  refine cndI (fun h3 => ?_) (fun h3 => ?_)
  · simp at h3
    have hdr : (units l).drop i = (units l)[i] :: (units l).drop (i + 1) := by rw [List.drop_eq_getElem_cons h3]
    have hge : (units l)[i]? = some (units l)[i] := by simp [h3]
    have htk : (units l).take (i + 1) = (units l).take i ++ [(units l)[i]] := by rw [List.take_succ_eq_append_getElem h3]
    have hlj := lastJ_take (units l) i (by omega)
    rw [hdr] at hf
    simp only [faultF] at hf
    have k1 : ∀ j, j < (units l).length → w''.cell? ⟨g1, j, none⟩ = some (.int .i64 ((units l)[j]?.getD (0, 0)).1) := by
      intro j hj
      refine hcell1 j _ ?_
      simp [ints, hj]
    have k2 : ∀ j, j < (units l).length → w''.cell? ⟨g2, j, none⟩ = some (.int .i64 (sumW ((units l).take j))) := by
      intro j hj
      refine hcell2 j _ ?_
      simp [ints, starts_get 0 (units l) j hj]
    have k1' : ∀ j (hj : j < (units l).length), w''.cell? ⟨g1, j, none⟩ = some (.int .i64 ((units l)[j]).1) := by
      intro j hj
      have := k1 j hj
      simpa [hj] using this
    -- what follows, once it is known whether a joiner may not stand here
    have rest : ∀ ov : Bool, ov = (lastJ true ((units l).take i) || ((units l).drop (i + 1)).isEmpty) → HC.wp F4 h54_3 (blockQ 1 (seqQ F4 h54_1 LQ)) [.string (mk l), .int .i64 0, .int .i64 0, .slice (some ⟨g1, 0, none⟩) (units l).length c1, .slice (some ⟨g2, 0, none⟩) (units l).length c2, .int .i64 i, .bool ov] w'' := by
      intro ov hov
      rw [← hov] at hf
      simp
      refine ⟨h3, eff_ldc (k1' i h3) ?_⟩
      have fin : badAt ov (units l)[i].1 = false → LQ .nrm [.string (mk l), .int .i64 0, .int .i64 0, .slice (some ⟨g1, 0, none⟩) (units l).length c1, .slice (some ⟨g2, 0, none⟩) (units l).length c2, .int .i64 (i + 1), .bool ov] w'' := by
        intro hb
        rw [hb] at hf
        refine hN _ _ ⟨i + 1, .bool ov, by simp, rfl, h3, ?_⟩ (by simp [slotN]; omega)
        rw [hf, htk, lastJ_snoc, sumW_append]
        simp [sumW]
      cases hlt : letterF (units l)[i].1
      · simp [hlt, h3]
        refine eff_ldc (k1' i h3) ?_
        simp
        refine cndI (fun h6 => ?_) (fun h6 => ?_)
        · have hb : badAt ov (units l)[i].1 = true := by rw [badAt, hlt, Bool.or_comm, h6]; rfl
          simp
          refine ⟨h3, eff_ldc (k2 i h3) ?_⟩
          simp
          refine hR _ _ ?_
          rw [hck, hf, hb]
          simp
          exact s1.drop.drop
        · have hb : badAt ov (units l)[i].1 = false := by rw [badAt, hlt, Bool.or_comm, h6]; rfl
          simp
          try simp (disch := omega) only [wrap64]
          exact fin hb
      · have hb : badAt ov (units l)[i].1 = false := by rw [badAt, hlt]; rfl
        simp [hlt]
        refine iteR_bool (fun e => by cases e) (fun _ => ?_)
        simp
        try simp (disch := omega) only [wrap64]
        exact fin hb
    simp
    try simp (disch := omega) only [wrap64]
    refine ⟨fun h4 h5 => by omega, ?_⟩
    refine iteR_bool (fun h4 => ?_) (fun h4 => ?_)
    · simp at h4
      simp [h4.1, h4.2]
      have e1 : (IntKind.i64.wrap ((i : Int) - 1)).toNat = i - 1 := by rw [wrap64 (by omega) (by omega)]; omega
      rw [e1]
      refine eff_ldc (k1' (i - 1) (by omega)) ?_
      simp
      have hh := rest (joinerF ((units l)[i - 1]'(by omega)).1) ?_
      · simp at hh
        exact hh
      rw [hlj]
      simp [show i ≠ 0 by omega, show i - 1 < (units l).length by omega]
      omega
    · simp
      have hh := rest true ?_
      · simp at hh
        exact hh
      simp at h4
      rw [hlj]
      rcases h4 with h4 | h4
      · simp [h4]
      · simp; right; omega
  · simp at h3
    simp
    refine hE _ _ _ ?_
    simp
    have : i = (units l).length := by omega
    subst this
    rw [List.drop_length] at hf
    rw [hck, hf]
    simp [faultF]
    exact s1.drop.drop
end Go.HL.Nm

namespace Go.HL
set_option linter.unusedSimpArgs false
set_option linter.unusedVariables false
theorem wrapu32 {x : Int} (h1 : 0 ≤ x) (h2 : x ≤ 4294967295) : IntKind.u32.wrap x = x := IntWalk.u32_in x ⟨h1, h2⟩
section
variable {P : Program} {K : Value → World → Prop} {w w0 : World} {F : Asn}
theorem cells_one {x : Value} (h1 : x.oneCell' = true) : x.cells = #[x] := by cases x <;> first | rfl | (simp [Value.oneCell'] at h1)
theorem zrow (n : Nat) (z : Value) : ((Array.range n).map fun i => (#[z])[i % (#[z]).size]!) = (List.replicate n z).toArray := by
  apply Array.ext
  · simp
  · intro i h1 h2
    simp [Nat.mod_one]
theorem eff_bsl2 {e : Nat} {z x y : Value} (s : St w0 F w) (h1 : x.oneCell' = true) (h2 : y.oneCell' = true)
    (hk : ∀ b w', St w0 (F * pt b (.cells #[x, y] e (0, 0))) w' → K (.slice (some ⟨b, 0, none⟩) 2 2) w') : EffW P (.bsl e 2 1 #[z] [0, 1]) [x, y] K w := by
  refine eff_bsl (cells := #[x, y]) s ?_ hk
  rw [zrow]
  simp [Instr.fill, cells_one h1, cells_one h2]
theorem eff_bsl3 {e : Nat} {z x y u : Value} (s : St w0 F w) (h1 : x.oneCell' = true) (h2 : y.oneCell' = true) (h3 : u.oneCell' = true)
    (hk : ∀ b w', St w0 (F * pt b (.cells #[x, y, u] e (0, 0))) w' → K (.slice (some ⟨b, 0, none⟩) 3 3) w') : EffW P (.bsl e 3 1 #[z] [0, 1, 2]) [x, y, u] K w := by
  refine eff_bsl (cells := #[x, y, u]) s ?_ hk
  rw [zrow]
  simp [Instr.fill, cells_one h1, cells_one h2, cells_one h3]
theorem eff_bsl4 {e : Nat} {z x y u v : Value} (s : St w0 F w) (h1 : x.oneCell' = true) (h2 : y.oneCell' = true) (h3 : u.oneCell' = true) (h4 : v.oneCell' = true)
    (hk : ∀ b w', St w0 (F * pt b (.cells #[x, y, u, v] e (0, 0))) w' → K (.slice (some ⟨b, 0, none⟩) 4 4) w') : EffW P (.bsl e 4 1 #[z] [0, 1, 2, 3]) [x, y, u, v] K w := by
  refine eff_bsl (cells := #[x, y, u, v]) s ?_ hk
  rw [zrow]
  simp [Instr.fill, cells_one h1, cells_one h2, cells_one h3, cells_one h4]
/-- a slice, made: its cells are zero -/
theorem eff_mks {t e size bytes l c : Nat} {k k' : IntKind} {z : Value} (s : St w0 F w) (hlc : l ≤ c) (hm : c ≤ maxLen) (hb : bytes * c ≤ 281474976710656) (hz : z.cells.size = size)
    (hk : ∀ v w', St w0 (F * HL.own e size v l (((Array.range (c * size)).map (z.cells[· % z.cells.size]!)).toList.take (l * size))) w' → K v w') : EffW P (.mks t e size bytes z) [.int k l, .int k' c] K w := by
  rintro ⟨ht, i, hi, hiz, rfl, rfl⟩
  have hc2 : (c : Int) ≤ 9223372036854775807 := by simp only [maxLen] at hm; omega
  have wc : IntKind.i64.wrap (c : Int) = c := wrap64 (by omega) hc2
  have wl : IntKind.i64.wrap (l : Int) = l := wrap64 (by omega) (by omega)
  refine upon_val (w' := w.alloc (.cells ((Array.range (c * i.size)).map (z.cells[· % z.cells.size]!)) e)) (v := .slice (some ⟨w.heap.size, 0, none⟩) l c) ?_ (hk _ _ ?_)
  · have hb' : ¬ (281474976710656 < (i.bytes : Int) * (c : Int)) := by
      rw [← Int.natCast_mul]; omega
    have hlt : ¬ ((c : Int) < (l : Int)) := by omega
    have hc0 : ¬ ((c : Int) < 0) := by omega
    have hl0 : ¬ ((l : Int) < 0) := by omega
    have hr0 : Array.range 0 = #[] := rfl
    have hnew : ∀ cs, (newRow e cs).run P w = .ok ⟨w.heap.size, 0, none⟩ (w.alloc (.cells cs e)) := fun cs => by simp [newRow]
    have hzv : (zeroValue e).run P w = .ok z w := by simp [zeroValue, typeInfo, hi, hiz, Sem.run_bind]
    by_cases h0 : c * i.size = 0
    · have e1 : c = 0 ∨ i.size = 0 := Nat.mul_eq_zero.1 h0
      simp [Instr.makeSlice, run_underlying ht, typeInfo, hi, sizeOf, wc, wl, asInt, asIntOf, hb', hlt, hc0, hl0, h0, e1, hnew, hr0]
    · simp [Instr.makeSlice, run_underlying ht, typeInfo, hi, sizeOf, wc, wl, asInt, asIntOf, hb', hlt, hc0, hl0, h0, hnew, hzv]
  · refine St.own_mk (s.alloc (by rfl)) hlc hm (by simp) rfl
/-- a cell of an owned slice is set -/
theorem eff_stO {e n g cap j : Nat} {u : Value} {xs : List Value} (s : St w0 (F * HL.own e 1 (.slice (some ⟨g, 0, none⟩) n cap) n xs) w) (hj : j < n) (h1 : u.oneCell' = true)
    (hk : ∀ w', St w0 (F * HL.own e 1 (.slice (some ⟨g, 0, none⟩) n cap) n (xs.set j u)) w' → K undef w') : EffW P (.st 1) [.pointer (some ⟨g, j, none⟩), u] K w := by
  rcases s.own.2 with ⟨h, _⟩ | ⟨g', cap', cur, h, hn, hm, hc, ht, s'⟩
  · cases h
  · cases h
    refine eff_st1 s' h1 (by omega) fun w' s2 => hk w' (s2.own_mk' hn hm (by simpa using hc) ?_)
    rw [Array.toList_setIfInBounds, List.take_set, ht]
/-- appending where there is room: in the same row -/
theorem eff_app_room {t ty e size bytes g n m c cap : Nat} {z : Value} {cur : Array Value} {news : List Value} {a : Addr} (s : St w0 (F * pt g (.cells cur e (0, 0))) w)
    (hl : news.length = m * size) (hx : ∀ j u, news[j]? = some u → w.cell? (a.add j) = some u) (h1 : ∀ u ∈ news, u.oneCell' = true) (hroom : n + m ≤ cap) (hcs : cap * size ≤ cur.size)
    (hk : ∀ w', St w0 (F * pt g (.cells (cur.toList.take (n * size) ++ news ++ cur.toList.drop (n * size + news.length)).toArray e (0, 0))) w' → K (.slice (some ⟨g, 0, none⟩) (n + m) cap) w') :
    EffW P (.app t ty e size bytes z) [.slice (some ⟨g, 0, none⟩) n cap, .slice (some a) m c] K w := by
  rintro ⟨ht, i, hi, hiz, rfl, rfl⟩
  have hfit : n * i.size + news.length ≤ cur.size := by rw [hl, ← Nat.add_mul]; exact Nat.le_trans (Nat.mul_le_mul_right _ hroom) hcs
  have hr := run_append_room (P := P) w t ty e i ht hi g n cap cur s.look a m c news hl hx h1 hroom hfit
  exact upon_val hr (hk _ (splice_turn (off := n * i.size) (vs := news) s))
@[simp] theorem iteR_ft {F : PF P} {env : List Value} {Kr} (a b : RT) (bvs : List Value) : IteR F (.bool false) true a b env Kr bvs w = b.wp F env Kr bvs w := rfl
@[simp] theorem iteR_tf {F : PF P} {env : List Value} {Kr} (a b : RT) (bvs : List Value) : IteR F (.bool true) false a b env Kr bvs w = b.wp F env Kr bvs w := rfl
/-- bytes, as_ values -/
def bytesV (l : List UInt8) : List Value := l.map fun b => .int .u8 b.toNat
theorem push_all : ∀ (l : List UInt8) (s : ByteArray), l.foldl (fun b a => b.push a) s = ⟨s.data ++ l.toArray⟩
  | [], s => by simp
  | b :: l, s => by
    rw [List.foldl_cons, push_all l]
    simp [ByteArray.push]
theorem run_push (P : Program) (w : World) : ∀ (l : List UInt8) (s : ByteArray), (forIn (bytesV l) s (fun c s => (match c with
        | .int .u8 n => pure (ForInStep.yield (s.push (UInt8.ofNat n.toNat)))
        | x => do
          stuck (α := Unit) "bytesToString: byte expected"
          pure (ForInStep.yield s) : Sem (ForInStep ByteArray)))).run P w = .ok ⟨s.data ++ l.toArray⟩ w
  | [], s => by simp [bytesV]
  | b :: l, s => by
    have ih := run_push P w l (s.push b)
    simp only [bytesV] at ih
    simp only [bytesV, List.map_cons, List.forIn_cons, Sem.run_bind]
    simp
    rw [push_all]
    apply congrArg
    simp
/-- bytes to a text -/
theorem eff_b2s {t d e n : Nat} {v : Value} {bs : List UInt8} (s : St w0 (F * HL.own e 1 v n (bytesV bs)) w) (hk : K (.string (mk bs)) w) : EffW P (.b2s t d) [v] K w := by
  intro _
  rcases s.own_cell with ⟨hx, rfl⟩ | ⟨g, cap, rfl, hn, hc⟩
  · have : bs = [] := by simpa [bytesV] using hx
    subst this
    exact upon_val (w' := w) (v := .string (mk [])) (by simp [Conv.bytesToString]; rfl) hk
  · refine upon_val (w' := w) (v := .string (mk bs)) ?_ hk
    have hl : (bytesV bs).length = n := by simpa using s.own.1
    have := run_loadCells_list (P := P) w ⟨g, 0, none⟩ (bytesV bs) (by
      intro j u hj
      rw [addr_add, Nat.zero_add]; exact hc j u hj)
    rw [hl] at this
    have hp := run_push P w bs .empty
    simp only [Conv.bytesToString, Sem.run_bind, this, Result.andThen_ok]
    rw [List.forIn_toArray]
    refine (congrArg (fun r => Result.andThen r _) hp).trans ?_
    simp
end
section
variable {P : Program} {F : PF P} {env bvs : List Value} {w : World} {Q : EX → List Value → World → Prop} {C : World → Prop}
def EffQ (P : Program) (C : World → Prop) (eo : EO) (vs : List Value) (K : Value → Prop) : Prop := ∃ v, (∀ w, C w → QuietW P C eo vs v w) ∧ K v
def contQ (F : PF P) (C : World → Prop) (env : List Value) (K : List Value → Option Value → Prop) (k : RT) (bvs : List Value) (v : Value) : Prop := k.wpq F C env K (bvs ++ [v])
def IteQ (F : PF P) (C : World → Prop) (c : Value) (v : Bool) (a b : RT) (env : List Value) (K : List Value → Option Value → Prop) (bvs : List Value) : Prop := if isB c v = true then a.wpq F C env K bvs else b.wpq F C env K bvs
/-- what is asked after it, in each world of the class -/
def regKq (C : World → Prop) (Q : EX → List Value → World → Prop) (env : List Value) (_ : Option Value) : Prop := ∀ w, C w → Q .nrm env w
def brKq (F : PF P) (C : World → Prop) (x y : HC) (Q : EX → List Value → World → Prop) (env : List Value) (c : Option Value) : Prop := ∀ w, C w → CondC F (c.getD undef) x y Q env w
@[simp] theorem wpq_done {K} (sets : List (Nat × SE)) (c : Option SE) : (RT.done sets c).wpq F C env K bvs = K (setAll F env bvs sets env) (c.map (SE.val F env bvs)) := rfl
@[simp] theorem wpq_chk {K} (g : Option (SE × Bool)) (p : PO) (xs : SEs) (k : RT) : (RT.chk g p xs k).wpq F C env K bvs = ((guardOn F env bvs g → p.ok F (SEs.vals F env bvs xs)) ∧ k.wpq F C env K bvs) := rfl
@[simp] theorem wpq_isb {K} (g : Option (SE × Bool)) (c : SE) (k : RT) : (RT.isb g c k).wpq F C env K bvs = ((guardOn F env bvs g → ∃ b, SE.val F env bvs c = .bool b) ∧ k.wpq F C env K bvs) := rfl
@[simp] theorem wpq_eff {K} (eo : EO) (xs : SEs) (k : RT) : (RT.eff eo xs k).wpq F C env K bvs = EffQ P C eo (SEs.vals F env bvs xs) (contQ F C env K k bvs) := rfl
@[simp] theorem wpq_bnd {K} (e : SE) (k : RT) : (RT.bnd e k).wpq F C env K bvs = k.wpq F C env K (bvs ++ [SE.val F env bvs e]) := rfl
@[simp] theorem wpq_ite {K} (c : SE) (v : Bool) (a b : RT) : (RT.ite c v a b).wpq F C env K bvs = IteQ F C (SE.val F env bvs c) v a b env K bvs := rfl
@[simp] theorem contQ_app {K} (k : RT) (v : Value) : contQ F C env K k bvs v = k.wpq F C env K (bvs ++ [v]) := rfl
@[simp] theorem iteQ_tt {K} (a b : RT) : IteQ F C (.bool true) true a b env K bvs = a.wpq F C env K bvs := rfl
@[simp] theorem iteQ_ft {K} (a b : RT) : IteQ F C (.bool false) true a b env K bvs = b.wpq F C env K bvs := rfl
@[simp] theorem regKq_app (c : Option Value) : regKq C Q env c = ∀ w, C w → Q .nrm env w := rfl
@[simp] theorem brKq_app (x y : HC) (c : Option Value) : brKq F C x y Q env c = ∀ w, C w → CondC F (c.getD undef) x y Q env w := rfl
/-- the class: what an assertion says -/
theorem brqI {w0 : World} {A : Asn} {m : Option Nat} {t : RT} {x y : HC} (s : St w0 A w) (h : t.wpq F (St w0 A) env (brKq F (St w0 A) x y Q) []) : (HC.brq m t x y).wp F Q env w := .inl ⟨St w0 A, s.drew, h⟩
theorem effq_ldc {a : Addr} {n : Nat} {v : Value} {K : Value → Prop} (hc : ∀ w, C w → w.cell? a = some v) (hk : K v) : EffQ P C (.ld false n) [.pointer (some a)] K := by
  refine ⟨v, fun w hw _ => ?_, hk⟩
  have := hc w hw
  have hr : (ldS false n (.pointer (some a))).run P w = .ok v w := by simp [ldS, Instr.sureAddr, this]
  simp only [EO.sem, valS, Sem.run_bind, hr, Result.andThen_ok, Sem.run_pure]
  exact ⟨rfl, rfl⟩
end
end Go.HL

namespace Go.HL.Nm
open Go.HL Go.Proofs
set_option maxRecDepth 4000
set_option linter.unusedSimpArgs false
set_option linter.unusedVariables false
@[simp] theorem F4_in_val (args : List Value) : F4.val 90 args = inS.val args := rfl
@[simp] theorem F4_in_ok (args : List Value) : F4.ok 90 args = inS.ok args := rfl
@[simp] theorem in_val (u lo hi : Int) (k k' k'' : IntKind) : inS.val [.int k u, .int k' lo, .int k'' hi] = .bool (inF u lo hi) := rfl
@[simp] theorem in_ok (u lo hi : Int) (k k' k'' : IntKind) : inS.ok [.int k u, .int k' lo, .int k'' hi] = (k = .i64 ∧ k' = .i64 ∧ k'' = .i64) := rfl
/-- a unit, folded -/
def foldU (u : Int) : List Int := if u = 223 then [115, 115] else [foldF u]
/-- a text's units, folded -/
def foldAll (us : List (Int × Nat)) : List Int := us.flatMap fun u => foldU u.1
def foldedF (l : List UInt8) : List Int := foldAll (units l)
theorem units_bd : ∀ (n : Nat) (l : List UInt8), l.length ≤ n → ∀ u ∈ units l, 0 ≤ u.1 ∧ u.1 < 2097408
  | 0, l, h => by
    have : l = [] := List.eq_nil_of_length_eq_zero (by omega)
    subst this
    simp [units_nil]
  | n + 1, l, h => by
    by_cases he : l = []
    · subst he; simp [units_nil]
    · have hb := oneF_bd he
      rw [units_cons he]
      intro u hu
      rcases List.mem_cons.1 hu with rfl | hu
      · exact ⟨hb.1, hb.2.1⟩
      · exact units_bd n _ (by simp; omega) u hu
theorem units_at (l : List UInt8) {i : Nat} (h : i < (units l).length) : 0 ≤ (units l)[i].1 ∧ (units l)[i].1 < 2097408 := units_bd _ l (Nat.le_refl _) _ (List.getElem_mem h)
theorem foldU_len (u : Int) : (foldU u).length ≤ 2 ∧ 1 ≤ (foldU u).length := by unfold foldU; split <;> simp
theorem foldAll_len : ∀ us : List (Int × Nat), (foldAll us).length ≤ 2 * us.length
  | [] => by simp [foldAll]
  | u :: us => by
    have := foldAll_len us
    have h1 := (foldU_len u.1).1
    simp only [foldAll, List.flatMap_cons, List.length_append, List.length_cons] at this ⊢
    omega
theorem foldAll_snoc (us : List (Int × Nat)) (u : Int × Nat) : foldAll (us ++ [u]) = foldAll us ++ foldU u.1 := by simp [foldAll]
def ints32 (l : List Int) : List Value := l.map (Value.int .i32)
theorem ints_one (l : List Int) : ∀ u ∈ ints l, u.oneCell' = true := by intro u h; simp only [ints, List.mem_map] at h; obtain ⟨x, _, rfl⟩ := h; rfl
-- bazaar/bazaarref04.fold
def h97_0 : HC := (.seq (.reg (.eff (.bsl 3 1 1 #[(.int .i64 0)] [0]) (.cons (.inp 0) .nil) (.done [(1, (.bv 0))] none))) .ret)
@[simp] theorem h97_0_wp {P : Program} {F : PF P} {Q : EX → List Value → World → Prop} {env : List Value} {w : World} : h97_0.wp F Q env w = HC.wp F (.seq (.reg (.eff (.bsl 3 1 1 #[(.int .i64 0)] [0]) (.cons (.inp 0) .nil) (.done [(1, (.bv 0))] none))) .ret) Q env w := rfl
def h97_1 : HC := (.seq (.reg (.eff (.bsl 3 2 1 #[(.int .i64 0)] [0, 1]) (.cons (.cst (.int .i64 115)) (.cons (.cst (.int .i64 115)) .nil)) (.done [(1, (.bv 0))] none))) .ret)
@[simp] theorem h97_1_wp {P : Program} {F : PF P} {Q : EX → List Value → World → Prop} {env : List Value} {w : World} : h97_1.wp F Q env w = HC.wp F (.seq (.reg (.eff (.bsl 3 2 1 #[(.int .i64 0)] [0, 1]) (.cons (.cst (.int .i64 115)) (.cons (.cst (.int .i64 115)) .nil)) (.done [(1, (.bv 0))] none))) .ret) Q env w := rfl
def h97_2 : HC := (.seq (.reg (.eff (.bsl 3 1 1 #[(.int .i64 0)] [0]) (.cons (.cst (.int .i64 1105)) .nil) (.done [(1, (.bv 0))] none))) .ret)
@[simp] theorem h97_2_wp {P : Program} {F : PF P} {Q : EX → List Value → World → Prop} {env : List Value} {w : World} : h97_2.wp F Q env w = HC.wp F (.seq (.reg (.eff (.bsl 3 1 1 #[(.int .i64 0)] [0]) (.cons (.cst (.int .i64 1105)) .nil) (.done [(1, (.bv 0))] none))) .ret) Q env w := rfl
def h97_3 : HC := (.seq (.reg (.eff (.bsl 3 1 1 #[(.int .i64 0)] [0]) (.cons (.cst (.int .i64 963)) .nil) (.done [(1, (.bv 0))] none))) .ret)
@[simp] theorem h97_3_wp {P : Program} {F : PF P} {Q : EX → List Value → World → Prop} {env : List Value} {w : World} : h97_3.wp F Q env w = HC.wp F (.seq (.reg (.eff (.bsl 3 1 1 #[(.int .i64 0)] [0]) (.cons (.cst (.int .i64 963)) .nil) (.done [(1, (.bv 0))] none))) .ret) Q env w := rfl
def h97_4 : HC := (.seq (.reg (.eff (.bsl 3 1 1 #[(.int .i64 0)] [0]) (.cons (.inp 0) .nil) (.done [(1, (.bv 0))] none))) .ret)
@[simp] theorem h97_4_wp {P : Program} {F : PF P} {Q : EX → List Value → World → Prop} {env : List Value} {w : World} : h97_4.wp F Q env w = HC.wp F (.seq (.reg (.eff (.bsl 3 1 1 #[(.int .i64 0)] [0]) (.cons (.inp 0) .nil) (.done [(1, (.bv 0))] none))) .ret) Q env w := rfl
def h97_5 : HC := (.seq (.reg (.chk none (.bin .add) (.cons (.inp 0) (.cons (.cst (.int .i64 32)) .nil)) (.eff (.bsl 3 1 1 #[(.int .i64 0)] [0]) (.cons (.op (.bin .add) (.cons (.inp 0) (.cons (.cst (.int .i64 32)) .nil))) .nil) (.done [(1, (.bv 0))] none)))) .ret)
@[simp] theorem h97_5_wp {P : Program} {F : PF P} {Q : EX → List Value → World → Prop} {env : List Value} {w : World} : h97_5.wp F Q env w = HC.wp F (.seq (.reg (.chk none (.bin .add) (.cons (.inp 0) (.cons (.cst (.int .i64 32)) .nil)) (.eff (.bsl 3 1 1 #[(.int .i64 0)] [0]) (.cons (.op (.bin .add) (.cons (.inp 0) (.cons (.cst (.int .i64 32)) .nil))) .nil) (.done [(1, (.bv 0))] none)))) .ret) Q env w := rfl
def h97_6 : HC := (.br (.chk none (.cal 90) (.cons (.inp 0) (.cons (.cst (.int .i64 65)) (.cons (.cst (.int .i64 90)) .nil))) (.bnd (.op (.cal 90) (.cons (.inp 0) (.cons (.cst (.int .i64 65)) (.cons (.cst (.int .i64 90)) .nil)))) (.chk (some ((.bv 0), false)) (.cal 90) (.cons (.inp 0) (.cons (.cst (.int .i64 192)) (.cons (.cst (.int .i64 222)) .nil))) (.isb none (.bv 0) (.bnd (.ite (.bv 0) true (.cst (.bool true)) (.op (.cal 90) (.cons (.inp 0) (.cons (.cst (.int .i64 192)) (.cons (.cst (.int .i64 222)) .nil))))) (.chk (some ((.bv 1), false)) (.cal 90) (.cons (.inp 0) (.cons (.cst (.int .i64 913)) (.cons (.cst (.int .i64 937)) .nil))) (.isb none (.bv 1) (.bnd (.ite (.bv 1) true (.cst (.bool true)) (.op (.cal 90) (.cons (.inp 0) (.cons (.cst (.int .i64 913)) (.cons (.cst (.int .i64 937)) .nil))))) (.chk (some ((.bv 2), false)) (.cal 90) (.cons (.inp 0) (.cons (.cst (.int .i64 1040)) (.cons (.cst (.int .i64 1071)) .nil))) (.isb none (.bv 2) (.done [] (some (.ite (.bv 2) true (.cst (.bool true)) (.op (.cal 90) (.cons (.inp 0) (.cons (.cst (.int .i64 1040)) (.cons (.cst (.int .i64 1071)) .nil))))))))))))))))) h97_5 .skip)
@[simp] theorem h97_6_wp {P : Program} {F : PF P} {Q : EX → List Value → World → Prop} {env : List Value} {w : World} : h97_6.wp F Q env w = HC.wp F (.br (.chk none (.cal 90) (.cons (.inp 0) (.cons (.cst (.int .i64 65)) (.cons (.cst (.int .i64 90)) .nil))) (.bnd (.op (.cal 90) (.cons (.inp 0) (.cons (.cst (.int .i64 65)) (.cons (.cst (.int .i64 90)) .nil)))) (.chk (some ((.bv 0), false)) (.cal 90) (.cons (.inp 0) (.cons (.cst (.int .i64 192)) (.cons (.cst (.int .i64 222)) .nil))) (.isb none (.bv 0) (.bnd (.ite (.bv 0) true (.cst (.bool true)) (.op (.cal 90) (.cons (.inp 0) (.cons (.cst (.int .i64 192)) (.cons (.cst (.int .i64 222)) .nil))))) (.chk (some ((.bv 1), false)) (.cal 90) (.cons (.inp 0) (.cons (.cst (.int .i64 913)) (.cons (.cst (.int .i64 937)) .nil))) (.isb none (.bv 1) (.bnd (.ite (.bv 1) true (.cst (.bool true)) (.op (.cal 90) (.cons (.inp 0) (.cons (.cst (.int .i64 913)) (.cons (.cst (.int .i64 937)) .nil))))) (.chk (some ((.bv 2), false)) (.cal 90) (.cons (.inp 0) (.cons (.cst (.int .i64 1040)) (.cons (.cst (.int .i64 1071)) .nil))) (.isb none (.bv 2) (.done [] (some (.ite (.bv 2) true (.cst (.bool true)) (.op (.cal 90) (.cons (.inp 0) (.cons (.cst (.int .i64 1040)) (.cons (.cst (.int .i64 1071)) .nil))))))))))))))))) h97_5 .skip) Q env w := rfl
def h97_7 : HC := (.br (.chk none (.bin .eql) (.cons (.inp 0) (.cons (.cst (.int .i64 215)) .nil)) (.bnd (.op (.bin .eql) (.cons (.inp 0) (.cons (.cst (.int .i64 215)) .nil))) (.chk (some ((.bv 0), false)) (.bin .eql) (.cons (.inp 0) (.cons (.cst (.int .i64 930)) .nil)) (.isb none (.bv 0) (.done [] (some (.ite (.bv 0) true (.cst (.bool true)) (.op (.bin .eql) (.cons (.inp 0) (.cons (.cst (.int .i64 930)) .nil)))))))))) h97_4 h97_6)
@[simp] theorem h97_7_wp {P : Program} {F : PF P} {Q : EX → List Value → World → Prop} {env : List Value} {w : World} : h97_7.wp F Q env w = HC.wp F (.br (.chk none (.bin .eql) (.cons (.inp 0) (.cons (.cst (.int .i64 215)) .nil)) (.bnd (.op (.bin .eql) (.cons (.inp 0) (.cons (.cst (.int .i64 215)) .nil))) (.chk (some ((.bv 0), false)) (.bin .eql) (.cons (.inp 0) (.cons (.cst (.int .i64 930)) .nil)) (.isb none (.bv 0) (.done [] (some (.ite (.bv 0) true (.cst (.bool true)) (.op (.bin .eql) (.cons (.inp 0) (.cons (.cst (.int .i64 930)) .nil)))))))))) h97_4 h97_6) Q env w := rfl
def h97_8 : HC := (.br (.chk none (.bin .eql) (.cons (.inp 0) (.cons (.cst (.int .i64 962)) .nil)) (.done [] (some (.op (.bin .eql) (.cons (.inp 0) (.cons (.cst (.int .i64 962)) .nil)))))) h97_3 h97_7)
@[simp] theorem h97_8_wp {P : Program} {F : PF P} {Q : EX → List Value → World → Prop} {env : List Value} {w : World} : h97_8.wp F Q env w = HC.wp F (.br (.chk none (.bin .eql) (.cons (.inp 0) (.cons (.cst (.int .i64 962)) .nil)) (.done [] (some (.op (.bin .eql) (.cons (.inp 0) (.cons (.cst (.int .i64 962)) .nil)))))) h97_3 h97_7) Q env w := rfl
def h97_9 : HC := (.br (.chk none (.bin .eql) (.cons (.inp 0) (.cons (.cst (.int .i64 1025)) .nil)) (.done [] (some (.op (.bin .eql) (.cons (.inp 0) (.cons (.cst (.int .i64 1025)) .nil)))))) h97_2 h97_8)
@[simp] theorem h97_9_wp {P : Program} {F : PF P} {Q : EX → List Value → World → Prop} {env : List Value} {w : World} : h97_9.wp F Q env w = HC.wp F (.br (.chk none (.bin .eql) (.cons (.inp 0) (.cons (.cst (.int .i64 1025)) .nil)) (.done [] (some (.op (.bin .eql) (.cons (.inp 0) (.cons (.cst (.int .i64 1025)) .nil)))))) h97_2 h97_8) Q env w := rfl
def h97_10 : HC := (.br (.chk none (.bin .eql) (.cons (.inp 0) (.cons (.cst (.int .i64 223)) .nil)) (.done [] (some (.op (.bin .eql) (.cons (.inp 0) (.cons (.cst (.int .i64 223)) .nil)))))) h97_1 h97_9)
@[simp] theorem h97_10_wp {P : Program} {F : PF P} {Q : EX → List Value → World → Prop} {env : List Value} {w : World} : h97_10.wp F Q env w = HC.wp F (.br (.chk none (.bin .eql) (.cons (.inp 0) (.cons (.cst (.int .i64 223)) .nil)) (.done [] (some (.op (.bin .eql) (.cons (.inp 0) (.cons (.cst (.int .i64 223)) .nil)))))) h97_1 h97_9) Q env w := rfl
def h97_11 : HC := (.seq (.block 0 h97_10) h97_0)
@[simp] theorem h97_11_wp {P : Program} {F : PF P} {Q : EX → List Value → World → Prop} {env : List Value} {w : World} : h97_11.wp F Q env w = HC.wp F (.seq (.block 0 h97_10) h97_0) Q env w := rfl
def l97 : Lifted := ⟨[0, 2], 44, [.slot 1], (.seq (.reg (.done [(1, (.cst (.slice none 0 0)))] none)) h97_11)⟩
theorem l97_ok : liftFn F4 97 400 = some l97 := by kernel_rfl

-- bazaar/bazaarref04.Folded
def h92_0 : HC := (.seq (.reg (.done [(1, (.inp 3))] none)) .ret)
@[simp] theorem h92_0_wp {P : Program} {F : PF P} {Q : EX → List Value → World → Prop} {env : List Value} {w : World} : h92_0.wp F Q env w = HC.wp F (.seq (.reg (.done [(1, (.inp 3))] none)) .ret) Q env w := rfl
def h92_1 : HC := (.reg (.chk none (.bin .add) (.cons (.inp 4) (.cons (.cst (.int .i64 1)) .nil)) (.done [(4, (.op (.bin .add) (.cons (.inp 4) (.cons (.cst (.int .i64 1)) .nil))))] none)))
@[simp] theorem h92_1_wp {P : Program} {F : PF P} {Q : EX → List Value → World → Prop} {env : List Value} {w : World} : h92_1.wp F Q env w = HC.wp F (.reg (.chk none (.bin .add) (.cons (.inp 4) (.cons (.cst (.int .i64 1)) .nil)) (.done [(4, (.op (.bin .add) (.cons (.inp 4) (.cons (.cst (.int .i64 1)) .nil))))] none))) Q env w := rfl
def h92_2 : HC := (.reg (.chk none (.idxL 1) (.cons (.inp 2) (.cons (.inp 4) .nil)) (.eff (.ld false 1) (.cons (.op (.idxL 1) (.cons (.inp 2) (.cons (.inp 4) .nil))) .nil) (.eff (.call 97) (.cons (.bv 0) .nil) (.eff (.app 35 35 3 1 8 (.int .i64 0)) (.cons (.inp 3) (.cons (.bv 1) .nil)) (.done [(3, (.bv 2))] none))))))
@[simp] theorem h92_2_wp {P : Program} {F : PF P} {Q : EX → List Value → World → Prop} {env : List Value} {w : World} : h92_2.wp F Q env w = HC.wp F (.reg (.chk none (.idxL 1) (.cons (.inp 2) (.cons (.inp 4) .nil)) (.eff (.ld false 1) (.cons (.op (.idxL 1) (.cons (.inp 2) (.cons (.inp 4) .nil))) .nil) (.eff (.call 97) (.cons (.bv 0) .nil) (.eff (.app 35 35 3 1 8 (.int .i64 0)) (.cons (.inp 3) (.cons (.bv 1) .nil)) (.done [(3, (.bv 2))] none)))))) Q env w := rfl
def h92_3 : HC := (.seq (.block 1 h92_2) h92_1)
@[simp] theorem h92_3_wp {P : Program} {F : PF P} {Q : EX → List Value → World → Prop} {env : List Value} {w : World} : h92_3.wp F Q env w = HC.wp F (.seq (.block 1 h92_2) h92_1) Q env w := rfl
def h92_4 : HC := (.seq (.br (.chk none .lenL (.cons (.inp 2) .nil) (.chk none (.bin .lss) (.cons (.inp 4) (.cons (.op .lenL (.cons (.inp 2) .nil)) .nil)) (.done [] (some (.op (.bin .lss) (.cons (.inp 4) (.cons (.op .lenL (.cons (.inp 2) .nil)) .nil))))))) .skip (.exit 0)) h92_3)
@[simp] theorem h92_4_wp {P : Program} {F : PF P} {Q : EX → List Value → World → Prop} {env : List Value} {w : World} : h92_4.wp F Q env w = HC.wp F (.seq (.br (.chk none .lenL (.cons (.inp 2) .nil) (.chk none (.bin .lss) (.cons (.inp 4) (.cons (.op .lenL (.cons (.inp 2) .nil)) .nil)) (.done [] (some (.op (.bin .lss) (.cons (.inp 4) (.cons (.op .lenL (.cons (.inp 2) .nil)) .nil))))))) .skip (.exit 0)) h92_3) Q env w := rfl
def h92_5 : HC := (.loop h92_4)
@[simp] theorem h92_5_wp {P : Program} {F : PF P} {Q : EX → List Value → World → Prop} {env : List Value} {w : World} : h92_5.wp F Q env w = HC.wp F (.loop h92_4) Q env w := rfl
def h92_6 : HC := (.seq (.block 0 h92_5) h92_0)
@[simp] theorem h92_6_wp {P : Program} {F : PF P} {Q : EX → List Value → World → Prop} {env : List Value} {w : World} : h92_6.wp F Q env w = HC.wp F (.seq (.block 0 h92_5) h92_0) Q env w := rfl
def h92_7 : HC := (.seq (.reg (.done [(4, (.cst (.int .i64 0)))] none)) h92_6)
@[simp] theorem h92_7_wp {P : Program} {F : PF P} {Q : EX → List Value → World → Prop} {env : List Value} {w : World} : h92_7.wp F Q env w = HC.wp F (.seq (.reg (.done [(4, (.cst (.int .i64 0)))] none)) h92_6) Q env w := rfl
def h92_8 : HC := (.seq (.reg (.done [(3, (.cst (.slice none 0 0)))] none)) h92_7)
@[simp] theorem h92_8_wp {P : Program} {F : PF P} {Q : EX → List Value → World → Prop} {env : List Value} {w : World} : h92_8.wp F Q env w = HC.wp F (.seq (.reg (.done [(3, (.cst (.slice none 0 0)))] none)) h92_7) Q env w := rfl
def h92_9 : HC := (.seq (.reg (.eff (.call 80) (.cons (.inp 0) .nil) (.chk none (.ext 0) (.cons (.bv 0) .nil) (.chk none (.ext 1) (.cons (.bv 0) .nil) (.done [(2, (.op (.ext 0) (.cons (.bv 0) .nil)))] none))))) h92_8)
@[simp] theorem h92_9_wp {P : Program} {F : PF P} {Q : EX → List Value → World → Prop} {env : List Value} {w : World} : h92_9.wp F Q env w = HC.wp F (.seq (.reg (.eff (.call 80) (.cons (.inp 0) .nil) (.chk none (.ext 0) (.cons (.bv 0) .nil) (.chk none (.ext 1) (.cons (.bv 0) .nil) (.done [(2, (.op (.ext 0) (.cons (.bv 0) .nil)))] none))))) h92_8) Q env w := rfl
def l92 : Lifted := ⟨[0, 2, 3, 5, 6], 26, [.slot 1], (.seq (.reg (.done [(1, (.cst (.slice none 0 0)))] none)) h92_9)⟩
theorem l92_ok : liftFn F4 92 400 = some l92 := by kernel_rfl

-- bazaar/name.folded
def h50_0 : HC := (.seq (.reg (.done [(1, (.inp 2))] none)) .ret)
@[simp] theorem h50_0_wp {P : Program} {F : PF P} {Q : EX → List Value → World → Prop} {env : List Value} {w : World} : h50_0.wp F Q env w = HC.wp F (.seq (.reg (.done [(1, (.inp 2))] none)) .ret) Q env w := rfl
def h50_1 : HC := (.reg (.chk none (.cal 78) (.cons (.inp 5) .nil) (.eff (.bsl 21 1 1 #[(.int .i32 0)] [0]) (.cons (.op (.cal 78) (.cons (.inp 5) .nil)) .nil) (.eff (.app 84 84 21 1 4 (.int .i32 0)) (.cons (.inp 2) (.cons (.bv 0) .nil)) (.done [(2, (.bv 1))] none)))))
@[simp] theorem h50_1_wp {P : Program} {F : PF P} {Q : EX → List Value → World → Prop} {env : List Value} {w : World} : h50_1.wp F Q env w = HC.wp F (.reg (.chk none (.cal 78) (.cons (.inp 5) .nil) (.eff (.bsl 21 1 1 #[(.int .i32 0)] [0]) (.cons (.op (.cal 78) (.cons (.inp 5) .nil)) .nil) (.eff (.app 84 84 21 1 4 (.int .i32 0)) (.cons (.inp 2) (.cons (.bv 0) .nil)) (.done [(2, (.bv 1))] none))))) Q env w := rfl
def h50_2 : HC := (.seq (.reg (.eff (.bsl 21 2 1 #[(.int .i32 0)] [0, 1]) (.cons (.cst (.int .i32 115)) (.cons (.cst (.int .i32 115)) .nil)) (.eff (.app 84 84 21 1 4 (.int .i32 0)) (.cons (.inp 2) (.cons (.bv 0) .nil)) (.done [(2, (.bv 1))] none)))) (.exit 1))
@[simp] theorem h50_2_wp {P : Program} {F : PF P} {Q : EX → List Value → World → Prop} {env : List Value} {w : World} : h50_2.wp F Q env w = HC.wp F (.seq (.reg (.eff (.bsl 21 2 1 #[(.int .i32 0)] [0, 1]) (.cons (.cst (.int .i32 115)) (.cons (.cst (.int .i32 115)) .nil)) (.eff (.app 84 84 21 1 4 (.int .i32 0)) (.cons (.inp 2) (.cons (.bv 0) .nil)) (.done [(2, (.bv 1))] none)))) (.exit 1)) Q env w := rfl
def h50_3 : HC := (.seq (.br (.chk none (.bin .eql) (.cons (.inp 5) (.cons (.cst (.int .i32 223)) .nil)) (.done [] (some (.op (.bin .eql) (.cons (.inp 5) (.cons (.cst (.int .i32 223)) .nil)))))) h50_2 .skip) h50_1)
@[simp] theorem h50_3_wp {P : Program} {F : PF P} {Q : EX → List Value → World → Prop} {env : List Value} {w : World} : h50_3.wp F Q env w = HC.wp F (.seq (.br (.chk none (.bin .eql) (.cons (.inp 5) (.cons (.cst (.int .i32 223)) .nil)) (.done [] (some (.op (.bin .eql) (.cons (.inp 5) (.cons (.cst (.int .i32 223)) .nil)))))) h50_2 .skip) h50_1) Q env w := rfl
def h50_4 : HC := (.seq (.reg (.chk none (.cal 44) (.cons (.inp 0) (.cons (.inp 3) (.cons (.inp 4) .nil))) (.done [(5, (.op (.cal 44) (.cons (.inp 0) (.cons (.inp 3) (.cons (.inp 4) .nil)))))] none))) h50_3)
@[simp] theorem h50_4_wp {P : Program} {F : PF P} {Q : EX → List Value → World → Prop} {env : List Value} {w : World} : h50_4.wp F Q env w = HC.wp F (.seq (.reg (.chk none (.cal 44) (.cons (.inp 0) (.cons (.inp 3) (.cons (.inp 4) .nil))) (.done [(5, (.op (.cal 44) (.cons (.inp 0) (.cons (.inp 3) (.cons (.inp 4) .nil)))))] none))) h50_3) Q env w := rfl
def h50_5 : HC := (.seq (.reg (.chk none (.ext 1) (.cons (.inp 7) .nil) (.chk none (.ext 2) (.cons (.inp 7) .nil) (.done [(3, (.op (.ext 1) (.cons (.inp 7) .nil))), (4, (.op (.ext 2) (.cons (.inp 7) .nil)))] none)))) h50_4)
@[simp] theorem h50_5_wp {P : Program} {F : PF P} {Q : EX → List Value → World → Prop} {env : List Value} {w : World} : h50_5.wp F Q env w = HC.wp F (.seq (.reg (.chk none (.ext 1) (.cons (.inp 7) .nil) (.chk none (.ext 2) (.cons (.inp 7) .nil) (.done [(3, (.op (.ext 1) (.cons (.inp 7) .nil))), (4, (.op (.ext 2) (.cons (.inp 7) .nil)))] none)))) h50_4) Q env w := rfl
def h50_6 : HC := (.block 1 h50_5)
@[simp] theorem h50_6_wp {P : Program} {F : PF P} {Q : EX → List Value → World → Prop} {env : List Value} {w : World} : h50_6.wp F Q env w = HC.wp F (.block 1 h50_5) Q env w := rfl
def h50_7 : HC := (.seq (.br (.eff (.nxt true 0) (.cons (.inp 6) .nil) (.chk none (.ext 0) (.cons (.bv 0) .nil) (.done [(7, (.bv 0))] (some (.op (.ext 0) (.cons (.bv 0) .nil)))))) .skip (.exit 0)) h50_6)
@[simp] theorem h50_7_wp {P : Program} {F : PF P} {Q : EX → List Value → World → Prop} {env : List Value} {w : World} : h50_7.wp F Q env w = HC.wp F (.seq (.br (.eff (.nxt true 0) (.cons (.inp 6) .nil) (.chk none (.ext 0) (.cons (.bv 0) .nil) (.done [(7, (.bv 0))] (some (.op (.ext 0) (.cons (.bv 0) .nil)))))) .skip (.exit 0)) h50_6) Q env w := rfl
def h50_8 : HC := (.loop h50_7)
@[simp] theorem h50_8_wp {P : Program} {F : PF P} {Q : EX → List Value → World → Prop} {env : List Value} {w : World} : h50_8.wp F Q env w = HC.wp F (.loop h50_7) Q env w := rfl
def h50_9 : HC := (.seq (.block 0 h50_8) h50_0)
@[simp] theorem h50_9_wp {P : Program} {F : PF P} {Q : EX → List Value → World → Prop} {env : List Value} {w : World} : h50_9.wp F Q env w = HC.wp F (.seq (.block 0 h50_8) h50_0) Q env w := rfl
def h50_10 : HC := (.seq (.reg (.eff (.rngS 9) (.cons (.inp 0) .nil) (.done [(6, (.bv 0))] none))) h50_9)
@[simp] theorem h50_10_wp {P : Program} {F : PF P} {Q : EX → List Value → World → Prop} {env : List Value} {w : World} : h50_10.wp F Q env w = HC.wp F (.seq (.reg (.eff (.rngS 9) (.cons (.inp 0) .nil) (.done [(6, (.bv 0))] none))) h50_9) Q env w := rfl
def h50_11 : HC := (.seq (.reg (.chk none .lenS (.cons (.inp 0) .nil) (.eff (.mks 84 21 1 4 (.int .i32 0)) (.cons (.cst (.int .i64 0)) (.cons (.op .lenS (.cons (.inp 0) .nil)) .nil)) (.done [(2, (.bv 0))] none)))) h50_10)
@[simp] theorem h50_11_wp {P : Program} {F : PF P} {Q : EX → List Value → World → Prop} {env : List Value} {w : World} : h50_11.wp F Q env w = HC.wp F (.seq (.reg (.chk none .lenS (.cons (.inp 0) .nil) (.eff (.mks 84 21 1 4 (.int .i32 0)) (.cons (.cst (.int .i64 0)) (.cons (.op .lenS (.cons (.inp 0) .nil)) .nil)) (.done [(2, (.bv 0))] none)))) h50_10) Q env w := rfl
def l50 : Lifted := ⟨[0, 2, 3, 4, 5, 6, 11, 12], 31, [.slot 1], (.seq (.reg (.done [(1, (.cst (.slice none 0 0)))] none)) h50_11)⟩
theorem l50_ok : liftFn F4 50 400 = some l50 := by kernel_rfl


theorem rfold_spec (u : Int) (w0 w : World) (A : Asn) (hu : 0 ≤ u ∧ u < 2097408) (s : St w0 A w) :
    CallW Try.prog 97 [.int .i64 u] (fun r w' => ∃ b, r = .slice (some ⟨b, 0, none⟩) (foldU u).length (foldU u).length ∧ St w0 (A * pt b (.cells (ints (foldU u)).toArray 3 (0, 0))) w') w := by
  have fin : ∀ x b w', foldU u = [x] → St w0 (A * pt b (.cells #[.int .i64 x] 3 (0, 0))) w' →
      ∃ b', (b = b' ∧ 1 = (foldU u).length) ∧ St w0 (A * pt b' (.cells (ints (foldU u)).toArray 3 (0, 0))) w' := by
    intro x b w' h s
    rw [h]
    exact ⟨b, ⟨rfl, rfl⟩, s⟩
  refine callW_of_lift l97_ok (by simp [l97]) ?_
  simp [l97]
  refine cndI (fun h1 => ?_) (fun h1 => ?_)
  · simp at h1
    subst h1
    simp
    refine eff_bsl2 s rfl rfl ?_
    intro b w1 s1
    simp
    exact ⟨b, ⟨rfl, rfl⟩, s1⟩
  simp at h1
  simp
  refine cndI (fun h2 => ?_) (fun h2 => ?_)
  · simp at h2
    subst h2
    simp
    refine eff_bsl1 s rfl ?_
    intro b w1 s1
    simp
    exact fin _ b w1 (by decide) s1
  simp at h2
  simp
  refine cndI (fun h3 => ?_) (fun h3 => ?_)
  · simp at h3
    subst h3
    simp
    refine eff_bsl1 s rfl ?_
    intro b w1 s1
    simp
    exact fin _ b w1 (by decide) s1
  simp at h3
  simp
  refine cndI (fun h4 => ?_) (fun h4 => ?_)
  · simp at h4
    simp
    refine eff_bsl1 s rfl ?_
    intro b w1 s1
    simp
    exact fin _ b w1 (by rcases h4 with rfl | rfl <;> decide) s1
  simp at h4
  simp
  refine cndI (fun h5 => ?_) (fun h5 => ?_)
  · simp [inF] at h5
    simp
    try simp (disch := omega) only [wrap64]
    refine eff_bsl1 s rfl ?_
    intro b w1 s1
    simp
    exact fin _ b w1 (by unfold foldU foldF; rw [if_neg h1, if_pos (by omega)]) s1
  simp [inF] at h5
  simp
  refine eff_bsl1 s rfl ?_
  intro b w1 s1
  simp
  exact fin _ b w1 (by unfold foldU foldF; rw [if_neg h1, if_neg (by omega), if_neg h2, if_neg h3]) s1
theorem rfolded_spec (l : List UInt8) (w0 w : World) (A : Asn) (hl : l.length ≤ 1048576) (s : St w0 A w) :
    CallW Try.prog 92 [.string (mk l)] (fun r w' => St w0 (A * own 3 1 r (foldedF l).length (ints (foldedF l))) w') w := by
  refine callW_of_lift l92_ok (by simp [l92]) ?_
  simp [l92]
  refine eff_call ((units_spec l w0 w A hl s).mono ?_)
  rintro r w1 ⟨v1, v2, rfl, s1⟩
  obtain ⟨a1, c1, rfl, hc1, hn1⟩ := s1.swap.own_val
  have hul := units_len l
  simp
  refine loopI (fun env w' => ∃ (i : Nat) (v : Value), env = [.string (mk l), .slice none 0 0, .slice a1 (units l).length c1, v, .int .i64 i] ∧ i ≤ (units l).length ∧
      St w0 (A * own 3 1 (.slice a1 (units l).length c1) (units l).length (ints ((units l).map (·.1))) * own 3 1 v (foldAll ((units l).take i)).length (ints (foldAll ((units l).take i)))) w')
    (fun env _ => (units l).length - slotN env 4) ⟨0, _, rfl, by omega, by simpa [foldAll, ints] using s1.drop.own_nil 3 1⟩ ?_
  rintro LQ env w' ⟨i, v, rfl, hi, s'⟩ hN hE hR
  simp
  refine cndI (fun h => ?_) (fun h => ?_)
  · simp at h
    obtain ⟨g1, c1', e1, _, hcell⟩ := s'.swap.own_at (by omega)
    cases e1
    have hui := hcell i (.int .i64 (units l)[i].1) (by simp [ints, h])
    simp
    refine ⟨h, eff_ldc hui ?_⟩
    simp
    have hub := units_at l h
    refine eff_call ((rfold_spec _ w0 _ _ hub s').mono ?_)
    rintro r w2 ⟨b, rfl, s2⟩
    have hfl := foldAll_len ((units l).take i)
    rw [List.length_take] at hfl
    have hfu := (foldU_len (units l)[i].1).1
    simp
    refine eff_app (n := (foldAll ((units l).take i)).length) (m := (foldU (units l)[i].1).length) (news := ints (foldU (units l)[i].1)) s2.swap (by simp [ints]) s2.cells_look (ints_one _) (by decide) rfl (by unfold maxLen; omega) (by omega) ?_
    intro v' w3 s3
    simp
    try simp (disch := omega) only [wrap64]
    refine hN _ _ ⟨i + 1, v', by simp, h, ?_⟩ (by simp [slotN]; omega)
    rw [List.take_succ_eq_append_getElem h, foldAll_snoc]
    simpa [ints] using s3.swap.drop
  · simp at h
    simp
    refine hE _ _ _ ?_
    simp
    have : i = (units l).length := by omega
    subst this
    rw [List.take_length] at s'
    exact s'.swap.drop
/-- how far a walk over a text has come -/
def iterN (w : World) (b : Nat) : Nat := match w.heap[b]? with
  | some (.stringIter _ p) => p
  | _ => 0
theorem iterN_eq {w0 w : World} {F : Asn} {b p : Nat} {x : ByteArray} (s : St w0 (F * pt b (.stringIter x p)) w) : iterN w b = p := by unfold iterN; rw [s.look]
theorem folded_spec (l : List UInt8) (w0 w : World) (A : Asn) (hl : l.length ≤ 1048576) (s : St w0 A w) :
    CallW Try.prog 50 [.string (mk l)] (fun r w' => St w0 (A * own 21 1 r (foldedF l).length (ints32 (foldedF l))) w') w := by
  have hul := units_len l
  refine callW_of_lift l50_ok (by simp [l50]) ?_
  simp [l50]
  refine eff_mks (l := 0) (c := l.length) s (by omega) (by unfold maxLen; omega) (by omega) rfl ?_
  intro v w1 s1
  simp
  refine eff_rngS s1 ?_
  intro b w2 s2
  simp
  refine loopI (fun env w' => ∃ (i : Nat) (done : List (Int × Nat)) (v x y z t : Value), env = [.string (mk l), .slice none 0 0, v, x, y, z, .pointer (some ⟨b, 0, none⟩), t] ∧
      i ≤ l.length ∧ units l = done ++ units (l.drop i) ∧ St w0 (A * own 21 1 v (foldAll done).length (ints32 (foldAll done)) * pt b (.stringIter (mk l) i)) w')
    (fun _ w => l.length - iterN w b) ⟨0, [], _, _, _, _, _, rfl, by omega, by simp, by simpa [foldAll, ints32] using s2⟩ ?_
  rintro LQ env w' ⟨i, done, v, x, y, z, t, rfl, hi, hu, s'⟩ hN hE hR
  simp
  refine eff_nxtS s' (fun h w2 s2 => ?_) (fun h => ?_)
  · simp at h
    have hle := oneF_le (l := l) (i := i) h
    have hob := oneF_bd (l := l.drop i) (by simp; omega)
    rw [decode_decL, decL_oneF _ (by simp; omega)] at s2
    have hstep := units_step hu h
    rw [decode_decL, decL_oneF _ (by simp; omega)]
    simp
    refine ⟨⟨hl, h⟩, ?_⟩
    have hdl : done.length + 1 ≤ l.length := by rw [hstep] at hul; simp at hul; omega
    have hfl := foldAll_len done
    refine cndI (fun h1 => ?_) (fun h1 => ?_)
    · simp at h1
      simp
      refine eff_bsl2 s2.swap rfl rfl ?_
      intro b2 w3 s3
      simp
      refine eff_app (n := (foldAll done).length) (m := 2) (news := [.int .i32 115, .int .i32 115]) s3.swap rfl s3.cells_look (by simp [Value.oneCell']) (by decide) rfl (by unfold maxLen; omega) (by omega) ?_
      intro v' w4 s4
      simp
      refine hN _ _ ⟨i + (oneF (l.drop i)).2, done ++ [oneF (l.drop i)], v', _, _, _, _, by simp; exact ⟨rfl, rfl, rfl, rfl⟩, hle.1, hstep, ?_⟩ ?_
      · rw [foldAll_snoc, foldU, if_pos h1]
        simpa [ints32] using s4.swap.drop.swap
      · rw [iterN_eq s', iterN_eq s4.swap.drop.swap]; omega
    · simp at h1
      simp
      refine ⟨by omega, ?_⟩
      refine eff_bsl1 s2.swap rfl ?_
      intro b2 w3 s3
      simp
      refine eff_app (n := (foldAll done).length) (m := 1) (news := [.int .i32 (foldF (oneF (l.drop i)).1)]) s3.swap rfl s3.cells_look (by simp [Value.oneCell']) (by decide) rfl (by unfold maxLen; omega) (by omega) ?_
      intro v' w4 s4
      simp
      refine hN _ _ ⟨i + (oneF (l.drop i)).2, done ++ [oneF (l.drop i)], v', _, _, _, _, by simp; exact ⟨rfl, rfl, rfl, rfl⟩, hle.1, hstep, ?_⟩ ?_
      · rw [foldAll_snoc, foldU, if_neg h1]
        simpa [ints32] using s4.swap.drop.swap
      · rw [iterN_eq s', iterN_eq s4.swap.drop.swap]; omega
  · simp at h
    simp
    refine hE _ _ _ ?_
    simp
    have : i = l.length := by omega
    subst this
    rw [List.drop_length, units_nil, List.append_nil] at hu
    rw [foldedF, hu]
    exact s'.drop
end Go.HL.Nm

namespace Go.HL.Nm
open Go.HL Go.Proofs
set_option maxRecDepth 4000
set_option linter.unusedSimpArgs false
set_option linter.unusedVariables false
/-- a rune or a bad byte -/
def okU (u : Int) : Prop := (0 ≤ u ∧ u < 55296) ∨ (57344 ≤ u ∧ u ≤ 1114111) ∨ (2097152 ≤ u ∧ u < 2097408)
/-- the bytes of a unit, as_ numbers -/
def encN (n : Nat) : List Nat :=
  if 2097152 ≤ n then [n - 2097152]
  else if n < 128 then [n]
  else if n < 2048 then [192 + n / 64, 128 + n % 64]
  else if n < 65536 then [224 + n / 4096, 128 + n / 64 % 64, 128 + n % 64]
  else [240 + n / 262144, 128 + n / 4096 % 64, 128 + n / 64 % 64, 128 + n % 64]
def encU (u : Int) : List UInt8 := (encN u.toNat).map UInt8.ofNat
def encAll (us : List Int) : List UInt8 := us.flatMap encU
theorem encN_len (n : Nat) : (encN n).length ≤ 4 := by unfold encN; (repeat' split) <;> simp
theorem encU_len (u : Int) : (encU u).length ≤ 4 := by simp only [encU, List.length_map]; exact encN_len _
theorem encAll_len : ∀ us : List Int, (encAll us).length ≤ 4 * us.length
  | [] => by simp [encAll]
  | u :: us => by
    have := encAll_len us
    have h1 := encU_len u
    simp only [encAll, List.flatMap_cons, List.length_append, List.length_cons] at this ⊢
    omega
theorem encAll_snoc (us : List Int) (u : Int) : encAll (us ++ [u]) = encAll us ++ encU u := by simp [encAll]
theorem bytesV_one (l : List UInt8) : ∀ u ∈ bytesV l, u.oneCell' = true := by intro u h; simp only [bytesV, List.mem_map] at h; obtain ⟨x, _, rfl⟩ := h; rfl
theorem bytesV_app (a b : List UInt8) : bytesV (a ++ b) = bytesV a ++ bytesV b := by simp [bytesV]
theorem bytesV_len (a : List UInt8) : (bytesV a).length = a.length := by simp [bytesV]
/-- the values of bytes that are numbers -/
theorem bytesV_nat (l : List Nat) (h : ∀ n ∈ l, n < 256) : bytesV (l.map UInt8.ofNat) = l.map fun n => .int .u8 (n : Int) := by
  simp only [bytesV, List.map_map]
  refine List.map_congr_left fun n hn => ?_
  have := h n hn
  simp
  omega
theorem encN_lt (n : Nat) (h : okU n) : ∀ b ∈ encN n, b < 256 := by
  have hn : n ≤ 1114111 ∨ (2097152 ≤ n ∧ n < 2097408) := by unfold okU at h; omega
  unfold encN
  repeat' split
  all_goals (intro b hb; simp at hb; omega)
theorem encV (n : Nat) (h : okU n) : bytesV (encU n) = (encN n).map fun b => .int .u8 (b : Int) := by
  have := bytesV_nat (encN n) (encN_lt n h)
  simpa [encU] using this
-- bazaar/bazaarref04.bytes
def h96_0 : HC := (.seq (.reg (.chk none (.bin .quo) (.cons (.inp 0) (.cons (.cst (.int .i64 262144)) .nil)) (.chk none (.bin .add) (.cons (.cst (.int .i64 240)) (.cons (.op (.bin .quo) (.cons (.inp 0) (.cons (.cst (.int .i64 262144)) .nil))) .nil)) (.chk none (.convI .u8) (.cons (.op (.bin .add) (.cons (.cst (.int .i64 240)) (.cons (.op (.bin .quo) (.cons (.inp 0) (.cons (.cst (.int .i64 262144)) .nil))) .nil))) .nil) (.chk none (.bin .quo) (.cons (.inp 0) (.cons (.cst (.int .i64 4096)) .nil)) (.chk none (.bin .rem) (.cons (.op (.bin .quo) (.cons (.inp 0) (.cons (.cst (.int .i64 4096)) .nil))) (.cons (.cst (.int .i64 64)) .nil)) (.chk none (.bin .add) (.cons (.cst (.int .i64 128)) (.cons (.op (.bin .rem) (.cons (.op (.bin .quo) (.cons (.inp 0) (.cons (.cst (.int .i64 4096)) .nil))) (.cons (.cst (.int .i64 64)) .nil))) .nil)) (.chk none (.convI .u8) (.cons (.op (.bin .add) (.cons (.cst (.int .i64 128)) (.cons (.op (.bin .rem) (.cons (.op (.bin .quo) (.cons (.inp 0) (.cons (.cst (.int .i64 4096)) .nil))) (.cons (.cst (.int .i64 64)) .nil))) .nil))) .nil) (.chk none (.bin .quo) (.cons (.inp 0) (.cons (.cst (.int .i64 64)) .nil)) (.chk none (.bin .rem) (.cons (.op (.bin .quo) (.cons (.inp 0) (.cons (.cst (.int .i64 64)) .nil))) (.cons (.cst (.int .i64 64)) .nil)) (.chk none (.bin .add) (.cons (.cst (.int .i64 128)) (.cons (.op (.bin .rem) (.cons (.op (.bin .quo) (.cons (.inp 0) (.cons (.cst (.int .i64 64)) .nil))) (.cons (.cst (.int .i64 64)) .nil))) .nil)) (.chk none (.convI .u8) (.cons (.op (.bin .add) (.cons (.cst (.int .i64 128)) (.cons (.op (.bin .rem) (.cons (.op (.bin .quo) (.cons (.inp 0) (.cons (.cst (.int .i64 64)) .nil))) (.cons (.cst (.int .i64 64)) .nil))) .nil))) .nil) (.chk none (.bin .rem) (.cons (.inp 0) (.cons (.cst (.int .i64 64)) .nil)) (.chk none (.bin .add) (.cons (.cst (.int .i64 128)) (.cons (.op (.bin .rem) (.cons (.inp 0) (.cons (.cst (.int .i64 64)) .nil))) .nil)) (.chk none (.convI .u8) (.cons (.op (.bin .add) (.cons (.cst (.int .i64 128)) (.cons (.op (.bin .rem) (.cons (.inp 0) (.cons (.cst (.int .i64 64)) .nil))) .nil))) .nil) (.eff (.bsl 5 4 1 #[(.int .u8 0)] [0, 1, 2, 3]) (.cons (.op (.convI .u8) (.cons (.op (.bin .add) (.cons (.cst (.int .i64 240)) (.cons (.op (.bin .quo) (.cons (.inp 0) (.cons (.cst (.int .i64 262144)) .nil))) .nil))) .nil)) (.cons (.op (.convI .u8) (.cons (.op (.bin .add) (.cons (.cst (.int .i64 128)) (.cons (.op (.bin .rem) (.cons (.op (.bin .quo) (.cons (.inp 0) (.cons (.cst (.int .i64 4096)) .nil))) (.cons (.cst (.int .i64 64)) .nil))) .nil))) .nil)) (.cons (.op (.convI .u8) (.cons (.op (.bin .add) (.cons (.cst (.int .i64 128)) (.cons (.op (.bin .rem) (.cons (.op (.bin .quo) (.cons (.inp 0) (.cons (.cst (.int .i64 64)) .nil))) (.cons (.cst (.int .i64 64)) .nil))) .nil))) .nil)) (.cons (.op (.convI .u8) (.cons (.op (.bin .add) (.cons (.cst (.int .i64 128)) (.cons (.op (.bin .rem) (.cons (.inp 0) (.cons (.cst (.int .i64 64)) .nil))) .nil))) .nil)) .nil)))) (.done [(1, (.bv 0))] none))))))))))))))))) .ret)
@[simp] theorem h96_0_wp {P : Program} {F : PF P} {Q : EX → List Value → World → Prop} {env : List Value} {w : World} : h96_0.wp F Q env w = HC.wp F (.seq (.reg (.chk none (.bin .quo) (.cons (.inp 0) (.cons (.cst (.int .i64 262144)) .nil)) (.chk none (.bin .add) (.cons (.cst (.int .i64 240)) (.cons (.op (.bin .quo) (.cons (.inp 0) (.cons (.cst (.int .i64 262144)) .nil))) .nil)) (.chk none (.convI .u8) (.cons (.op (.bin .add) (.cons (.cst (.int .i64 240)) (.cons (.op (.bin .quo) (.cons (.inp 0) (.cons (.cst (.int .i64 262144)) .nil))) .nil))) .nil) (.chk none (.bin .quo) (.cons (.inp 0) (.cons (.cst (.int .i64 4096)) .nil)) (.chk none (.bin .rem) (.cons (.op (.bin .quo) (.cons (.inp 0) (.cons (.cst (.int .i64 4096)) .nil))) (.cons (.cst (.int .i64 64)) .nil)) (.chk none (.bin .add) (.cons (.cst (.int .i64 128)) (.cons (.op (.bin .rem) (.cons (.op (.bin .quo) (.cons (.inp 0) (.cons (.cst (.int .i64 4096)) .nil))) (.cons (.cst (.int .i64 64)) .nil))) .nil)) (.chk none (.convI .u8) (.cons (.op (.bin .add) (.cons (.cst (.int .i64 128)) (.cons (.op (.bin .rem) (.cons (.op (.bin .quo) (.cons (.inp 0) (.cons (.cst (.int .i64 4096)) .nil))) (.cons (.cst (.int .i64 64)) .nil))) .nil))) .nil) (.chk none (.bin .quo) (.cons (.inp 0) (.cons (.cst (.int .i64 64)) .nil)) (.chk none (.bin .rem) (.cons (.op (.bin .quo) (.cons (.inp 0) (.cons (.cst (.int .i64 64)) .nil))) (.cons (.cst (.int .i64 64)) .nil)) (.chk none (.bin .add) (.cons (.cst (.int .i64 128)) (.cons (.op (.bin .rem) (.cons (.op (.bin .quo) (.cons (.inp 0) (.cons (.cst (.int .i64 64)) .nil))) (.cons (.cst (.int .i64 64)) .nil))) .nil)) (.chk none (.convI .u8) (.cons (.op (.bin .add) (.cons (.cst (.int .i64 128)) (.cons (.op (.bin .rem) (.cons (.op (.bin .quo) (.cons (.inp 0) (.cons (.cst (.int .i64 64)) .nil))) (.cons (.cst (.int .i64 64)) .nil))) .nil))) .nil) (.chk none (.bin .rem) (.cons (.inp 0) (.cons (.cst (.int .i64 64)) .nil)) (.chk none (.bin .add) (.cons (.cst (.int .i64 128)) (.cons (.op (.bin .rem) (.cons (.inp 0) (.cons (.cst (.int .i64 64)) .nil))) .nil)) (.chk none (.convI .u8) (.cons (.op (.bin .add) (.cons (.cst (.int .i64 128)) (.cons (.op (.bin .rem) (.cons (.inp 0) (.cons (.cst (.int .i64 64)) .nil))) .nil))) .nil) (.eff (.bsl 5 4 1 #[(.int .u8 0)] [0, 1, 2, 3]) (.cons (.op (.convI .u8) (.cons (.op (.bin .add) (.cons (.cst (.int .i64 240)) (.cons (.op (.bin .quo) (.cons (.inp 0) (.cons (.cst (.int .i64 262144)) .nil))) .nil))) .nil)) (.cons (.op (.convI .u8) (.cons (.op (.bin .add) (.cons (.cst (.int .i64 128)) (.cons (.op (.bin .rem) (.cons (.op (.bin .quo) (.cons (.inp 0) (.cons (.cst (.int .i64 4096)) .nil))) (.cons (.cst (.int .i64 64)) .nil))) .nil))) .nil)) (.cons (.op (.convI .u8) (.cons (.op (.bin .add) (.cons (.cst (.int .i64 128)) (.cons (.op (.bin .rem) (.cons (.op (.bin .quo) (.cons (.inp 0) (.cons (.cst (.int .i64 64)) .nil))) (.cons (.cst (.int .i64 64)) .nil))) .nil))) .nil)) (.cons (.op (.convI .u8) (.cons (.op (.bin .add) (.cons (.cst (.int .i64 128)) (.cons (.op (.bin .rem) (.cons (.inp 0) (.cons (.cst (.int .i64 64)) .nil))) .nil))) .nil)) .nil)))) (.done [(1, (.bv 0))] none))))))))))))))))) .ret) Q env w := rfl
def h96_1 : HC := (.seq (.reg (.chk none (.bin .sub) (.cons (.inp 0) (.cons (.cst (.int .i64 2097152)) .nil)) (.chk none (.convI .u8) (.cons (.op (.bin .sub) (.cons (.inp 0) (.cons (.cst (.int .i64 2097152)) .nil))) .nil) (.eff (.bsl 5 1 1 #[(.int .u8 0)] [0]) (.cons (.op (.convI .u8) (.cons (.op (.bin .sub) (.cons (.inp 0) (.cons (.cst (.int .i64 2097152)) .nil))) .nil)) .nil) (.done [(1, (.bv 0))] none))))) .ret)
@[simp] theorem h96_1_wp {P : Program} {F : PF P} {Q : EX → List Value → World → Prop} {env : List Value} {w : World} : h96_1.wp F Q env w = HC.wp F (.seq (.reg (.chk none (.bin .sub) (.cons (.inp 0) (.cons (.cst (.int .i64 2097152)) .nil)) (.chk none (.convI .u8) (.cons (.op (.bin .sub) (.cons (.inp 0) (.cons (.cst (.int .i64 2097152)) .nil))) .nil) (.eff (.bsl 5 1 1 #[(.int .u8 0)] [0]) (.cons (.op (.convI .u8) (.cons (.op (.bin .sub) (.cons (.inp 0) (.cons (.cst (.int .i64 2097152)) .nil))) .nil)) .nil) (.done [(1, (.bv 0))] none))))) .ret) Q env w := rfl
def h96_2 : HC := (.seq (.reg (.chk none (.convI .u8) (.cons (.inp 0) .nil) (.eff (.bsl 5 1 1 #[(.int .u8 0)] [0]) (.cons (.op (.convI .u8) (.cons (.inp 0) .nil)) .nil) (.done [(1, (.bv 0))] none)))) .ret)
@[simp] theorem h96_2_wp {P : Program} {F : PF P} {Q : EX → List Value → World → Prop} {env : List Value} {w : World} : h96_2.wp F Q env w = HC.wp F (.seq (.reg (.chk none (.convI .u8) (.cons (.inp 0) .nil) (.eff (.bsl 5 1 1 #[(.int .u8 0)] [0]) (.cons (.op (.convI .u8) (.cons (.inp 0) .nil)) .nil) (.done [(1, (.bv 0))] none)))) .ret) Q env w := rfl
def h96_3 : HC := (.seq (.reg (.chk none (.bin .quo) (.cons (.inp 0) (.cons (.cst (.int .i64 64)) .nil)) (.chk none (.bin .add) (.cons (.cst (.int .i64 192)) (.cons (.op (.bin .quo) (.cons (.inp 0) (.cons (.cst (.int .i64 64)) .nil))) .nil)) (.chk none (.convI .u8) (.cons (.op (.bin .add) (.cons (.cst (.int .i64 192)) (.cons (.op (.bin .quo) (.cons (.inp 0) (.cons (.cst (.int .i64 64)) .nil))) .nil))) .nil) (.chk none (.bin .rem) (.cons (.inp 0) (.cons (.cst (.int .i64 64)) .nil)) (.chk none (.bin .add) (.cons (.cst (.int .i64 128)) (.cons (.op (.bin .rem) (.cons (.inp 0) (.cons (.cst (.int .i64 64)) .nil))) .nil)) (.chk none (.convI .u8) (.cons (.op (.bin .add) (.cons (.cst (.int .i64 128)) (.cons (.op (.bin .rem) (.cons (.inp 0) (.cons (.cst (.int .i64 64)) .nil))) .nil))) .nil) (.eff (.bsl 5 2 1 #[(.int .u8 0)] [0, 1]) (.cons (.op (.convI .u8) (.cons (.op (.bin .add) (.cons (.cst (.int .i64 192)) (.cons (.op (.bin .quo) (.cons (.inp 0) (.cons (.cst (.int .i64 64)) .nil))) .nil))) .nil)) (.cons (.op (.convI .u8) (.cons (.op (.bin .add) (.cons (.cst (.int .i64 128)) (.cons (.op (.bin .rem) (.cons (.inp 0) (.cons (.cst (.int .i64 64)) .nil))) .nil))) .nil)) .nil)) (.done [(1, (.bv 0))] none))))))))) .ret)
@[simp] theorem h96_3_wp {P : Program} {F : PF P} {Q : EX → List Value → World → Prop} {env : List Value} {w : World} : h96_3.wp F Q env w = HC.wp F (.seq (.reg (.chk none (.bin .quo) (.cons (.inp 0) (.cons (.cst (.int .i64 64)) .nil)) (.chk none (.bin .add) (.cons (.cst (.int .i64 192)) (.cons (.op (.bin .quo) (.cons (.inp 0) (.cons (.cst (.int .i64 64)) .nil))) .nil)) (.chk none (.convI .u8) (.cons (.op (.bin .add) (.cons (.cst (.int .i64 192)) (.cons (.op (.bin .quo) (.cons (.inp 0) (.cons (.cst (.int .i64 64)) .nil))) .nil))) .nil) (.chk none (.bin .rem) (.cons (.inp 0) (.cons (.cst (.int .i64 64)) .nil)) (.chk none (.bin .add) (.cons (.cst (.int .i64 128)) (.cons (.op (.bin .rem) (.cons (.inp 0) (.cons (.cst (.int .i64 64)) .nil))) .nil)) (.chk none (.convI .u8) (.cons (.op (.bin .add) (.cons (.cst (.int .i64 128)) (.cons (.op (.bin .rem) (.cons (.inp 0) (.cons (.cst (.int .i64 64)) .nil))) .nil))) .nil) (.eff (.bsl 5 2 1 #[(.int .u8 0)] [0, 1]) (.cons (.op (.convI .u8) (.cons (.op (.bin .add) (.cons (.cst (.int .i64 192)) (.cons (.op (.bin .quo) (.cons (.inp 0) (.cons (.cst (.int .i64 64)) .nil))) .nil))) .nil)) (.cons (.op (.convI .u8) (.cons (.op (.bin .add) (.cons (.cst (.int .i64 128)) (.cons (.op (.bin .rem) (.cons (.inp 0) (.cons (.cst (.int .i64 64)) .nil))) .nil))) .nil)) .nil)) (.done [(1, (.bv 0))] none))))))))) .ret) Q env w := rfl
def h96_4 : HC := (.seq (.reg (.chk none (.bin .quo) (.cons (.inp 0) (.cons (.cst (.int .i64 4096)) .nil)) (.chk none (.bin .add) (.cons (.cst (.int .i64 224)) (.cons (.op (.bin .quo) (.cons (.inp 0) (.cons (.cst (.int .i64 4096)) .nil))) .nil)) (.chk none (.convI .u8) (.cons (.op (.bin .add) (.cons (.cst (.int .i64 224)) (.cons (.op (.bin .quo) (.cons (.inp 0) (.cons (.cst (.int .i64 4096)) .nil))) .nil))) .nil) (.chk none (.bin .quo) (.cons (.inp 0) (.cons (.cst (.int .i64 64)) .nil)) (.chk none (.bin .rem) (.cons (.op (.bin .quo) (.cons (.inp 0) (.cons (.cst (.int .i64 64)) .nil))) (.cons (.cst (.int .i64 64)) .nil)) (.chk none (.bin .add) (.cons (.cst (.int .i64 128)) (.cons (.op (.bin .rem) (.cons (.op (.bin .quo) (.cons (.inp 0) (.cons (.cst (.int .i64 64)) .nil))) (.cons (.cst (.int .i64 64)) .nil))) .nil)) (.chk none (.convI .u8) (.cons (.op (.bin .add) (.cons (.cst (.int .i64 128)) (.cons (.op (.bin .rem) (.cons (.op (.bin .quo) (.cons (.inp 0) (.cons (.cst (.int .i64 64)) .nil))) (.cons (.cst (.int .i64 64)) .nil))) .nil))) .nil) (.chk none (.bin .rem) (.cons (.inp 0) (.cons (.cst (.int .i64 64)) .nil)) (.chk none (.bin .add) (.cons (.cst (.int .i64 128)) (.cons (.op (.bin .rem) (.cons (.inp 0) (.cons (.cst (.int .i64 64)) .nil))) .nil)) (.chk none (.convI .u8) (.cons (.op (.bin .add) (.cons (.cst (.int .i64 128)) (.cons (.op (.bin .rem) (.cons (.inp 0) (.cons (.cst (.int .i64 64)) .nil))) .nil))) .nil) (.eff (.bsl 5 3 1 #[(.int .u8 0)] [0, 1, 2]) (.cons (.op (.convI .u8) (.cons (.op (.bin .add) (.cons (.cst (.int .i64 224)) (.cons (.op (.bin .quo) (.cons (.inp 0) (.cons (.cst (.int .i64 4096)) .nil))) .nil))) .nil)) (.cons (.op (.convI .u8) (.cons (.op (.bin .add) (.cons (.cst (.int .i64 128)) (.cons (.op (.bin .rem) (.cons (.op (.bin .quo) (.cons (.inp 0) (.cons (.cst (.int .i64 64)) .nil))) (.cons (.cst (.int .i64 64)) .nil))) .nil))) .nil)) (.cons (.op (.convI .u8) (.cons (.op (.bin .add) (.cons (.cst (.int .i64 128)) (.cons (.op (.bin .rem) (.cons (.inp 0) (.cons (.cst (.int .i64 64)) .nil))) .nil))) .nil)) .nil))) (.done [(1, (.bv 0))] none))))))))))))) .ret)
@[simp] theorem h96_4_wp {P : Program} {F : PF P} {Q : EX → List Value → World → Prop} {env : List Value} {w : World} : h96_4.wp F Q env w = HC.wp F (.seq (.reg (.chk none (.bin .quo) (.cons (.inp 0) (.cons (.cst (.int .i64 4096)) .nil)) (.chk none (.bin .add) (.cons (.cst (.int .i64 224)) (.cons (.op (.bin .quo) (.cons (.inp 0) (.cons (.cst (.int .i64 4096)) .nil))) .nil)) (.chk none (.convI .u8) (.cons (.op (.bin .add) (.cons (.cst (.int .i64 224)) (.cons (.op (.bin .quo) (.cons (.inp 0) (.cons (.cst (.int .i64 4096)) .nil))) .nil))) .nil) (.chk none (.bin .quo) (.cons (.inp 0) (.cons (.cst (.int .i64 64)) .nil)) (.chk none (.bin .rem) (.cons (.op (.bin .quo) (.cons (.inp 0) (.cons (.cst (.int .i64 64)) .nil))) (.cons (.cst (.int .i64 64)) .nil)) (.chk none (.bin .add) (.cons (.cst (.int .i64 128)) (.cons (.op (.bin .rem) (.cons (.op (.bin .quo) (.cons (.inp 0) (.cons (.cst (.int .i64 64)) .nil))) (.cons (.cst (.int .i64 64)) .nil))) .nil)) (.chk none (.convI .u8) (.cons (.op (.bin .add) (.cons (.cst (.int .i64 128)) (.cons (.op (.bin .rem) (.cons (.op (.bin .quo) (.cons (.inp 0) (.cons (.cst (.int .i64 64)) .nil))) (.cons (.cst (.int .i64 64)) .nil))) .nil))) .nil) (.chk none (.bin .rem) (.cons (.inp 0) (.cons (.cst (.int .i64 64)) .nil)) (.chk none (.bin .add) (.cons (.cst (.int .i64 128)) (.cons (.op (.bin .rem) (.cons (.inp 0) (.cons (.cst (.int .i64 64)) .nil))) .nil)) (.chk none (.convI .u8) (.cons (.op (.bin .add) (.cons (.cst (.int .i64 128)) (.cons (.op (.bin .rem) (.cons (.inp 0) (.cons (.cst (.int .i64 64)) .nil))) .nil))) .nil) (.eff (.bsl 5 3 1 #[(.int .u8 0)] [0, 1, 2]) (.cons (.op (.convI .u8) (.cons (.op (.bin .add) (.cons (.cst (.int .i64 224)) (.cons (.op (.bin .quo) (.cons (.inp 0) (.cons (.cst (.int .i64 4096)) .nil))) .nil))) .nil)) (.cons (.op (.convI .u8) (.cons (.op (.bin .add) (.cons (.cst (.int .i64 128)) (.cons (.op (.bin .rem) (.cons (.op (.bin .quo) (.cons (.inp 0) (.cons (.cst (.int .i64 64)) .nil))) (.cons (.cst (.int .i64 64)) .nil))) .nil))) .nil)) (.cons (.op (.convI .u8) (.cons (.op (.bin .add) (.cons (.cst (.int .i64 128)) (.cons (.op (.bin .rem) (.cons (.inp 0) (.cons (.cst (.int .i64 64)) .nil))) .nil))) .nil)) .nil))) (.done [(1, (.bv 0))] none))))))))))))) .ret) Q env w := rfl
def h96_5 : HC := (.br (.chk none (.bin .lss) (.cons (.inp 0) (.cons (.cst (.int .i64 65536)) .nil)) (.done [] (some (.op (.bin .lss) (.cons (.inp 0) (.cons (.cst (.int .i64 65536)) .nil)))))) h96_4 .skip)
@[simp] theorem h96_5_wp {P : Program} {F : PF P} {Q : EX → List Value → World → Prop} {env : List Value} {w : World} : h96_5.wp F Q env w = HC.wp F (.br (.chk none (.bin .lss) (.cons (.inp 0) (.cons (.cst (.int .i64 65536)) .nil)) (.done [] (some (.op (.bin .lss) (.cons (.inp 0) (.cons (.cst (.int .i64 65536)) .nil)))))) h96_4 .skip) Q env w := rfl
def h96_6 : HC := (.br (.chk none (.bin .lss) (.cons (.inp 0) (.cons (.cst (.int .i64 2048)) .nil)) (.done [] (some (.op (.bin .lss) (.cons (.inp 0) (.cons (.cst (.int .i64 2048)) .nil)))))) h96_3 h96_5)
@[simp] theorem h96_6_wp {P : Program} {F : PF P} {Q : EX → List Value → World → Prop} {env : List Value} {w : World} : h96_6.wp F Q env w = HC.wp F (.br (.chk none (.bin .lss) (.cons (.inp 0) (.cons (.cst (.int .i64 2048)) .nil)) (.done [] (some (.op (.bin .lss) (.cons (.inp 0) (.cons (.cst (.int .i64 2048)) .nil)))))) h96_3 h96_5) Q env w := rfl
def h96_7 : HC := (.br (.chk none (.bin .lss) (.cons (.inp 0) (.cons (.cst (.int .i64 128)) .nil)) (.done [] (some (.op (.bin .lss) (.cons (.inp 0) (.cons (.cst (.int .i64 128)) .nil)))))) h96_2 h96_6)
@[simp] theorem h96_7_wp {P : Program} {F : PF P} {Q : EX → List Value → World → Prop} {env : List Value} {w : World} : h96_7.wp F Q env w = HC.wp F (.br (.chk none (.bin .lss) (.cons (.inp 0) (.cons (.cst (.int .i64 128)) .nil)) (.done [] (some (.op (.bin .lss) (.cons (.inp 0) (.cons (.cst (.int .i64 128)) .nil)))))) h96_2 h96_6) Q env w := rfl
def h96_8 : HC := (.br (.chk none (.bin .geq) (.cons (.inp 0) (.cons (.cst (.int .i64 2097152)) .nil)) (.done [] (some (.op (.bin .geq) (.cons (.inp 0) (.cons (.cst (.int .i64 2097152)) .nil)))))) h96_1 h96_7)
@[simp] theorem h96_8_wp {P : Program} {F : PF P} {Q : EX → List Value → World → Prop} {env : List Value} {w : World} : h96_8.wp F Q env w = HC.wp F (.br (.chk none (.bin .geq) (.cons (.inp 0) (.cons (.cst (.int .i64 2097152)) .nil)) (.done [] (some (.op (.bin .geq) (.cons (.inp 0) (.cons (.cst (.int .i64 2097152)) .nil)))))) h96_1 h96_7) Q env w := rfl
def h96_9 : HC := (.seq (.block 0 h96_8) h96_0)
@[simp] theorem h96_9_wp {P : Program} {F : PF P} {Q : EX → List Value → World → Prop} {env : List Value} {w : World} : h96_9.wp F Q env w = HC.wp F (.seq (.block 0 h96_8) h96_0) Q env w := rfl
def l96 : Lifted := ⟨[0, 2], 64, [.slot 1], (.seq (.reg (.done [(1, (.cst (.slice none 0 0)))] none)) h96_9)⟩
theorem l96_ok : liftFn F4 96 400 = some l96 := by kernel_rfl

-- bazaar/bazaarref04.Text
def h91_0 : HC := (.seq (.reg (.eff (.b2s 102 9) (.cons (.inp 2) .nil) (.done [(1, (.bv 0))] none))) .ret)
@[simp] theorem h91_0_wp {P : Program} {F : PF P} {Q : EX → List Value → World → Prop} {env : List Value} {w : World} : h91_0.wp F Q env w = HC.wp F (.seq (.reg (.eff (.b2s 102 9) (.cons (.inp 2) .nil) (.done [(1, (.bv 0))] none))) .ret) Q env w := rfl
def h91_1 : HC := (.reg (.chk none (.bin .add) (.cons (.inp 3) (.cons (.cst (.int .i64 1)) .nil)) (.done [(3, (.op (.bin .add) (.cons (.inp 3) (.cons (.cst (.int .i64 1)) .nil))))] none)))
@[simp] theorem h91_1_wp {P : Program} {F : PF P} {Q : EX → List Value → World → Prop} {env : List Value} {w : World} : h91_1.wp F Q env w = HC.wp F (.reg (.chk none (.bin .add) (.cons (.inp 3) (.cons (.cst (.int .i64 1)) .nil)) (.done [(3, (.op (.bin .add) (.cons (.inp 3) (.cons (.cst (.int .i64 1)) .nil))))] none))) Q env w := rfl
def h91_2 : HC := (.reg (.chk none (.idxL 1) (.cons (.inp 0) (.cons (.inp 3) .nil)) (.eff (.ld false 1) (.cons (.op (.idxL 1) (.cons (.inp 0) (.cons (.inp 3) .nil))) .nil) (.eff (.call 96) (.cons (.bv 0) .nil) (.eff (.app 102 102 5 1 1 (.int .u8 0)) (.cons (.inp 2) (.cons (.bv 1) .nil)) (.done [(2, (.bv 2))] none))))))
@[simp] theorem h91_2_wp {P : Program} {F : PF P} {Q : EX → List Value → World → Prop} {env : List Value} {w : World} : h91_2.wp F Q env w = HC.wp F (.reg (.chk none (.idxL 1) (.cons (.inp 0) (.cons (.inp 3) .nil)) (.eff (.ld false 1) (.cons (.op (.idxL 1) (.cons (.inp 0) (.cons (.inp 3) .nil))) .nil) (.eff (.call 96) (.cons (.bv 0) .nil) (.eff (.app 102 102 5 1 1 (.int .u8 0)) (.cons (.inp 2) (.cons (.bv 1) .nil)) (.done [(2, (.bv 2))] none)))))) Q env w := rfl
def h91_3 : HC := (.seq (.block 1 h91_2) h91_1)
@[simp] theorem h91_3_wp {P : Program} {F : PF P} {Q : EX → List Value → World → Prop} {env : List Value} {w : World} : h91_3.wp F Q env w = HC.wp F (.seq (.block 1 h91_2) h91_1) Q env w := rfl
def h91_4 : HC := (.seq (.br (.chk none .lenL (.cons (.inp 0) .nil) (.chk none (.bin .lss) (.cons (.inp 3) (.cons (.op .lenL (.cons (.inp 0) .nil)) .nil)) (.done [] (some (.op (.bin .lss) (.cons (.inp 3) (.cons (.op .lenL (.cons (.inp 0) .nil)) .nil))))))) .skip (.exit 0)) h91_3)
@[simp] theorem h91_4_wp {P : Program} {F : PF P} {Q : EX → List Value → World → Prop} {env : List Value} {w : World} : h91_4.wp F Q env w = HC.wp F (.seq (.br (.chk none .lenL (.cons (.inp 0) .nil) (.chk none (.bin .lss) (.cons (.inp 3) (.cons (.op .lenL (.cons (.inp 0) .nil)) .nil)) (.done [] (some (.op (.bin .lss) (.cons (.inp 3) (.cons (.op .lenL (.cons (.inp 0) .nil)) .nil))))))) .skip (.exit 0)) h91_3) Q env w := rfl
def h91_5 : HC := (.loop h91_4)
@[simp] theorem h91_5_wp {P : Program} {F : PF P} {Q : EX → List Value → World → Prop} {env : List Value} {w : World} : h91_5.wp F Q env w = HC.wp F (.loop h91_4) Q env w := rfl
def h91_6 : HC := (.seq (.block 0 h91_5) h91_0)
@[simp] theorem h91_6_wp {P : Program} {F : PF P} {Q : EX → List Value → World → Prop} {env : List Value} {w : World} : h91_6.wp F Q env w = HC.wp F (.seq (.block 0 h91_5) h91_0) Q env w := rfl
def h91_7 : HC := (.seq (.reg (.done [(3, (.cst (.int .i64 0)))] none)) h91_6)
@[simp] theorem h91_7_wp {P : Program} {F : PF P} {Q : EX → List Value → World → Prop} {env : List Value} {w : World} : h91_7.wp F Q env w = HC.wp F (.seq (.reg (.done [(3, (.cst (.int .i64 0)))] none)) h91_6) Q env w := rfl
def h91_8 : HC := (.seq (.reg (.done [(2, (.cst (.slice none 0 0)))] none)) h91_7)
@[simp] theorem h91_8_wp {P : Program} {F : PF P} {Q : EX → List Value → World → Prop} {env : List Value} {w : World} : h91_8.wp F Q env w = HC.wp F (.seq (.reg (.done [(2, (.cst (.slice none 0 0)))] none)) h91_7) Q env w := rfl
def l91 : Lifted := ⟨[0, 2, 3, 4], 20, [.slot 1], (.seq (.reg (.done [(1, (.cst (.string ⟨#[]⟩)))] none)) h91_8)⟩
theorem l91_ok : liftFn F4 91 400 = some l91 := by kernel_rfl


theorem rbytes_spec (n : Nat) (w0 w : World) (A : Asn) (hu : okU n) (s : St w0 A w) :
    CallW Try.prog 96 [.int .i64 n] (fun r w' => ∃ b, r = .slice (some ⟨b, 0, none⟩) (encU n).length (encU n).length ∧ St w0 (A * pt b (.cells (bytesV (encU n)).toArray 5 (0, 0))) w') w := by
  have hn : n ≤ 1114111 ∨ (2097152 ≤ n ∧ n < 2097408) := by unfold okU at hu; omega
  have hlen : (encU n).length = (encN n).length := by simp [encU]
  rw [encV n hu, hlen]
  have tm : ∀ x : Int, 0 ≤ x → x.tmod 64 = x % 64 := fun x h => Int.tmod_eq_emod_of_nonneg h
  refine callW_of_lift l96_ok (by simp [l96]) ?_
  simp [l96]
  refine cndI (fun h1 => ?_) (fun h1 => ?_)
  · simp at h1
    have e : encN n = [n - 2097152] := by unfold encN; rw [if_pos (by omega)]
    rw [e]
    simp
    try simp (disch := omega) only [wrap64, wrapu8]
    refine eff_bsl1 s rfl ?_
    intro b w1 s1
    simp
    have : ((n - 2097152 : Nat) : Int) = (n : Int) - 2097152 := by omega
    simpa [this] using s1
  simp at h1
  simp
  refine cndI (fun h2 => ?_) (fun h2 => ?_)
  · simp at h2
    have e : encN n = [n] := by unfold encN; rw [if_neg (by omega), if_pos (by omega)]
    rw [e]
    simp
    try simp (disch := omega) only [wrap64, wrapu8]
    refine eff_bsl1 s rfl ?_
    intro b w1 s1
    simp
    exact s1
  simp at h2
  simp
  refine cndI (fun h3 => ?_) (fun h3 => ?_)
  · simp at h3
    have e : encN n = [192 + n / 64, 128 + n % 64] := by unfold encN; rw [if_neg (by omega), if_neg (by omega), if_pos (by omega)]
    rw [e]
    simp
    try simp (disch := omega) only [wrap64, wrapu8, tm]
    refine eff_bsl2 s rfl rfl ?_
    intro b w1 s1
    simp
    exact s1
  simp at h3
  simp
  refine cndI (fun h4 => ?_) (fun h4 => ?_)
  · simp at h4
    have e : encN n = [224 + n / 4096, 128 + n / 64 % 64, 128 + n % 64] := by unfold encN; rw [if_neg (by omega), if_neg (by omega), if_neg (by omega), if_pos (by omega)]
    rw [e]
    simp
    try simp (disch := omega) only [wrap64, wrapu8, tm]
    refine eff_bsl3 s rfl rfl rfl ?_
    intro b w1 s1
    simp
    exact s1
  simp at h4
  have e : encN n = [240 + n / 262144, 128 + n / 4096 % 64, 128 + n / 64 % 64, 128 + n % 64] := by unfold encN; rw [if_neg (by omega), if_neg (by omega), if_neg (by omega), if_neg (by omega)]
  rw [e]
  simp
  try simp (disch := omega) only [wrap64, wrapu8, tm]
  refine eff_bsl4 s rfl rfl rfl rfl ?_
  intro b w1 s1
  simp
  exact s1
theorem rtext_spec (us : List Int) (v : Value) (w0 w : World) (A : Asn) (hl : us.length ≤ 4194304) (hok : ∀ u ∈ us, okU u) (s : St w0 (A * own 3 1 v us.length (ints us)) w) :
    CallW Try.prog 91 [v] (fun r w' => r = .string (mk (encAll us)) ∧ St w0 (A * own 3 1 v us.length (ints us)) w') w := by
  obtain ⟨a1, c1, rfl, hc1, hn1⟩ := s.own_val
  refine callW_of_lift l91_ok (by simp [l91]) ?_
  simp [l91]
  refine loopI (fun env w' => ∃ (i : Nat) (v : Value), env = [.slice a1 us.length c1, .string (mk []), v, .int .i64 i] ∧ i ≤ us.length ∧
      St w0 (A * own 3 1 (.slice a1 us.length c1) us.length (ints us) * own 5 1 v (encAll (us.take i)).length (bytesV (encAll (us.take i)))) w')
    (fun env _ => us.length - slotN env 3) ⟨0, _, rfl, by omega, by simpa [encAll, bytesV] using s.own_nil 5 1⟩ ?_
  rintro LQ env w' ⟨i, v, rfl, hi, s'⟩ hN hE hR
  simp
  refine cndI (fun h => ?_) (fun h => ?_)
  · simp at h
    obtain ⟨g1, c1', e1, _, hcell⟩ := s'.swap.own_at (by omega)
    cases e1
    have hui := hcell i (.int .i64 us[i]) (by simp [ints, h])
    simp
    refine ⟨h, eff_ldc hui ?_⟩
    simp
    have hub := hok us[i] (List.getElem_mem h)
    obtain ⟨m, hm⟩ := Int.eq_ofNat_of_zero_le (show 0 ≤ us[i] by unfold okU at hub; omega)
    rw [hm] at hub
    rw [hm]
    refine eff_call ((rbytes_spec m w0 _ _ hub s').mono ?_)
    rintro r w2 ⟨b, rfl, s2⟩
    have hfl := encAll_len (us.take i)
    rw [List.length_take] at hfl
    have hfu := encU_len (m : Int)
    simp
    refine eff_app (n := (encAll (us.take i)).length) (m := (encU m).length) (news := bytesV (encU m)) s2.swap (by simp [bytesV_len]) s2.cells_look (bytesV_one _) (by decide) rfl (by unfold maxLen; omega) (by omega) ?_
    intro v' w3 s3
    simp
    try simp (disch := omega) only [wrap64]
    refine hN _ _ ⟨i + 1, v', by simp, h, ?_⟩ (by simp [slotN]; omega)
    rw [List.take_succ_eq_append_getElem h, encAll_snoc, hm, bytesV_app, List.length_append]
    exact s3.swap.drop
  · simp at h
    simp
    refine hE _ _ _ ?_
    simp
    have : i = us.length := by omega
    subst this
    rw [List.take_length] at s'
    refine eff_b2s s' ?_
    simp
    exact s'.drop
end Go.HL.Nm
