/-
  What the claim leans on, part 4 of 18. Conditions: as each theorem says.
-/
import Derived.Test.YtiokklaedanjbaaGreatEPMc
import Derived.Test.YtiokklaedanjbaaGreatProg
namespace Go.HL.Nm
open Go.HL Go.Proofs
set_option maxRecDepth 4000
set_option linter.unusedSimpArgs false
set_option linter.unusedVariables false
noncomputable abbrev F0 : PF Tryz.prog := PF.none _

def h167_0 : HC := (.seq (.reg (.done [(4, (.inp 3)), (5, (.cst (.bool true)))] none)) .ret)
@[simp] theorem h167_0_wp : type_of% (@wpH h167_0 _ h167_0.eq_1) := wpH h167_0.eq_1
def h167_1 : HC := (.reg (.chk none (.bin .add) (.cons (.inp 6) (.cons (.cst (.int .i64 1)) .nil)) (.done [(6, (.op (.bin .add) (.cons (.inp 6) (.cons (.cst (.int .i64 1)) .nil))))] none)))
@[simp] theorem h167_1_wp : type_of% (@wpH h167_1 _ h167_1.eq_1) := wpH h167_1.eq_1
def h167_2 : HC := (.reg (.chk none (.bin .mul) (.cons (.inp 3) (.cons (.cst (.int .i64 64)) .nil)) (.chk none (.bin .add) (.cons (.inp 1) (.cons (.inp 6) .nil)) (.chk none .chS (.cons (.inp 0) (.cons (.op (.bin .add) (.cons (.inp 1) (.cons (.inp 6) .nil))) .nil)) (.chk none (.convI .i64) (.cons (.op .chS (.cons (.inp 0) (.cons (.op (.bin .add) (.cons (.inp 1) (.cons (.inp 6) .nil))) .nil))) .nil) (.chk none (.bin .add) (.cons (.op (.bin .mul) (.cons (.inp 3) (.cons (.cst (.int .i64 64)) .nil))) (.cons (.op (.convI .i64) (.cons (.op .chS (.cons (.inp 0) (.cons (.op (.bin .add) (.cons (.inp 1) (.cons (.inp 6) .nil))) .nil))) .nil)) .nil)) (.chk none (.bin .sub) (.cons (.op (.bin .add) (.cons (.op (.bin .mul) (.cons (.inp 3) (.cons (.cst (.int .i64 64)) .nil))) (.cons (.op (.convI .i64) (.cons (.op .chS (.cons (.inp 0) (.cons (.op (.bin .add) (.cons (.inp 1) (.cons (.inp 6) .nil))) .nil))) .nil)) .nil))) (.cons (.cst (.int .i64 128)) .nil)) (.done [(3, (.op (.bin .sub) (.cons (.op (.bin .add) (.cons (.op (.bin .mul) (.cons (.inp 3) (.cons (.cst (.int .i64 64)) .nil))) (.cons (.op (.convI .i64) (.cons (.op .chS (.cons (.inp 0) (.cons (.op (.bin .add) (.cons (.inp 1) (.cons (.inp 6) .nil))) .nil))) .nil)) .nil))) (.cons (.cst (.int .i64 128)) .nil))))] none))))))))
@[simp] theorem h167_2_wp : type_of% (@wpH h167_2 _ h167_2.eq_1) := wpH h167_2.eq_1
def h167_3 : HC := (.seq (.reg (.done [(4, (.cst (.int .i64 0))), (5, (.cst (.bool false)))] none)) .ret)
@[simp] theorem h167_3_wp : type_of% (@wpH h167_3 _ h167_3.eq_1) := wpH h167_3.eq_1
def h167_4 : HC := (.seq (.br (.chk none (.bin .add) (.cons (.inp 1) (.cons (.inp 6) .nil)) (.chk none .lenS (.cons (.inp 0) .nil) (.chk none (.bin .geq) (.cons (.op (.bin .add) (.cons (.inp 1) (.cons (.inp 6) .nil))) (.cons (.op .lenS (.cons (.inp 0) .nil)) .nil)) (.bnd (.op (.bin .geq) (.cons (.op (.bin .add) (.cons (.inp 1) (.cons (.inp 6) .nil))) (.cons (.op .lenS (.cons (.inp 0) .nil)) .nil))) (.chk (some ((.bv 0), false)) (.bin .add) (.cons (.inp 1) (.cons (.inp 6) .nil)) (.chk (some ((.bv 0), false)) .chS (.cons (.inp 0) (.cons (.op (.bin .add) (.cons (.inp 1) (.cons (.inp 6) .nil))) .nil)) (.chk (some ((.bv 0), false)) (.bin .lss) (.cons (.op .chS (.cons (.inp 0) (.cons (.op (.bin .add) (.cons (.inp 1) (.cons (.inp 6) .nil))) .nil))) (.cons (.cst (.int .u8 128)) .nil)) (.isb none (.bv 0) (.bnd (.ite (.bv 0) true (.cst (.bool true)) (.op (.bin .lss) (.cons (.op .chS (.cons (.inp 0) (.cons (.op (.bin .add) (.cons (.inp 1) (.cons (.inp 6) .nil))) .nil))) (.cons (.cst (.int .u8 128)) .nil)))) (.chk (some ((.bv 1), false)) (.bin .add) (.cons (.inp 1) (.cons (.inp 6) .nil)) (.chk (some ((.bv 1), false)) .chS (.cons (.inp 0) (.cons (.op (.bin .add) (.cons (.inp 1) (.cons (.inp 6) .nil))) .nil)) (.chk (some ((.bv 1), false)) (.bin .gtr) (.cons (.op .chS (.cons (.inp 0) (.cons (.op (.bin .add) (.cons (.inp 1) (.cons (.inp 6) .nil))) .nil))) (.cons (.cst (.int .u8 191)) .nil)) (.isb none (.bv 1) (.done [] (some (.ite (.bv 1) true (.cst (.bool true)) (.op (.bin .gtr) (.cons (.op .chS (.cons (.inp 0) (.cons (.op (.bin .add) (.cons (.inp 1) (.cons (.inp 6) .nil))) .nil))) (.cons (.cst (.int .u8 191)) .nil))))))))))))))))))) h167_3 .skip) h167_2)
@[simp] theorem h167_4_wp : type_of% (@wpH h167_4 _ h167_4.eq_1) := wpH h167_4.eq_1
def h167_5 : HC := (.seq (.block 1 h167_4) h167_1)
@[simp] theorem h167_5_wp : type_of% (@wpH h167_5 _ h167_5.eq_1) := wpH h167_5.eq_1
def h167_6 : HC := (.seq (.br (.chk none (.bin .leq) (.cons (.inp 6) (.cons (.inp 2) .nil)) (.done [] (some (.op (.bin .leq) (.cons (.inp 6) (.cons (.inp 2) .nil)))))) .skip (.exit 0)) h167_5)
@[simp] theorem h167_6_wp : type_of% (@wpH h167_6 _ h167_6.eq_1) := wpH h167_6.eq_1
def h167_7 : HC := (.loop h167_6)
@[simp] theorem h167_7_wp : type_of% (@wpH h167_7 _ h167_7.eq_1) := wpH h167_7.eq_1
def h167_8 : HC := (.seq (.block 0 h167_7) h167_0)
@[simp] theorem h167_8_wp : type_of% (@wpH h167_8 _ h167_8.eq_1) := wpH h167_8.eq_1
def h167_9 : HC := (.seq (.reg (.done [(6, (.cst (.int .i64 1)))] none)) h167_8)
@[simp] theorem h167_9_wp : type_of% (@wpH h167_9 _ h167_9.eq_1) := wpH h167_9.eq_1
def l167 : Lifted := ⟨[0, 1, 2, 3, 8, 9, 10], 49, [.slot 4, .slot 5], (.seq (.reg (.done [(4, (.cst (.int .i64 0))), (5, (.cst (.bool false)))] none)) h167_9)⟩
theorem l167_ok : liftFn F0 167 400 = some l167 := by kernel_rfl

def h150_0 : HC := (.seq (.reg (.chk none (.bin .geq) (.cons (.inp 0) (.cons (.inp 1) .nil)) (.bnd (.op (.bin .geq) (.cons (.inp 0) (.cons (.inp 1) .nil))) (.chk (some ((.bv 0), true)) (.bin .leq) (.cons (.inp 0) (.cons (.inp 2) .nil)) (.isb none (.bv 0) (.done [(3, (.ite (.bv 0) true (.op (.bin .leq) (.cons (.inp 0) (.cons (.inp 2) .nil))) (.cst (.bool false))))] none)))))) .ret)
@[simp] theorem h150_0_wp : type_of% (@wpH h150_0 _ h150_0.eq_1) := wpH h150_0.eq_1
def l150 : Lifted := ⟨[0, 1, 2, 6], 15, [.slot 3], (.seq (.reg (.done [(3, (.cst (.bool false)))] none)) h150_0)⟩
theorem l150_ok : liftFn F0 150 400 = some l150 := by kernel_rfl

def h118_0 : HC := (.seq (.reg (.chk none (.bin .eql) (.cons (.inp 0) (.cons (.cst (.int .i64 32)) .nil)) (.bnd (.op (.bin .eql) (.cons (.inp 0) (.cons (.cst (.int .i64 32)) .nil))) (.chk (some ((.bv 0), false)) (.bin .eql) (.cons (.inp 0) (.cons (.cst (.int .i64 45)) .nil)) (.isb none (.bv 0) (.bnd (.ite (.bv 0) true (.cst (.bool true)) (.op (.bin .eql) (.cons (.inp 0) (.cons (.cst (.int .i64 45)) .nil)))) (.chk (some ((.bv 1), false)) (.bin .eql) (.cons (.inp 0) (.cons (.cst (.int .i64 95)) .nil)) (.isb none (.bv 1) (.done [(1, (.ite (.bv 1) true (.cst (.bool true)) (.op (.bin .eql) (.cons (.inp 0) (.cons (.cst (.int .i64 95)) .nil)))))] none))))))))) .ret)
@[simp] theorem h118_0_wp : type_of% (@wpH h118_0 _ h118_0.eq_1) := wpH h118_0.eq_1
def l118 : Lifted := ⟨[0, 2], 13, [.slot 1], (.seq (.reg (.done [(1, (.cst (.bool false)))] none)) h118_0)⟩
theorem l118_ok : liftFn F0 118 400 = some l118 := by kernel_rfl

def h103_0 : HC := (.seq (.reg (.chk none (.bin .eql) (.cons (.inp 0) (.cons (.cst (.int .i32 32)) .nil)) (.bnd (.op (.bin .eql) (.cons (.inp 0) (.cons (.cst (.int .i32 32)) .nil))) (.chk (some ((.bv 0), false)) (.bin .eql) (.cons (.inp 0) (.cons (.cst (.int .i32 45)) .nil)) (.isb none (.bv 0) (.bnd (.ite (.bv 0) true (.cst (.bool true)) (.op (.bin .eql) (.cons (.inp 0) (.cons (.cst (.int .i32 45)) .nil)))) (.chk (some ((.bv 1), false)) (.bin .eql) (.cons (.inp 0) (.cons (.cst (.int .i32 95)) .nil)) (.isb none (.bv 1) (.done [(1, (.ite (.bv 1) true (.cst (.bool true)) (.op (.bin .eql) (.cons (.inp 0) (.cons (.cst (.int .i32 95)) .nil)))))] none))))))))) .ret)
@[simp] theorem h103_0_wp : type_of% (@wpH h103_0 _ h103_0.eq_1) := wpH h103_0.eq_1
def l103 : Lifted := ⟨[0, 2], 13, [.slot 1], (.seq (.reg (.done [(1, (.cst (.bool false)))] none)) h103_0)⟩
theorem l103_ok : liftFn F0 103 400 = some l103 := by kernel_rfl

def h102_0 : HC := (.seq (.reg (.chk none (.bin .geq) (.cons (.inp 0) (.cons (.cst (.int .i32 945)) .nil)) (.bnd (.op (.bin .geq) (.cons (.inp 0) (.cons (.cst (.int .i32 945)) .nil))) (.chk (some ((.bv 0), true)) (.bin .leq) (.cons (.inp 0) (.cons (.cst (.int .i32 969)) .nil)) (.isb none (.bv 0) (.bnd (.ite (.bv 0) true (.op (.bin .leq) (.cons (.inp 0) (.cons (.cst (.int .i32 969)) .nil))) (.cst (.bool false))) (.chk (some ((.bv 1), false)) (.bin .geq) (.cons (.inp 0) (.cons (.cst (.int .i32 1040)) .nil)) (.bnd (.ite (.bv 1) false (.op (.bin .geq) (.cons (.inp 0) (.cons (.cst (.int .i32 1040)) .nil))) (.cst (.tuple #[]))) (.chk (some ((.bv 2), true)) (.bin .leq) (.cons (.inp 0) (.cons (.cst (.int .i32 1103)) .nil)) (.isb (some ((.bv 1), false)) (.bv 2) (.isb none (.bv 1) (.bnd (.ite (.bv 1) true (.cst (.bool true)) (.ite (.bv 2) true (.op (.bin .leq) (.cons (.inp 0) (.cons (.cst (.int .i32 1103)) .nil))) (.cst (.bool false)))) (.chk (some ((.bv 3), false)) (.bin .eql) (.cons (.inp 0) (.cons (.cst (.int .i32 1025)) .nil)) (.isb none (.bv 3) (.bnd (.ite (.bv 3) true (.cst (.bool true)) (.op (.bin .eql) (.cons (.inp 0) (.cons (.cst (.int .i32 1025)) .nil)))) (.chk (some ((.bv 4), false)) (.bin .eql) (.cons (.inp 0) (.cons (.cst (.int .i32 1105)) .nil)) (.isb none (.bv 4) (.done [(1, (.ite (.bv 4) true (.cst (.bool true)) (.op (.bin .eql) (.cons (.inp 0) (.cons (.cst (.int .i32 1105)) .nil)))))] none)))))))))))))))))) .ret)
@[simp] theorem h102_0_wp : type_of% (@wpH h102_0 _ h102_0.eq_1) := wpH h102_0.eq_1
def h102_1 : HC := (.seq (.reg (.done [(1, (.cst (.bool true)))] none)) .ret)
@[simp] theorem h102_1_wp : type_of% (@wpH h102_1 _ h102_1.eq_1) := wpH h102_1.eq_1
def h102_2 : HC := (.seq (.reg (.chk none (.bin .neq) (.cons (.inp 0) (.cons (.cst (.int .i32 215)) .nil)) (.bnd (.op (.bin .neq) (.cons (.inp 0) (.cons (.cst (.int .i32 215)) .nil))) (.chk (some ((.bv 0), true)) (.bin .neq) (.cons (.inp 0) (.cons (.cst (.int .i32 247)) .nil)) (.isb none (.bv 0) (.done [(1, (.ite (.bv 0) true (.op (.bin .neq) (.cons (.inp 0) (.cons (.cst (.int .i32 247)) .nil))) (.cst (.bool false))))] none)))))) .ret)
@[simp] theorem h102_2_wp : type_of% (@wpH h102_2 _ h102_2.eq_1) := wpH h102_2.eq_1
def h102_3 : HC := (.seq (.reg (.chk none (.bin .neq) (.cons (.inp 0) (.cons (.cst (.int .i32 930)) .nil)) (.done [(1, (.op (.bin .neq) (.cons (.inp 0) (.cons (.cst (.int .i32 930)) .nil))))] none))) .ret)
@[simp] theorem h102_3_wp : type_of% (@wpH h102_3 _ h102_3.eq_1) := wpH h102_3.eq_1
def h102_4 : HC := (.br (.chk none (.bin .geq) (.cons (.inp 0) (.cons (.cst (.int .i32 913)) .nil)) (.bnd (.op (.bin .geq) (.cons (.inp 0) (.cons (.cst (.int .i32 913)) .nil))) (.chk (some ((.bv 0), true)) (.bin .leq) (.cons (.inp 0) (.cons (.cst (.int .i32 937)) .nil)) (.isb none (.bv 0) (.done [] (some (.ite (.bv 0) true (.op (.bin .leq) (.cons (.inp 0) (.cons (.cst (.int .i32 937)) .nil))) (.cst (.bool false))))))))) h102_3 .skip)
@[simp] theorem h102_4_wp : type_of% (@wpH h102_4 _ h102_4.eq_1) := wpH h102_4.eq_1
def h102_5 : HC := (.br (.chk none (.bin .geq) (.cons (.inp 0) (.cons (.cst (.int .i32 192)) .nil)) (.bnd (.op (.bin .geq) (.cons (.inp 0) (.cons (.cst (.int .i32 192)) .nil))) (.chk (some ((.bv 0), true)) (.bin .leq) (.cons (.inp 0) (.cons (.cst (.int .i32 255)) .nil)) (.isb none (.bv 0) (.done [] (some (.ite (.bv 0) true (.op (.bin .leq) (.cons (.inp 0) (.cons (.cst (.int .i32 255)) .nil))) (.cst (.bool false))))))))) h102_2 h102_4)
@[simp] theorem h102_5_wp : type_of% (@wpH h102_5 _ h102_5.eq_1) := wpH h102_5.eq_1
def h102_6 : HC := (.cnd 2 h102_1 h102_5)
@[simp] theorem h102_6_wp : type_of% (@wpH h102_6 _ h102_6.eq_1) := wpH h102_6.eq_1
def h102_7 : HC := (.reg (.chk none (.bin .geq) (.cons (.inp 0) (.cons (.cst (.int .i32 97)) .nil)) (.bnd (.op (.bin .geq) (.cons (.inp 0) (.cons (.cst (.int .i32 97)) .nil))) (.chk (some ((.bv 0), true)) (.bin .leq) (.cons (.inp 0) (.cons (.cst (.int .i32 122)) .nil)) (.isb none (.bv 0) (.done [(2, (.ite (.bv 0) true (.op (.bin .leq) (.cons (.inp 0) (.cons (.cst (.int .i32 122)) .nil))) (.cst (.bool false))))] none))))))
@[simp] theorem h102_7_wp : type_of% (@wpH h102_7 _ h102_7.eq_1) := wpH h102_7.eq_1
def h102_8 : HC := (.cnd 2 .skip h102_7)
@[simp] theorem h102_8_wp : type_of% (@wpH h102_8 _ h102_8.eq_1) := wpH h102_8.eq_1
def h102_9 : HC := (.seq (.reg (.chk none (.bin .geq) (.cons (.inp 0) (.cons (.cst (.int .i32 65)) .nil)) (.bnd (.op (.bin .geq) (.cons (.inp 0) (.cons (.cst (.int .i32 65)) .nil))) (.chk (some ((.bv 0), true)) (.bin .leq) (.cons (.inp 0) (.cons (.cst (.int .i32 90)) .nil)) (.isb none (.bv 0) (.done [(2, (.ite (.bv 0) true (.op (.bin .leq) (.cons (.inp 0) (.cons (.cst (.int .i32 90)) .nil))) (.cst (.bool false))))] none)))))) h102_8)
@[simp] theorem h102_9_wp : type_of% (@wpH h102_9 _ h102_9.eq_1) := wpH h102_9.eq_1
def h102_10 : HC := (.seq (.cnd 2 .skip h102_9) h102_6)
@[simp] theorem h102_10_wp : type_of% (@wpH h102_10 _ h102_10.eq_1) := wpH h102_10.eq_1
def h102_11 : HC := (.seq (.reg (.chk none (.bin .geq) (.cons (.inp 0) (.cons (.cst (.int .i32 48)) .nil)) (.bnd (.op (.bin .geq) (.cons (.inp 0) (.cons (.cst (.int .i32 48)) .nil))) (.chk (some ((.bv 0), true)) (.bin .leq) (.cons (.inp 0) (.cons (.cst (.int .i32 57)) .nil)) (.isb none (.bv 0) (.done [(2, (.ite (.bv 0) true (.op (.bin .leq) (.cons (.inp 0) (.cons (.cst (.int .i32 57)) .nil))) (.cst (.bool false))))] none)))))) h102_10)
@[simp] theorem h102_11_wp : type_of% (@wpH h102_11 _ h102_11.eq_1) := wpH h102_11.eq_1
def h102_12 : HC := (.seq (.block 0 h102_11) h102_0)
@[simp] theorem h102_12_wp : type_of% (@wpH h102_12 _ h102_12.eq_1) := wpH h102_12.eq_1
def l102 : Lifted := ⟨[0, 2, 3], 66, [.slot 1], (.seq (.reg (.done [(1, (.cst (.bool false)))] none)) h102_12)⟩
theorem l102_ok : liftFn F0 102 400 = some l102 := by kernel_rfl

def h160_0 : HC := (.seq (.reg (.done [(1, (.inp 0))] none)) .ret)
@[simp] theorem h160_0_wp : type_of% (@wpH h160_0 _ h160_0.eq_1) := wpH h160_0.eq_1
def h160_1 : HC := (.seq (.reg (.chk none (.bin .add) (.cons (.inp 0) (.cons (.cst (.int .i32 32)) .nil)) (.done [(1, (.op (.bin .add) (.cons (.inp 0) (.cons (.cst (.int .i32 32)) .nil))))] none))) .ret)
@[simp] theorem h160_1_wp : type_of% (@wpH h160_1 _ h160_1.eq_1) := wpH h160_1.eq_1
def h160_2 : HC := (.seq (.reg (.done [(1, (.cst (.int .i32 1105)))] none)) .ret)
@[simp] theorem h160_2_wp : type_of% (@wpH h160_2 _ h160_2.eq_1) := wpH h160_2.eq_1
def h160_3 : HC := (.seq (.reg (.done [(1, (.cst (.int .i32 963)))] none)) .ret)
@[simp] theorem h160_3_wp : type_of% (@wpH h160_3 _ h160_3.eq_1) := wpH h160_3.eq_1
def h160_4 : HC := (.br (.chk none (.bin .eql) (.cons (.inp 0) (.cons (.cst (.int .i32 962)) .nil)) (.done [] (some (.op (.bin .eql) (.cons (.inp 0) (.cons (.cst (.int .i32 962)) .nil)))))) h160_3 .skip)
@[simp] theorem h160_4_wp : type_of% (@wpH h160_4 _ h160_4.eq_1) := wpH h160_4.eq_1
def h160_5 : HC := (.br (.chk none (.bin .eql) (.cons (.inp 0) (.cons (.cst (.int .i32 1025)) .nil)) (.done [] (some (.op (.bin .eql) (.cons (.inp 0) (.cons (.cst (.int .i32 1025)) .nil)))))) h160_2 h160_4)
@[simp] theorem h160_5_wp : type_of% (@wpH h160_5 _ h160_5.eq_1) := wpH h160_5.eq_1
def h160_6 : HC := (.cnd 2 h160_1 h160_5)
@[simp] theorem h160_6_wp : type_of% (@wpH h160_6 _ h160_6.eq_1) := wpH h160_6.eq_1
def h160_7 : HC := (.reg (.chk none (.bin .geq) (.cons (.inp 0) (.cons (.cst (.int .i32 1040)) .nil)) (.bnd (.op (.bin .geq) (.cons (.inp 0) (.cons (.cst (.int .i32 1040)) .nil))) (.chk (some ((.bv 0), true)) (.bin .leq) (.cons (.inp 0) (.cons (.cst (.int .i32 1071)) .nil)) (.isb none (.bv 0) (.done [(2, (.ite (.bv 0) true (.op (.bin .leq) (.cons (.inp 0) (.cons (.cst (.int .i32 1071)) .nil))) (.cst (.bool false))))] none))))))
@[simp] theorem h160_7_wp : type_of% (@wpH h160_7 _ h160_7.eq_1) := wpH h160_7.eq_1
def h160_8 : HC := (.cnd 2 .skip h160_7)
@[simp] theorem h160_8_wp : type_of% (@wpH h160_8 _ h160_8.eq_1) := wpH h160_8.eq_1
def h160_9 : HC := (.seq (.reg (.chk none (.bin .geq) (.cons (.inp 0) (.cons (.cst (.int .i32 913)) .nil)) (.bnd (.op (.bin .geq) (.cons (.inp 0) (.cons (.cst (.int .i32 913)) .nil))) (.chk (some ((.bv 0), true)) (.bin .leq) (.cons (.inp 0) (.cons (.cst (.int .i32 937)) .nil)) (.isb none (.bv 0) (.bnd (.ite (.bv 0) true (.op (.bin .leq) (.cons (.inp 0) (.cons (.cst (.int .i32 937)) .nil))) (.cst (.bool false))) (.chk (some ((.bv 1), true)) (.bin .neq) (.cons (.inp 0) (.cons (.cst (.int .i32 930)) .nil)) (.isb none (.bv 1) (.done [(2, (.ite (.bv 1) true (.op (.bin .neq) (.cons (.inp 0) (.cons (.cst (.int .i32 930)) .nil))) (.cst (.bool false))))] none))))))))) h160_8)
@[simp] theorem h160_9_wp : type_of% (@wpH h160_9 _ h160_9.eq_1) := wpH h160_9.eq_1
def h160_10 : HC := (.cnd 2 .skip h160_9)
@[simp] theorem h160_10_wp : type_of% (@wpH h160_10 _ h160_10.eq_1) := wpH h160_10.eq_1
def h160_11 : HC := (.seq (.reg (.chk none (.bin .geq) (.cons (.inp 0) (.cons (.cst (.int .i32 192)) .nil)) (.bnd (.op (.bin .geq) (.cons (.inp 0) (.cons (.cst (.int .i32 192)) .nil))) (.chk (some ((.bv 0), true)) (.bin .leq) (.cons (.inp 0) (.cons (.cst (.int .i32 222)) .nil)) (.isb none (.bv 0) (.bnd (.ite (.bv 0) true (.op (.bin .leq) (.cons (.inp 0) (.cons (.cst (.int .i32 222)) .nil))) (.cst (.bool false))) (.chk (some ((.bv 1), true)) (.bin .neq) (.cons (.inp 0) (.cons (.cst (.int .i32 215)) .nil)) (.isb none (.bv 1) (.done [(2, (.ite (.bv 1) true (.op (.bin .neq) (.cons (.inp 0) (.cons (.cst (.int .i32 215)) .nil))) (.cst (.bool false))))] none))))))))) h160_10)
@[simp] theorem h160_11_wp : type_of% (@wpH h160_11 _ h160_11.eq_1) := wpH h160_11.eq_1
def h160_12 : HC := (.seq (.cnd 2 .skip h160_11) h160_6)
@[simp] theorem h160_12_wp : type_of% (@wpH h160_12 _ h160_12.eq_1) := wpH h160_12.eq_1
def h160_13 : HC := (.seq (.reg (.chk none (.bin .geq) (.cons (.inp 0) (.cons (.cst (.int .i32 65)) .nil)) (.bnd (.op (.bin .geq) (.cons (.inp 0) (.cons (.cst (.int .i32 65)) .nil))) (.chk (some ((.bv 0), true)) (.bin .leq) (.cons (.inp 0) (.cons (.cst (.int .i32 90)) .nil)) (.isb none (.bv 0) (.done [(2, (.ite (.bv 0) true (.op (.bin .leq) (.cons (.inp 0) (.cons (.cst (.int .i32 90)) .nil))) (.cst (.bool false))))] none)))))) h160_12)
@[simp] theorem h160_13_wp : type_of% (@wpH h160_13 _ h160_13.eq_1) := wpH h160_13.eq_1
def h160_14 : HC := (.seq (.block 0 h160_13) h160_0)
@[simp] theorem h160_14_wp : type_of% (@wpH h160_14 _ h160_14.eq_1) := wpH h160_14.eq_1
def l160 : Lifted := ⟨[0, 2, 3], 45, [.slot 1], (.seq (.reg (.done [(1, (.cst (.int .i32 0)))] none)) h160_14)⟩
theorem l160_ok : liftFn F0 160 400 = some l160 := by kernel_rfl

def h158_0 : HC := (.seq (.reg (.chk none .lenS (.cons (.inp 0) .nil) (.chk none .lenS (.cons (.inp 1) .nil) (.chk none (.bin .geq) (.cons (.op .lenS (.cons (.inp 0) .nil)) (.cons (.op .lenS (.cons (.inp 1) .nil)) .nil)) (.bnd (.op (.bin .geq) (.cons (.op .lenS (.cons (.inp 0) .nil)) (.cons (.op .lenS (.cons (.inp 1) .nil)) .nil))) (.chk (some ((.bv 0), true)) .lenS (.cons (.inp 1) .nil) (.chk (some ((.bv 0), true)) (.slS false true) (.cons (.inp 0) (.cons (.op .lenS (.cons (.inp 1) .nil)) .nil)) (.chk (some ((.bv 0), true)) (.bin .eql) (.cons (.op (.slS false true) (.cons (.inp 0) (.cons (.op .lenS (.cons (.inp 1) .nil)) .nil))) (.cons (.inp 1) .nil)) (.isb none (.bv 0) (.done [(2, (.ite (.bv 0) true (.op (.bin .eql) (.cons (.op (.slS false true) (.cons (.inp 0) (.cons (.op .lenS (.cons (.inp 1) .nil)) .nil))) (.cons (.inp 1) .nil))) (.cst (.bool false))))] none)))))))))) .ret)
@[simp] theorem h158_0_wp : type_of% (@wpH h158_0 _ h158_0.eq_1) := wpH h158_0.eq_1
def l158 : Lifted := ⟨[0, 1, 4], 18, [.slot 2], (.seq (.reg (.done [(2, (.cst (.bool false)))] none)) h158_0)⟩
theorem l158_ok : liftFn F0 158 400 = some l158 := by kernel_rfl
theorem tail_spec (l : List UInt8) (i n : Nat) (v : Int) (w : World) (hi : i < l.length) (hn : n ≤ 3) (hv : 0 ≤ v) (hv2 : v < 32) (hl : l.length ≤ 1048576) :
    CallW Tryz.prog 167 [.string (mk l), .int .i64 i, .int .i64 n, .int .i64 v] (fun r w' =>
      r = (match tailF (l.drop (i + 1)) n v with | some u => .tuple #[.int .i64 u, .bool true] | none => .tuple #[.int .i64 0, .bool false]) ∧ w' = w) w := by
  refine callW_of_lift l167_ok (by simp [l167]) ?_
  simp [l167]
  refine loopI (fun env w' => ∃ (k : Nat) (x : Int), env = [.string (mk l), .int .i64 i, .int .i64 n, .int .i64 x, .int .i64 0, .bool false, .int .i64 (k + 1 : Nat)] ∧ w' = w ∧ k ≤ n ∧ 0 ≤ x ∧ x < 32 * 64 ^ k ∧
      tailF (l.drop (i + 1)) n v = tailF (l.drop (i + 1 + k)) (n - k) x) (fun env _ => 5 - slotN env 6) ⟨0, v, by simp, rfl, by omega, hv, by simpa using hv2, rfl⟩ ?_
  rintro LQ env w' ⟨k, x, rfl, rfl, hk, hx, hx2, ht⟩ hN hE hR
  have hx3 : x < 8388608 := by
    have : k = 0 ∨ k = 1 ∨ k = 2 ∨ k = 3 := by omega
    rcases this with rfl | rfl | rfl | rfl <;> omega
  simp
  refine cndI (fun h => ?_) (fun h => ?_)
  · simp at h
    have e0 : n - k = (n - (k + 1)) + 1 := by omega
    rw [e0, tailF_cons] at ht
    have hg : (l.drop (i + 1 + k)).getD 0 0 = l[i + (k + 1)]?.getD 0 := by simp [List.getElem?_drop, Nat.add_comm, Nat.add_left_comm]
    have hc : contAt (l.drop (i + 1 + k)) 0 = decide (i + (k + 1) < l.length ∧ 128 ≤ (l[i + (k + 1)]?.getD 0).toNat ∧ (l[i + (k + 1)]?.getD 0).toNat ≤ 191) := by
      simp only [contAt, hg, List.length_drop]
      rw [Bool.eq_iff_iff]
      simp
      omega
    have hb := (l[i + (k + 1)]?.getD 0).toNat_lt
    have ei : ((i : Int) + ((k : Int) + 1)).toNat = i + (k + 1) := by omega
    rw [hc, hg] at ht
    simp
    try simp (disch := omega) only [wrap64, ei]
    refine ⟨by omega, by omega, ?_⟩
    refine cndI (fun h2 => ?_) (fun h2 => ?_)
    · simp only [Bool.or_eq_true, decide_eq_true_eq] at h2
      simp
      refine hR _ _ ?_
      simp
      rw [ht, if_neg (by simp; omega)]
    · simp at h2
      rw [if_pos (by simp; omega)] at ht
      simp
      try simp (disch := omega) only [wrap64, ei]
      refine ⟨by omega, hN _ _ ⟨k + 1, x * 64 + (l[i + (k + 1)]?.getD 0).toNat - 128, by simp, rfl, by omega, by omega, by rw [Int.pow_succ]; omega, ?_⟩ (by simp [slotN]; omega)⟩
      rw [ht]
      simp [Nat.add_assoc]
  · simp at h
    simp
    refine hE _ _ _ ?_
    simp
    have : k = n := by omega
    subst this
    rw [ht]
    simp [tailF_zero]
def inF (u lo hi : Int) : Bool := decide (lo ≤ u) && decide (u ≤ hi)
theorem in_spec (u lo hi : Int) (w : World) : CallW Tryz.prog 150 [.int .i64 u, .int .i64 lo, .int .i64 hi] (fun r w' => r = .bool (inF u lo hi) ∧ w' = w) w := by
  refine callW_of_lift l150_ok (by simp [l150]) ?_
  simp [l150, inF]
def joinerF (u : Int) : Bool := decide (u = 32) || decide (u = 45) || decide (u = 95)
theorem rjoiner_spec (u : Int) (w : World) : CallW Tryz.prog 118 [.int .i64 u] (fun r w' => r = .bool (joinerF u) ∧ w' = w) w := by
  refine callW_of_lift l118_ok (by simp [l118]) ?_
  simp [l118, joinerF]
theorem joiner_spec (u : Int) (w : World) : CallW Tryz.prog 103 [.int .i32 u] (fun r w' => r = .bool (joinerF u) ∧ w' = w) w := by
  refine callW_of_lift l103_ok (by simp [l103]) ?_
  simp [l103, joinerF]
def letterF (u : Int) : Bool := !(decide (u = 215) || decide (u = 247) || decide (u = 930)) &&
  (inF u 48 57 || inF u 65 90 || inF u 97 122 || inF u 192 255 || inF u 913 937 || inF u 945 969 || decide (u = 1025) || inF u 1040 1103 || decide (u = 1105))
theorem letter_spec (u : Int) (w : World) : CallW Tryz.prog 102 [.int .i32 u] (fun r w' => r = .bool (letterF u) ∧ w' = w) w := by
  refine callW_of_lift l102_ok (by simp [l102]) ?_
  simp [l102, condC_ite, letterF, inF]
  repeat' split
  all_goals (try simp)
  all_goals (try (rw [Bool.eq_iff_iff]; simp))
  all_goals omega
def foldF (u : Int) : Int :=
  if (65 ≤ u ∧ u ≤ 90) ∨ (192 ≤ u ∧ u ≤ 222 ∧ u ≠ 215) ∨ (913 ≤ u ∧ u ≤ 937 ∧ u ≠ 930) ∨ (1040 ≤ u ∧ u ≤ 1071) then u + 32
  else if u = 1025 then 1105 else if u = 962 then 963 else u
theorem fold_spec (u : Int) (w : World) (h0 : 0 ≤ u) (h1 : u < 2097408) : CallW Tryz.prog 160 [.int .i32 u] (fun r w' => r = .int .i32 (foldF u) ∧ w' = w) w := by
  refine callW_of_lift l160_ok (by simp [l160]) ?_
  simp [l160, condC_ite, foldF]
  repeat' split
  all_goals (try simp (disch := omega) only [wrap32])
  all_goals (try (first | rfl | omega))
theorem slhp_spec (s p : List UInt8) (w : World) (hs : s.length ≤ 1048576) : CallW Tryz.prog 158 [.string (mk s), .string (mk p)] (fun r w' => r = .bool (p.isPrefixOf s) ∧ w' = w) w := by
  refine callW_of_lift l158_ok (by simp [l158]) ?_
  simp [l158]
  rw [Bool.eq_iff_iff]
  simp only [Bool.and_eq_true, decide_eq_true_eq, beq_iff_eq, List.isPrefixOf_iff_prefix]
  constructor
  · rintro ⟨h1, h2⟩
    exact List.prefix_iff_eq_take.2 h2.symm
  · intro h
    exact ⟨h.length_le, (List.prefix_iff_eq_take.1 h).symm⟩
end Go.HL.Nm

namespace Go.HL.Nm
open Go.HL Go.Proofs
set_option maxRecDepth 4000
set_option linter.unusedSimpArgs false
set_option linter.unusedVariables false

def h149_0 : HC := (.seq (.reg (.chk none (.bin .add) (.cons (.cst (.int .i64 1)) (.cons (.inp 6) .nil)) (.done [(2, (.inp 5)), (3, (.op (.bin .add) (.cons (.cst (.int .i64 1)) (.cons (.inp 6) .nil))))] none))) .ret)
@[simp] theorem h149_0_wp : type_of% (@wpH h149_0 _ h149_0.eq_1) := wpH h149_0.eq_1
def h149_1 : HC := (.seq (.reg (.chk none (.bin .add) (.cons (.cst (.int .i64 2097152)) (.cons (.inp 4) .nil)) (.done [(2, (.op (.bin .add) (.cons (.cst (.int .i64 2097152)) (.cons (.inp 4) .nil)))), (3, (.cst (.int .i64 1)))] none))) .ret)
@[simp] theorem h149_1_wp : type_of% (@wpH h149_1 _ h149_1.eq_1) := wpH h149_1.eq_1
def h149_2 : HC := (.seq (.br (.chk none (.un .not) (.cons (.inp 8) .nil) (.bnd (.op (.un .not) (.cons (.inp 8) .nil)) (.chk (some ((.bv 0), false)) (.bin .lss) (.cons (.inp 5) (.cons (.inp 7) .nil)) (.isb none (.bv 0) (.bnd (.ite (.bv 0) true (.cst (.bool true)) (.op (.bin .lss) (.cons (.inp 5) (.cons (.inp 7) .nil)))) (.chk (some ((.bv 1), false)) (.bin .gtr) (.cons (.inp 5) (.cons (.cst (.int .i64 1114111)) .nil)) (.isb none (.bv 1) (.bnd (.ite (.bv 1) true (.cst (.bool true)) (.op (.bin .gtr) (.cons (.inp 5) (.cons (.cst (.int .i64 1114111)) .nil)))) (.chk (some ((.bv 2), false)) (.bin .geq) (.cons (.inp 5) (.cons (.cst (.int .i64 55296)) .nil)) (.bnd (.ite (.bv 2) false (.op (.bin .geq) (.cons (.inp 5) (.cons (.cst (.int .i64 55296)) .nil))) (.cst (.tuple #[]))) (.chk (some ((.bv 3), true)) (.bin .leq) (.cons (.inp 5) (.cons (.cst (.int .i64 57343)) .nil)) (.isb (some ((.bv 2), false)) (.bv 3) (.isb none (.bv 2) (.done [] (some (.ite (.bv 2) true (.cst (.bool true)) (.ite (.bv 3) true (.op (.bin .leq) (.cons (.inp 5) (.cons (.cst (.int .i64 57343)) .nil))) (.cst (.bool false))))))))))))))))))) h149_1 .skip) h149_0)
@[simp] theorem h149_2_wp : type_of% (@wpH h149_2 _ h149_2.eq_1) := wpH h149_2.eq_1
def h149_3 : HC := (.seq (.reg (.eff (.call 167) (.cons (.inp 0) (.cons (.inp 1) (.cons (.inp 6) (.cons (.inp 5) .nil)))) (.chk none (.ext 0) (.cons (.bv 0) .nil) (.chk none (.ext 1) (.cons (.bv 0) .nil) (.done [(5, (.op (.ext 0) (.cons (.bv 0) .nil))), (8, (.op (.ext 1) (.cons (.bv 0) .nil)))] none))))) h149_2)
@[simp] theorem h149_3_wp : type_of% (@wpH h149_3 _ h149_3.eq_1) := wpH h149_3.eq_1
def h149_4 : HC := (.seq (.reg (.done [(2, (.inp 4)), (3, (.cst (.int .i64 1)))] none)) .ret)
@[simp] theorem h149_4_wp : type_of% (@wpH h149_4 _ h149_4.eq_1) := wpH h149_4.eq_1
def h149_5 : HC := (.reg (.chk none (.bin .sub) (.cons (.inp 4) (.cons (.cst (.int .i64 192)) .nil)) (.done [(5, (.op (.bin .sub) (.cons (.inp 4) (.cons (.cst (.int .i64 192)) .nil)))), (6, (.cst (.int .i64 1))), (7, (.cst (.int .i64 128)))] none)))
@[simp] theorem h149_5_wp : type_of% (@wpH h149_5 _ h149_5.eq_1) := wpH h149_5.eq_1
def h149_6 : HC := (.reg (.chk none (.bin .sub) (.cons (.inp 4) (.cons (.cst (.int .i64 224)) .nil)) (.done [(5, (.op (.bin .sub) (.cons (.inp 4) (.cons (.cst (.int .i64 224)) .nil)))), (6, (.cst (.int .i64 2))), (7, (.cst (.int .i64 2048)))] none)))
@[simp] theorem h149_6_wp : type_of% (@wpH h149_6 _ h149_6.eq_1) := wpH h149_6.eq_1
def h149_7 : HC := (.reg (.chk none (.bin .sub) (.cons (.inp 4) (.cons (.cst (.int .i64 240)) .nil)) (.done [(5, (.op (.bin .sub) (.cons (.inp 4) (.cons (.cst (.int .i64 240)) .nil)))), (6, (.cst (.int .i64 3))), (7, (.cst (.int .i64 65536)))] none)))
@[simp] theorem h149_7_wp : type_of% (@wpH h149_7 _ h149_7.eq_1) := wpH h149_7.eq_1
def h149_8 : HC := (.seq (.reg (.chk none (.bin .add) (.cons (.cst (.int .i64 2097152)) (.cons (.inp 4) .nil)) (.done [(2, (.op (.bin .add) (.cons (.cst (.int .i64 2097152)) (.cons (.inp 4) .nil)))), (3, (.cst (.int .i64 1)))] none))) .ret)
@[simp] theorem h149_8_wp : type_of% (@wpH h149_8 _ h149_8.eq_1) := wpH h149_8.eq_1
def h149_9 : HC := (.br (.chk none (.bin .geq) (.cons (.inp 4) (.cons (.cst (.int .i64 240)) .nil)) (.bnd (.op (.bin .geq) (.cons (.inp 4) (.cons (.cst (.int .i64 240)) .nil))) (.chk (some ((.bv 0), true)) (.bin .lss) (.cons (.inp 4) (.cons (.cst (.int .i64 248)) .nil)) (.isb none (.bv 0) (.done [] (some (.ite (.bv 0) true (.op (.bin .lss) (.cons (.inp 4) (.cons (.cst (.int .i64 248)) .nil))) (.cst (.bool false))))))))) h149_7 h149_8)
@[simp] theorem h149_9_wp : type_of% (@wpH h149_9 _ h149_9.eq_1) := wpH h149_9.eq_1
def h149_10 : HC := (.br (.chk none (.bin .geq) (.cons (.inp 4) (.cons (.cst (.int .i64 224)) .nil)) (.bnd (.op (.bin .geq) (.cons (.inp 4) (.cons (.cst (.int .i64 224)) .nil))) (.chk (some ((.bv 0), true)) (.bin .lss) (.cons (.inp 4) (.cons (.cst (.int .i64 240)) .nil)) (.isb none (.bv 0) (.done [] (some (.ite (.bv 0) true (.op (.bin .lss) (.cons (.inp 4) (.cons (.cst (.int .i64 240)) .nil))) (.cst (.bool false))))))))) h149_6 h149_9)
@[simp] theorem h149_10_wp : type_of% (@wpH h149_10 _ h149_10.eq_1) := wpH h149_10.eq_1
def h149_11 : HC := (.br (.chk none (.bin .geq) (.cons (.inp 4) (.cons (.cst (.int .i64 192)) .nil)) (.bnd (.op (.bin .geq) (.cons (.inp 4) (.cons (.cst (.int .i64 192)) .nil))) (.chk (some ((.bv 0), true)) (.bin .lss) (.cons (.inp 4) (.cons (.cst (.int .i64 224)) .nil)) (.isb none (.bv 0) (.done [] (some (.ite (.bv 0) true (.op (.bin .lss) (.cons (.inp 4) (.cons (.cst (.int .i64 224)) .nil))) (.cst (.bool false))))))))) h149_5 h149_10)
@[simp] theorem h149_11_wp : type_of% (@wpH h149_11 _ h149_11.eq_1) := wpH h149_11.eq_1
def h149_12 : HC := (.br (.chk none (.bin .lss) (.cons (.inp 4) (.cons (.cst (.int .i64 128)) .nil)) (.done [] (some (.op (.bin .lss) (.cons (.inp 4) (.cons (.cst (.int .i64 128)) .nil)))))) h149_4 h149_11)
@[simp] theorem h149_12_wp : type_of% (@wpH h149_12 _ h149_12.eq_1) := wpH h149_12.eq_1
def h149_13 : HC := (.seq (.block 0 h149_12) h149_3)
@[simp] theorem h149_13_wp : type_of% (@wpH h149_13 _ h149_13.eq_1) := wpH h149_13.eq_1
def h149_14 : HC := (.seq (.reg (.done [(5, (.inp 4)), (6, (.cst (.int .i64 0))), (7, (.cst (.int .i64 0)))] none)) h149_13)
@[simp] theorem h149_14_wp : type_of% (@wpH h149_14 _ h149_14.eq_1) := wpH h149_14.eq_1
def h149_15 : HC := (.seq (.reg (.chk none .chS (.cons (.inp 0) (.cons (.inp 1) .nil)) (.chk none (.convI .i64) (.cons (.op .chS (.cons (.inp 0) (.cons (.inp 1) .nil))) .nil) (.done [(4, (.op (.convI .i64) (.cons (.op .chS (.cons (.inp 0) (.cons (.inp 1) .nil))) .nil)))] none)))) h149_14)
@[simp] theorem h149_15_wp : type_of% (@wpH h149_15 _ h149_15.eq_1) := wpH h149_15.eq_1
def l149 : Lifted := ⟨[0, 1, 4, 5, 6, 7, 8, 9, 10], 81, [.slot 2, .slot 3], (.seq (.reg (.done [(2, (.cst (.int .i64 0))), (3, (.cst (.int .i64 0)))] none)) h149_15)⟩
theorem l149_ok : liftFn F0 149 400 = some l149 := by kernel_rfl
theorem one_spec (l : List UInt8) (i : Nat) (w : World) (hi : i < l.length) (hl : l.length ≤ 1048576) :
    CallW Tryz.prog 149 [.string (mk l), .int .i64 i] (fun r w' => r = .tuple #[.int .i64 (oneF (l.drop i)).1, .int .i64 (oneF (l.drop i)).2] ∧ w' = w) w := by
  have hd : l.drop i = l[i] :: l.drop (i + 1) := by rw [List.drop_eq_getElem_cons hi]
  have hg : l[i]?.getD 0 = l[i] := by simp [hi]
  rw [hd]
  have hc := l[i].toNat_lt
  generalize l[i] = c at *
  refine callW_of_lift l149_ok (by simp [l149]) ?_
  simp [l149]
  simp only [hg]
  refine ⟨hi, ?_⟩
  try simp (disch := omega) only [wrap64]
  have rest : ∀ (v least : Int) (n : Nat) (Q : EX → List Value → World → Prop), n ≤ 3 → 0 ≤ v → v < 32 → (∀ env : List Value, env[2]?.getD undef = .int .i64 (chkF c.toNat (l.drop (i + 1)) v n least).1 → env[3]?.getD undef = .int .i64 (chkF c.toNat (l.drop (i + 1)) v n least).2 → Q .ret env w) →
      HC.wp F0 h149_3 Q [.string (mk l), .int .i64 i, .int .i64 0, .int .i64 0, .int .i64 c.toNat, .int .i64 v, .int .i64 n, .int .i64 least, undef] w := by
    intro v least n Q hn hv hv2 hQ
    simp
    refine eff_call ((tail_spec l i n v w hi hn hv hv2 hl).mono ?_)
    rintro r w' ⟨rfl, rfl⟩
    unfold chkF at hQ
    cases ht : tailF (l.drop (i + 1)) n v with
    | none =>
      simp only [ht] at hQ
      simp [condC_ite]
      try simp (disch := omega) only [wrap64]
      exact hQ _ rfl rfl
    | some u =>
      simp only [ht] at hQ
      by_cases q : least ≤ u ∧ u ≤ 1114111
      · simp [q.1, q.2, Int.not_lt.2 q.1, Int.not_lt.2 q.2]
        refine cndI (fun h => ?_) (fun h => ?_)
        · simp at h
          rw [if_pos (by omega)] at hQ
          simp
          try simp (disch := omega) only [wrap64]
          exact hQ _ rfl rfl
        · simp at h
          rw [if_neg (by omega)] at hQ
          simp
          try simp (disch := omega) only [wrap64]
          exact hQ _ rfl (by simp)
      · have q' : u < least ∨ 1114111 < u := by omega
        simp [q]
        refine cndI (fun h => ?_) (fun h => ?_)
        · rw [if_pos (by omega)] at hQ
          simp
          try simp (disch := omega) only [wrap64]
          exact hQ _ rfl rfl
        · exfalso; simp at h; omega
  rw [oneF_cons]
  refine cndI (fun h => ?_) (fun h => ?_)
  · simp at h
    rw [if_pos (by omega)]
    simp
  simp at h
  rw [if_neg (by omega)]
  simp
  refine cndI (fun h2 => ?_) (fun h2 => ?_)
  · simp at h2
    rw [if_pos (by omega)]
    simp
    try simp (disch := omega) only [wrap64]
    exact rest _ 128 1 _ (by omega) (by omega) (by omega) (fun env e1 e2 => by simp [e1, e2])
  simp at h2
  rw [if_neg (by omega)]
  simp
  refine cndI (fun h3 => ?_) (fun h3 => ?_)
  · simp at h3
    rw [if_pos (by omega)]
    simp
    try simp (disch := omega) only [wrap64]
    exact rest _ 2048 2 _ (by omega) (by omega) (by omega) (fun env e1 e2 => by simp [e1, e2])
  simp at h3
  rw [if_neg (by omega)]
  simp
  refine cndI (fun h4 => ?_) (fun h4 => ?_)
  · simp at h4
    rw [if_pos (by omega)]
    simp
    try simp (disch := omega) only [wrap64]
    exact rest _ 65536 3 _ (by omega) (by omega) (by omega) (fun env e1 e2 => by simp [e1, e2])
  simp at h4
  rw [if_neg (by omega)]
  simp
  try simp (disch := omega) only [wrap64]
  trace_state
end Go.HL.Nm

namespace Go.HL.Nm
open Go.HL Go.Proofs
set_option maxRecDepth 4000
set_option linter.unusedSimpArgs false
set_option linter.unusedVariables false
noncomputable def oneS : PS Tryz.prog where
  f := 149
  val args := match args with
    | [.string s, .int _ i] => .tuple #[.int .i64 (oneF (s.data.toList.drop i.toNat)).1, .int .i64 (oneF (s.data.toList.drop i.toNat)).2]
    | _ => undef
  ok args := match args with
    | [.string s, .int .i64 i] => s.data.toList.length ≤ 1048576 ∧ 0 ≤ i ∧ i < s.data.toList.length
    | _ => False
  sound args w h := by
    split at h
    · rename_i s i
      obtain ⟨h1, h2, h3⟩ := h
      obtain ⟨n, rfl⟩ := Int.eq_ofNat_of_zero_le h2
      have := one_spec s.data.toList n w (by omega) h1
      rw [← mk_eta] at this
      simpa using this
    · exact h.elim
noncomputable abbrev F1 : PF Tryz.prog := PF.of [oneS]
@[simp] theorem F1_one_val (args : List Value) : F1.val 149 args = oneS.val args := rfl
@[simp] theorem F1_one_ok (args : List Value) : F1.ok 149 args = oneS.ok args := rfl

def h117_0 : HC := (.seq (.reg (.done [(1, (.inp 3)), (2, (.inp 4))] none)) .ret)
@[simp] theorem h117_0_wp : type_of% (@wpH h117_0 _ h117_0.eq_1) := wpH h117_0.eq_1
def h117_1 : HC := (.reg (.chk none (.bin .add) (.cons (.inp 5) (.cons (.inp 7) .nil)) (.done [(5, (.op (.bin .add) (.cons (.inp 5) (.cons (.inp 7) .nil))))] none)))
@[simp] theorem h117_1_wp : type_of% (@wpH h117_1 _ h117_1.eq_1) := wpH h117_1.eq_1
def h117_2 : HC := (.seq (.reg (.eff (.bsl 3 1 1 #[(.int .i64 0)] [0]) (.cons (.inp 5) .nil) (.eff (.app 44 44 3 1 8 (.int .i64 0)) (.cons (.inp 4) (.cons (.bv 0) .nil)) (.done [(4, (.bv 1))] none)))) h117_1)
@[simp] theorem h117_2_wp : type_of% (@wpH h117_2 _ h117_2.eq_1) := wpH h117_2.eq_1
def h117_3 : HC := (.seq (.reg (.eff (.bsl 3 1 1 #[(.int .i64 0)] [0]) (.cons (.inp 6) .nil) (.eff (.app 44 44 3 1 8 (.int .i64 0)) (.cons (.inp 3) (.cons (.bv 0) .nil)) (.done [(3, (.bv 1))] none)))) h117_2)
@[simp] theorem h117_3_wp : type_of% (@wpH h117_3 _ h117_3.eq_1) := wpH h117_3.eq_1
def h117_4 : HC := (.seq (.reg (.chk none (.cal 149) (.cons (.inp 0) (.cons (.inp 5) .nil)) (.chk none (.ext 0) (.cons (.op (.cal 149) (.cons (.inp 0) (.cons (.inp 5) .nil))) .nil) (.chk none (.ext 1) (.cons (.op (.cal 149) (.cons (.inp 0) (.cons (.inp 5) .nil))) .nil) (.done [(6, (.op (.ext 0) (.cons (.op (.cal 149) (.cons (.inp 0) (.cons (.inp 5) .nil))) .nil))), (7, (.op (.ext 1) (.cons (.op (.cal 149) (.cons (.inp 0) (.cons (.inp 5) .nil))) .nil)))] none))))) h117_3)
@[simp] theorem h117_4_wp : type_of% (@wpH h117_4 _ h117_4.eq_1) := wpH h117_4.eq_1
def h117_5 : HC := (.block 1 h117_4)
@[simp] theorem h117_5_wp : type_of% (@wpH h117_5 _ h117_5.eq_1) := wpH h117_5.eq_1
def h117_6 : HC := (.seq (.br (.chk none .lenS (.cons (.inp 0) .nil) (.chk none (.bin .lss) (.cons (.inp 5) (.cons (.op .lenS (.cons (.inp 0) .nil)) .nil)) (.done [] (some (.op (.bin .lss) (.cons (.inp 5) (.cons (.op .lenS (.cons (.inp 0) .nil)) .nil))))))) .skip (.exit 0)) h117_5)
@[simp] theorem h117_6_wp : type_of% (@wpH h117_6 _ h117_6.eq_1) := wpH h117_6.eq_1
def h117_7 : HC := (.loop h117_6)
@[simp] theorem h117_7_wp : type_of% (@wpH h117_7 _ h117_7.eq_1) := wpH h117_7.eq_1
def h117_8 : HC := (.seq (.block 0 h117_7) h117_0)
@[simp] theorem h117_8_wp : type_of% (@wpH h117_8 _ h117_8.eq_1) := wpH h117_8.eq_1
def h117_9 : HC := (.seq (.reg (.done [(5, (.cst (.int .i64 0)))] none)) h117_8)
@[simp] theorem h117_9_wp : type_of% (@wpH h117_9 _ h117_9.eq_1) := wpH h117_9.eq_1
def h117_10 : HC := (.seq (.reg (.done [(3, (.cst (.slice none 0 0))), (4, (.cst (.slice none 0 0)))] none)) h117_9)
@[simp] theorem h117_10_wp : type_of% (@wpH h117_10 _ h117_10.eq_1) := wpH h117_10.eq_1
def l117 : Lifted := ⟨[0, 2, 3, 4, 5, 6, 7, 8], 32, [.slot 1, .slot 2], (.seq (.reg (.done [(1, (.cst (.slice none 0 0))), (2, (.cst (.slice none 0 0)))] none)) h117_10)⟩
theorem l117_ok : liftFn F1 117 400 = some l117 := by kernel_rfl
def ints (l : List Int) : List Value := l.map (Value.int .i64)
theorem units_spec (l : List UInt8) (w0 w : World) (A : Asn) (hl : l.length ≤ 1048576) (s : St w0 A w) :
    CallW Tryz.prog 117 [.string (mk l)] (fun r w' => ∃ v1 v2, r = .tuple #[v1, v2] ∧
      St w0 (A * own 3 1 v1 (units l).length (ints ((units l).map (·.1))) * own 3 1 v2 (units l).length (ints ((starts 0 (units l)).map (Nat.cast)))) w') w := by
  refine callW_of_lift l117_ok (by simp [l117]) ?_
  simp [l117]
  refine loopI (fun env w' => ∃ (i : Nat) (v1 v2 u n : Value) (done : List (Int × Nat)), env = [.string (mk l), .slice none 0 0, .slice none 0 0, v1, v2, .int .i64 i, u, n] ∧ i ≤ l.length ∧
      units l = done ++ units (l.drop i) ∧ i = sumW done ∧
      St w0 (A * own 3 1 v1 done.length (ints (done.map (·.1))) * own 3 1 v2 done.length (ints ((starts 0 done).map (Nat.cast)))) w')
    (fun env _ => l.length - slotN env 5) ⟨0, _, _, _, _, [], rfl, by omega, by simp, rfl, (s.own_nil _ _).own_nil _ _⟩ ?_
  rintro LQ env w' ⟨i, v1, v2, u, n, done, rfl, hi, hu, hsum, s'⟩ hN hE hR
  simp
  refine cndI (fun h => ?_) (fun h => ?_)
  · simp at h
    simp [oneS]
    refine ⟨⟨hl, h⟩, ?_⟩
    have hle := oneF_le (l := l) (i := i) h
    have hdl : done.length ≤ l.length := by have := units_len l; rw [hu, List.length_append] at this; omega
    refine eff_bsl1 s' rfl ?_
    intro b w1 s1
    simp
    refine eff_app (n := done.length) (m := 1) (news := [.int .i64 (oneF (l.drop i)).1]) s1.p3 rfl s1.cells_look (by simp [Value.oneCell']) (by decide) rfl (by unfold maxLen; omega) (by omega) ?_
    intro v1' w2 s2
    simp
    refine eff_bsl1 s2.p3.p3.drop rfl ?_
    intro b' w3 s3
    simp
    refine eff_app (n := done.length) (m := 1) (news := [.int .i64 i]) s3.swap rfl s3.cells_look (by simp [Value.oneCell']) (by decide) rfl (by unfold maxLen; omega) (by omega) ?_
    intro v2' w4 s4
    simp
    try simp (disch := omega) only [wrap64]
    refine hN _ _ ⟨i + (oneF (l.drop i)).2, v1', v2', _, _, done ++ [oneF (l.drop i)], by simp; exact ⟨rfl, rfl⟩, hle.1, units_step hu h, by simp [sumW_append, sumW, hsum], ?_⟩ (by simp [slotN]; omega)
    have := s4.swap.drop
    simpa [ints, starts_append, starts, hsum] using this
  · simp at h
    simp
    refine hE _ _ _ ?_
    simp
    have : i = l.length := by omega
    subst this
    rw [List.drop_length, units_nil, List.append_nil] at hu
    rw [hu]
    exact ⟨_, _, ⟨rfl, rfl⟩, s'⟩
def cutF (l : List UInt8) (n : Int) : List UInt8 := l.take (sumW ((units l).take n.toNat))
end Go.HL.Nm

namespace Go.HL.Nm
open Go.HL Go.Proofs
set_option maxRecDepth 4000
set_option linter.unusedSimpArgs false
set_option linter.unusedVariables false
noncomputable def inS : PS Tryz.prog where
  f := 150
  val args := match args with
    | [.int _ u, .int _ lo, .int _ hi] => .bool (inF u lo hi)
    | _ => undef
  ok args := match args with
    | [.int k _, .int k' _, .int k'' _] => k = .i64 ∧ k' = .i64 ∧ k'' = .i64
    | _ => False
  sound args w h := by
    split at h
    · obtain ⟨rfl, rfl, rfl⟩ := h; exact in_spec _ _ _ w
    · exact h.elim
noncomputable def rjoinerS : PS Tryz.prog := PS.ib 118 .i64 joinerF rjoiner_spec
noncomputable def joinerS : PS Tryz.prog := PS.ib 103 .i32 joinerF joiner_spec
noncomputable def letterS : PS Tryz.prog := PS.ib 102 .i32 letterF letter_spec
noncomputable def slhpS : PS Tryz.prog where
  f := 158
  val args := match args with
    | [.string s, .string p] => .bool (p.data.toList.isPrefixOf s.data.toList)
    | _ => undef
  ok args := match args with
    | [.string s, .string _] => s.data.toList.length ≤ 1048576
    | _ => False
  sound args w h := by
    split at h
    · rename_i s p
      have := slhp_spec s.data.toList p.data.toList w h
      rw [← mk_eta, ← mk_eta] at this
      exact this
    · exact h.elim
noncomputable abbrev F2 : PF Tryz.prog := PF.of [oneS, inS, rjoinerS, joinerS, letterS, slhpS]
@[simp] theorem F2_in_val (args : List Value) : F2.val 150 args = inS.val args := rfl
@[simp] theorem F2_in_ok (args : List Value) : F2.ok 150 args = inS.ok args := rfl
@[simp] theorem F2_hp_val (args : List Value) : F2.val 158 args = slhpS.val args := rfl
@[simp] theorem F2_hp_ok (args : List Value) : F2.ok 158 args = slhpS.ok args := rfl

def h119_0 : HC := (.seq (.reg (.chk none (.cal 150) (.cons (.inp 0) (.cons (.cst (.int .i64 48)) (.cons (.cst (.int .i64 57)) .nil))) (.bnd (.op (.cal 150) (.cons (.inp 0) (.cons (.cst (.int .i64 48)) (.cons (.cst (.int .i64 57)) .nil)))) (.chk (some ((.bv 0), false)) (.cal 150) (.cons (.inp 0) (.cons (.cst (.int .i64 65)) (.cons (.cst (.int .i64 90)) .nil))) (.isb none (.bv 0) (.bnd (.ite (.bv 0) true (.cst (.bool true)) (.op (.cal 150) (.cons (.inp 0) (.cons (.cst (.int .i64 65)) (.cons (.cst (.int .i64 90)) .nil))))) (.chk (some ((.bv 1), false)) (.cal 150) (.cons (.inp 0) (.cons (.cst (.int .i64 97)) (.cons (.cst (.int .i64 122)) .nil))) (.isb none (.bv 1) (.bnd (.ite (.bv 1) true (.cst (.bool true)) (.op (.cal 150) (.cons (.inp 0) (.cons (.cst (.int .i64 97)) (.cons (.cst (.int .i64 122)) .nil))))) (.chk (some ((.bv 2), false)) (.cal 150) (.cons (.inp 0) (.cons (.cst (.int .i64 192)) (.cons (.cst (.int .i64 255)) .nil))) (.isb none (.bv 2) (.bnd (.ite (.bv 2) true (.cst (.bool true)) (.op (.cal 150) (.cons (.inp 0) (.cons (.cst (.int .i64 192)) (.cons (.cst (.int .i64 255)) .nil))))) (.chk (some ((.bv 3), false)) (.cal 150) (.cons (.inp 0) (.cons (.cst (.int .i64 913)) (.cons (.cst (.int .i64 937)) .nil))) (.isb none (.bv 3) (.bnd (.ite (.bv 3) true (.cst (.bool true)) (.op (.cal 150) (.cons (.inp 0) (.cons (.cst (.int .i64 913)) (.cons (.cst (.int .i64 937)) .nil))))) (.chk (some ((.bv 4), false)) (.cal 150) (.cons (.inp 0) (.cons (.cst (.int .i64 945)) (.cons (.cst (.int .i64 969)) .nil))) (.isb none (.bv 4) (.bnd (.ite (.bv 4) true (.cst (.bool true)) (.op (.cal 150) (.cons (.inp 0) (.cons (.cst (.int .i64 945)) (.cons (.cst (.int .i64 969)) .nil))))) (.chk (some ((.bv 5), false)) (.bin .eql) (.cons (.inp 0) (.cons (.cst (.int .i64 1025)) .nil)) (.isb none (.bv 5) (.bnd (.ite (.bv 5) true (.cst (.bool true)) (.op (.bin .eql) (.cons (.inp 0) (.cons (.cst (.int .i64 1025)) .nil)))) (.chk (some ((.bv 6), false)) (.cal 150) (.cons (.inp 0) (.cons (.cst (.int .i64 1040)) (.cons (.cst (.int .i64 1103)) .nil))) (.isb none (.bv 6) (.bnd (.ite (.bv 6) true (.cst (.bool true)) (.op (.cal 150) (.cons (.inp 0) (.cons (.cst (.int .i64 1040)) (.cons (.cst (.int .i64 1103)) .nil))))) (.chk (some ((.bv 7), false)) (.bin .eql) (.cons (.inp 0) (.cons (.cst (.int .i64 1105)) .nil)) (.isb none (.bv 7) (.done [(1, (.ite (.bv 7) true (.cst (.bool true)) (.op (.bin .eql) (.cons (.inp 0) (.cons (.cst (.int .i64 1105)) .nil)))))] none))))))))))))))))))))))))))) .ret)
@[simp] theorem h119_0_wp : type_of% (@wpH h119_0 _ h119_0.eq_1) := wpH h119_0.eq_1
def h119_1 : HC := (.seq (.reg (.done [(1, (.cst (.bool false)))] none)) .ret)
@[simp] theorem h119_1_wp : type_of% (@wpH h119_1 _ h119_1.eq_1) := wpH h119_1.eq_1
def h119_2 : HC := (.seq (.br (.chk none (.bin .eql) (.cons (.inp 0) (.cons (.cst (.int .i64 215)) .nil)) (.bnd (.op (.bin .eql) (.cons (.inp 0) (.cons (.cst (.int .i64 215)) .nil))) (.chk (some ((.bv 0), false)) (.bin .eql) (.cons (.inp 0) (.cons (.cst (.int .i64 247)) .nil)) (.isb none (.bv 0) (.bnd (.ite (.bv 0) true (.cst (.bool true)) (.op (.bin .eql) (.cons (.inp 0) (.cons (.cst (.int .i64 247)) .nil)))) (.chk (some ((.bv 1), false)) (.bin .eql) (.cons (.inp 0) (.cons (.cst (.int .i64 930)) .nil)) (.isb none (.bv 1) (.done [] (some (.ite (.bv 1) true (.cst (.bool true)) (.op (.bin .eql) (.cons (.inp 0) (.cons (.cst (.int .i64 930)) .nil))))))))))))) h119_1 .skip) h119_0)
@[simp] theorem h119_2_wp : type_of% (@wpH h119_2 _ h119_2.eq_1) := wpH h119_2.eq_1
def l119 : Lifted := ⟨[0, 2], 47, [.slot 1], (.seq (.reg (.done [(1, (.cst (.bool false)))] none)) h119_2)⟩
theorem l119_ok : liftFn F2 119 400 = some l119 := by kernel_rfl

def h129_0 : HC := (.seq (.reg (.chk none (.cal 158) (.cons (.inp 0) (.cons (.inp 1) .nil)) (.done [(2, (.op (.cal 158) (.cons (.inp 0) (.cons (.inp 1) .nil))))] none))) .ret)
@[simp] theorem h129_0_wp : type_of% (@wpH h129_0 _ h129_0.eq_1) := wpH h129_0.eq_1
def l129 : Lifted := ⟨[0, 1, 4], 8, [.slot 2], (.seq (.reg (.done [(2, (.cst (.bool false)))] none)) h129_0)⟩
theorem l129_ok : liftFn F2 129 400 = some l129 := by kernel_rfl
theorem rletter_spec (u : Int) (w : World) : CallW Tryz.prog 119 [.int .i64 u] (fun r w' => r = .bool (letterF u) ∧ w' = w) w := by
  refine callW_of_lift l119_ok (by simp [l119]) ?_
  simp [l119, inS, condC_ite, letterF]
  grind
theorem hp_spec (s p : List UInt8) (w : World) (hs : s.length ≤ 1048576) : CallW Tryz.prog 129 [.string (mk s), .string (mk p)] (fun r w' => r = .bool (p.isPrefixOf s) ∧ w' = w) w := by
  refine callW_of_lift l129_ok (by simp [l129]) ?_
  simp [l129, slhpS]
  exact hs
def looksF (u : Int) : Int :=
  if u = 48 ∨ u = 959 ∨ u = 1086 ∨ (242 ≤ u ∧ u ≤ 246) ∨ u = 248 then 111
  else if u = 49 then 108
  else if (224 ≤ u ∧ u ≤ 229) ∨ u = 945 ∨ u = 1072 then 97
  else if u = 231 ∨ u = 1089 then 99
  else if (232 ≤ u ∧ u ≤ 235) ∨ u = 1077 ∨ u = 1105 then 101
  else if (236 ≤ u ∧ u ≤ 239) ∨ u = 953 then 105
  else if u = 954 ∨ u = 1082 then 107
  else if u = 241 then 110
  else if u = 961 ∨ u = 1088 then 112
  else if u = 964 ∨ u = 1090 then 116
  else if (249 ≤ u ∧ u ≤ 252) ∨ u = 965 then 117
  else if u = 957 then 118
  else if u = 967 ∨ u = 1093 then 120
  else if u = 253 ∨ u = 255 ∨ u = 947 ∨ u = 1091 then 121
  else if u = 32 ∨ u = 95 then 45
  else u
noncomputable def rletterS : PS Tryz.prog := PS.ib 119 .i64 letterF rletter_spec
noncomputable def hpS : PS Tryz.prog where
  f := 129
  val args := match args with
    | [.string s, .string p] => .bool (p.data.toList.isPrefixOf s.data.toList)
    | _ => undef
  ok args := match args with
    | [.string s, .string _] => s.data.toList.length ≤ 1048576
    | _ => False
  sound args w h := by
    split at h
    · rename_i s p
      have := hp_spec s.data.toList p.data.toList w h
      rw [← mk_eta, ← mk_eta] at this
      exact this
    · exact h.elim
noncomputable def foldS : PS Tryz.prog where
  f := 160
  val args := match args with
    | [.int _ u] => .int .i32 (foldF u)
    | _ => undef
  ok args := match args with
    | [.int k u] => k = .i32 ∧ 0 ≤ u ∧ u < 2097408
    | _ => False
  sound args w h := by
    split at h
    · obtain ⟨rfl, h1, h2⟩ := h; exact fold_spec _ w h1 h2
    · exact h.elim
noncomputable abbrev F3 : PF Tryz.prog := PF.of [oneS, inS, rjoinerS, joinerS, letterS, slhpS, rletterS, hpS, foldS]
@[simp] theorem F3_hp_val (args : List Value) : F3.val 129 args = hpS.val args := rfl
@[simp] theorem F3_hp_ok (args : List Value) : F3.ok 129 args = hpS.ok args := rfl

def h101_0 : HC := (.seq (.reg (.done [(3, (.inp 2))] none)) .ret)
@[simp] theorem h101_0_wp : type_of% (@wpH h101_0 _ h101_0.eq_1) := wpH h101_0.eq_1
def h101_1 : HC := (.seq (.reg (.chk none .chS (.cons (.inp 0) (.cons (.inp 1) .nil)) (.chk none (.convI .i32) (.cons (.op .chS (.cons (.inp 0) (.cons (.inp 1) .nil))) .nil) (.chk none (.bin .add) (.cons (.cst (.int .i32 2097152)) (.cons (.op (.convI .i32) (.cons (.op .chS (.cons (.inp 0) (.cons (.inp 1) .nil))) .nil)) .nil)) (.done [(3, (.op (.bin .add) (.cons (.cst (.int .i32 2097152)) (.cons (.op (.convI .i32) (.cons (.op .chS (.cons (.inp 0) (.cons (.inp 1) .nil))) .nil)) .nil))))] none))))) .ret)
@[simp] theorem h101_1_wp : type_of% (@wpH h101_1 _ h101_1.eq_1) := wpH h101_1.eq_1
def h101_2 : HC := (.seq (.br (.chk none (.bin .eql) (.cons (.inp 2) (.cons (.cst (.int .i32 65533)) .nil)) (.bnd (.op (.bin .eql) (.cons (.inp 2) (.cons (.cst (.int .i32 65533)) .nil))) (.chk (some ((.bv 0), true)) (.slS true false) (.cons (.inp 0) (.cons (.inp 1) .nil)) (.chk (some ((.bv 0), true)) (.cal 129) (.cons (.op (.slS true false) (.cons (.inp 0) (.cons (.inp 1) .nil))) (.cons (.cst (.string ⟨#[239, 191, 189]⟩)) .nil)) (.chk (some ((.bv 0), true)) (.un .not) (.cons (.op (.cal 129) (.cons (.op (.slS true false) (.cons (.inp 0) (.cons (.inp 1) .nil))) (.cons (.cst (.string ⟨#[239, 191, 189]⟩)) .nil))) .nil) (.isb none (.bv 0) (.done [] (some (.ite (.bv 0) true (.op (.un .not) (.cons (.op (.cal 129) (.cons (.op (.slS true false) (.cons (.inp 0) (.cons (.inp 1) .nil))) (.cons (.cst (.string ⟨#[239, 191, 189]⟩)) .nil))) .nil)) (.cst (.bool false))))))))))) h101_1 .skip) h101_0)
@[simp] theorem h101_2_wp : type_of% (@wpH h101_2 _ h101_2.eq_1) := wpH h101_2.eq_1
def l101 : Lifted := ⟨[0, 1, 2, 6], 22, [.slot 3], (.seq (.reg (.done [(3, (.cst (.int .i32 0)))] none)) h101_2)⟩
theorem l101_ok : liftFn F3 101 400 = some l101 := by kernel_rfl
theorem at_spec (l : List UInt8) (i : Nat) (w : World) (hi : i < l.length) (hl : l.length ≤ 1048576) :
    CallW Tryz.prog 101 [.string (mk l), .int .i64 i, .int .i32 (runeOf (oneF (l.drop i)).1)] (fun r w' => r = .int .i32 (oneF (l.drop i)).1 ∧ w' = w) w := by
  have hne : l.drop i ≠ [] := by simp; omega
  have hu := unit_of hne
  have hb := oneF_bd hne
  have hd : (l.drop i).headD 0 = l[i]?.getD 0 := by simp [List.headD_eq_head?_getD, List.head?_drop]
  have hc := (l[i]?.getD 0).toNat_lt
  rw [hd] at hu
  refine callW_of_lift l101_ok (by simp [l101]) ?_
  simp [l101, hpS]
  refine ⟨fun _ => by omega, fun _ => by omega, ?_⟩
  refine cndI (fun h => ?_) (fun h => ?_)
  · simp at h
    rw [if_pos ⟨by omega, h.2⟩] at hu
    simp
    try simp (disch := omega) only [wrap32]
    exact ⟨hi, hu⟩
  · simp at h
    rw [if_neg (by rintro ⟨h1, h2⟩; rw [List.isPrefixOf_iff_prefix.2 (h (by omega))] at h2; cases h2)] at hu
    simp
    exact hu
noncomputable def atS : PS Tryz.prog where
  f := 101
  val args := match args with
    | [.string s, .int _ i, .int _ _] => .int .i32 (oneF (s.data.toList.drop i.toNat)).1
    | _ => undef
  ok args := match args with
    | [.string s, .int k i, .int k' r] => k = .i64 ∧ k' = .i32 ∧ s.data.toList.length ≤ 1048576 ∧ 0 ≤ i ∧ i < s.data.toList.length ∧ r = runeOf (oneF (s.data.toList.drop i.toNat)).1
    | _ => False
  sound args w h := by
    split at h
    · rename_i s k i k' r
      obtain ⟨rfl, rfl, h1, h2, h3, rfl⟩ := h
      obtain ⟨n, rfl⟩ := Int.eq_ofNat_of_zero_le h2
      have := at_spec s.data.toList n w (by omega) h1
      rw [← mk_eta] at this
      simpa using this
    · exact h.elim
noncomputable abbrev F4 : PF Tryz.prog := PF.of [oneS, inS, rjoinerS, joinerS, letterS, slhpS, rletterS, hpS, foldS, atS]
@[simp] theorem F4_one_val (args : List Value) : F4.val 149 args = oneS.val args := rfl
@[simp] theorem F4_one_ok (args : List Value) : F4.ok 149 args = oneS.ok args := rfl
@[simp] theorem F4_rj_val (args : List Value) : F4.val 118 args = rjoinerS.val args := rfl
@[simp] theorem F4_rj_ok (args : List Value) : F4.ok 118 args = rjoinerS.ok args := rfl
@[simp] theorem F4_j_val (args : List Value) : F4.val 103 args = joinerS.val args := rfl
@[simp] theorem F4_j_ok (args : List Value) : F4.ok 103 args = joinerS.ok args := rfl
@[simp] theorem F4_l_val (args : List Value) : F4.val 102 args = letterS.val args := rfl
@[simp] theorem F4_l_ok (args : List Value) : F4.ok 102 args = letterS.ok args := rfl
@[simp] theorem F4_rl_val (args : List Value) : F4.val 119 args = rletterS.val args := rfl
@[simp] theorem F4_rl_ok (args : List Value) : F4.ok 119 args = rletterS.ok args := rfl
@[simp] theorem F4_f_val (args : List Value) : F4.val 160 args = foldS.val args := rfl
@[simp] theorem F4_f_ok (args : List Value) : F4.ok 160 args = foldS.ok args := rfl
@[simp] theorem F4_at_val (args : List Value) : F4.val 101 args = atS.val args := rfl
@[simp] theorem F4_at_ok (args : List Value) : F4.ok 101 args = atS.ok args := rfl
@[simp] theorem rj_val (u : Int) (k : IntKind) : rjoinerS.val [.int k u] = .bool (joinerF u) := rfl
@[simp] theorem rj_ok (u : Int) (k : IntKind) : rjoinerS.ok [.int k u] = (k = .i64) := rfl
@[simp] theorem j_val (u : Int) (k : IntKind) : joinerS.val [.int k u] = .bool (joinerF u) := rfl
@[simp] theorem j_ok (u : Int) (k : IntKind) : joinerS.ok [.int k u] = (k = .i32) := rfl
@[simp] theorem l_val (u : Int) (k : IntKind) : letterS.val [.int k u] = .bool (letterF u) := rfl
@[simp] theorem l_ok (u : Int) (k : IntKind) : letterS.ok [.int k u] = (k = .i32) := rfl
@[simp] theorem rl_val (u : Int) (k : IntKind) : rletterS.val [.int k u] = .bool (letterF u) := rfl
@[simp] theorem rl_ok (u : Int) (k : IntKind) : rletterS.ok [.int k u] = (k = .i64) := rfl
@[simp] theorem f_val (u : Int) (k : IntKind) : foldS.val [.int k u] = .int .i32 (foldF u) := rfl
@[simp] theorem f_ok (u : Int) (k : IntKind) : foldS.ok [.int k u] = (k = .i32 ∧ 0 ≤ u ∧ u < 2097408) := rfl
@[simp] theorem at_val (l : List UInt8) (i r : Int) (k k' : IntKind) : atS.val [.string (mk l), .int k i, .int k' r] = .int .i32 (oneF (l.drop i.toNat)).1 := by simp [atS]
@[simp] theorem at_ok (l : List UInt8) (i r : Int) (k k' : IntKind) : atS.ok [.string (mk l), .int k i, .int k' r] = (k = .i64 ∧ k' = .i32 ∧ l.length ≤ 1048576 ∧ 0 ≤ i ∧ i < l.length ∧ r = runeOf (oneF (l.drop i.toNat)).1) := by simp [atS]
end Go.HL.Nm

namespace Go.HL.Nm
open Go.HL Go.Proofs
set_option maxRecDepth 4000
set_option linter.unusedSimpArgs false
set_option linter.unusedVariables false
def badAt (j : Bool) (u : Int) : Bool := !letterF u && (j || !joinerF u)
def faultF : Bool → Nat → List (Int × Nat) → Option Nat
  | _, _, [] => none
  | j, p, u :: r => if badAt (j || r.isEmpty) u.1 then some p else faultF (joinerF u.1) (p + u.2) r
def faultP : Bool → Nat → List (Int × Nat) → Option Nat
  | _, _, [] => none
  | j, p, u :: r => if badAt j u.1 then some p else faultP (joinerF u.1) (p + u.2) r
def lastJ : Bool → List (Int × Nat) → Bool
  | j, [] => j
  | _, u :: r => lastJ (joinerF u.1) r
def lastP : Nat → Nat → List (Int × Nat) → Nat
  | d, _, [] => d
  | _, p, u :: r => lastP p (p + u.2) r
theorem joiner_letter {u : Int} (h : joinerF u = true) : letterF u = false := by
  simp only [joinerF, Bool.or_eq_true, decide_eq_true_eq] at h
  rcases h with (h | h) | h <;> subst h <;> decide
theorem fault_eq : ∀ (r : List (Int × Nat)) (j : Bool) (p d : Nat), r ≠ [] → faultF j p r = (match faultP j p r with | some q => some q | none => if lastJ j r then some (lastP d p r) else none)
  | [], _, _, _, h => absurd rfl h
  | [u], j, p, d, _ => by
    cases hj : joinerF u.1 <;> cases hl : letterF u.1 <;> cases j <;> (first | (simp [faultF, faultP, lastJ, lastP, badAt, hj, hl]; done) | (have := joiner_letter hj; rw [hl] at this; cases this))
  | u :: v :: r, j, p, d, _ => by
    have ih := fault_eq (v :: r) (joinerF u.1) (p + u.2) p (by simp)
    rw [faultF, faultP]
    simp only [List.isEmpty_cons, Bool.or_false]
    cases badAt j u.1
    · simp only [Bool.false_eq_true, if_false]; rw [ih]; rfl
    · rfl
theorem faultP_snoc : ∀ (r : List (Int × Nat)) (u : Int × Nat) (j : Bool) (p : Nat), faultP j p (r ++ [u]) = (match faultP j p r with | some q => some q | none => if badAt (lastJ j r) u.1 then some (p + sumW r) else none)
  | [], u, j, p => by cases h : badAt j u.1 <;> simp [faultP, lastJ, sumW, h]
  | v :: r, u, j, p => by
    have ih := faultP_snoc r u (joinerF v.1) (p + v.2)
    cases h : badAt j v.1
    · simp only [List.cons_append, faultP, lastJ, sumW, h, Bool.false_eq_true, if_false]
      rw [ih, Nat.add_assoc]
      rfl
    · simp [faultP, h]
theorem lastJ_snoc : ∀ (r : List (Int × Nat)) (u : Int × Nat) (j : Bool), lastJ j (r ++ [u]) = joinerF u.1
  | [], u, j => rfl
  | v :: r, u, j => by simp only [List.cons_append, lastJ]; exact lastJ_snoc r u _
theorem lastP_snoc : ∀ (r : List (Int × Nat)) (u : Int × Nat) (d p : Nat), lastP d p (r ++ [u]) = p + sumW r
  | [], u, d, p => by simp [lastP, sumW]
  | v :: r, u, d, p => by simp only [List.cons_append, lastP, sumW]; rw [lastP_snoc r u]; omega
def optI : Option Nat → Int
  | some q => q
  | none => -1
def checkF (l : List UInt8) : Int × Int :=
  if l = [] then (0, 41)
  else if 24 < (units l).length then (sumW ((units l).take 24), 42)
  else match faultF true 0 (units l) with
    | some p => (p, 40)
    | none => (0, 0)

def h75_0 : HC := (.seq (.reg (.done [(1, (.cst (.int .i64 0))), (2, (.cst (.int .i64 0)))] none)) .ret)
@[simp] theorem h75_0_wp : type_of% (@wpH h75_0 _ h75_0.eq_1) := wpH h75_0.eq_1
def h75_1 : HC := (.seq (.reg (.done [(1, (.inp 4)), (2, (.cst (.int .i64 40)))] none)) .ret)
@[simp] theorem h75_1_wp : type_of% (@wpH h75_1 _ h75_1.eq_1) := wpH h75_1.eq_1
def h75_2 : HC := (.seq (.br (.chk none (.bin .geq) (.cons (.inp 4) (.cons (.cst (.int .i64 0)) .nil)) (.done [] (some (.op (.bin .geq) (.cons (.inp 4) (.cons (.cst (.int .i64 0)) .nil)))))) h75_1 .skip) h75_0)
@[simp] theorem h75_2_wp : type_of% (@wpH h75_2 _ h75_2.eq_1) := wpH h75_2.eq_1
def h75_3 : HC := (.reg (.done [(4, (.inp 5))] none))
@[simp] theorem h75_3_wp : type_of% (@wpH h75_3 _ h75_3.eq_1) := wpH h75_3.eq_1
def h75_4 : HC := (.seq (.br (.chk none (.bin .lss) (.cons (.inp 4) (.cons (.cst (.int .i64 0)) .nil)) (.bnd (.op (.bin .lss) (.cons (.inp 4) (.cons (.cst (.int .i64 0)) .nil))) (.isb none (.bv 0) (.done [] (some (.ite (.bv 0) true (.inp 6) (.cst (.bool false)))))))) h75_3 .skip) h75_2)
@[simp] theorem h75_4_wp : type_of% (@wpH h75_4 _ h75_4.eq_1) := wpH h75_4.eq_1
def h75_5 : HC := (.reg (.done [(5, (.inp 7))] none))
@[simp] theorem h75_5_wp : type_of% (@wpH h75_5 _ h75_5.eq_1) := wpH h75_5.eq_1
def h75_6 : HC := (.seq (.reg (.chk none (.cal 103) (.cons (.inp 9) .nil) (.done [(6, (.op (.cal 103) (.cons (.inp 9) .nil)))] none))) h75_5)
@[simp] theorem h75_6_wp : type_of% (@wpH h75_6 _ h75_6.eq_1) := wpH h75_6.eq_1
def h75_7 : HC := (.reg (.done [(4, (.inp 7))] none))
@[simp] theorem h75_7_wp : type_of% (@wpH h75_7 _ h75_7.eq_1) := wpH h75_7.eq_1
def h75_8 : HC := (.seq (.br (.chk none (.bin .lss) (.cons (.inp 4) (.cons (.cst (.int .i64 0)) .nil)) (.bnd (.op (.bin .lss) (.cons (.inp 4) (.cons (.cst (.int .i64 0)) .nil))) (.chk (some ((.bv 0), true)) (.cal 102) (.cons (.inp 9) .nil) (.chk (some ((.bv 0), true)) (.un .not) (.cons (.op (.cal 102) (.cons (.inp 9) .nil)) .nil) (.isb none (.bv 0) (.bnd (.ite (.bv 0) true (.op (.un .not) (.cons (.op (.cal 102) (.cons (.inp 9) .nil)) .nil)) (.cst (.bool false))) (.bnd (.ite (.bv 1) true (.inp 6) (.cst (.tuple #[]))) (.chk (some ((.bv 2), false)) (.cal 103) (.cons (.inp 9) .nil) (.chk (some ((.bv 2), false)) (.un .not) (.cons (.op (.cal 103) (.cons (.inp 9) .nil)) .nil) (.isb (some ((.bv 1), true)) (.bv 2) (.isb none (.bv 1) (.done [] (some (.ite (.bv 1) true (.ite (.bv 2) true (.cst (.bool true)) (.op (.un .not) (.cons (.op (.cal 103) (.cons (.inp 9) .nil)) .nil))) (.cst (.bool false)))))))))))))))) h75_7 .skip) h75_6)
@[simp] theorem h75_8_wp : type_of% (@wpH h75_8 _ h75_8.eq_1) := wpH h75_8.eq_1
def h75_9 : HC := (.seq (.reg (.chk none (.cal 101) (.cons (.inp 0) (.cons (.inp 7) (.cons (.inp 8) .nil))) (.done [(9, (.op (.cal 101) (.cons (.inp 0) (.cons (.inp 7) (.cons (.inp 8) .nil)))))] none))) h75_8)
@[simp] theorem h75_9_wp : type_of% (@wpH h75_9 _ h75_9.eq_1) := wpH h75_9.eq_1
def h75_10 : HC := (.seq (.reg (.chk none (.bin .add) (.cons (.inp 3) (.cons (.cst (.int .i64 1)) .nil)) (.done [(3, (.op (.bin .add) (.cons (.inp 3) (.cons (.cst (.int .i64 1)) .nil))))] none))) h75_9)
@[simp] theorem h75_10_wp : type_of% (@wpH h75_10 _ h75_10.eq_1) := wpH h75_10.eq_1
def h75_11 : HC := (.seq (.reg (.done [(1, (.inp 7)), (2, (.cst (.int .i64 42)))] none)) .ret)
@[simp] theorem h75_11_wp : type_of% (@wpH h75_11 _ h75_11.eq_1) := wpH h75_11.eq_1
def h75_12 : HC := (.seq (.br (.chk none (.bin .eql) (.cons (.inp 3) (.cons (.cst (.int .i64 24)) .nil)) (.done [] (some (.op (.bin .eql) (.cons (.inp 3) (.cons (.cst (.int .i64 24)) .nil)))))) h75_11 .skip) h75_10)
@[simp] theorem h75_12_wp : type_of% (@wpH h75_12 _ h75_12.eq_1) := wpH h75_12.eq_1
def h75_13 : HC := (.seq (.reg (.chk none (.ext 1) (.cons (.inp 11) .nil) (.chk none (.ext 2) (.cons (.inp 11) .nil) (.done [(7, (.op (.ext 1) (.cons (.inp 11) .nil))), (8, (.op (.ext 2) (.cons (.inp 11) .nil)))] none)))) h75_12)
@[simp] theorem h75_13_wp : type_of% (@wpH h75_13 _ h75_13.eq_1) := wpH h75_13.eq_1
def h75_14 : HC := (.block 1 h75_13)
@[simp] theorem h75_14_wp : type_of% (@wpH h75_14 _ h75_14.eq_1) := wpH h75_14.eq_1
def h75_15 : HC := (.seq (.br (.eff (.nxt true 0) (.cons (.inp 10) .nil) (.chk none (.ext 0) (.cons (.bv 0) .nil) (.done [(11, (.bv 0))] (some (.op (.ext 0) (.cons (.bv 0) .nil)))))) .skip (.exit 0)) h75_14)
@[simp] theorem h75_15_wp : type_of% (@wpH h75_15 _ h75_15.eq_1) := wpH h75_15.eq_1
def h75_16 : HC := (.loop h75_15)
@[simp] theorem h75_16_wp : type_of% (@wpH h75_16 _ h75_16.eq_1) := wpH h75_16.eq_1
def h75_17 : HC := (.seq (.block 0 h75_16) h75_4)
@[simp] theorem h75_17_wp : type_of% (@wpH h75_17 _ h75_17.eq_1) := wpH h75_17.eq_1
def h75_18 : HC := (.seq (.reg (.eff (.rngS 9) (.cons (.inp 0) .nil) (.done [(10, (.bv 0))] none))) h75_17)
@[simp] theorem h75_18_wp : type_of% (@wpH h75_18 _ h75_18.eq_1) := wpH h75_18.eq_1
def h75_19 : HC := (.seq (.reg (.done [(6, (.cst (.bool true)))] none)) h75_18)
@[simp] theorem h75_19_wp : type_of% (@wpH h75_19 _ h75_19.eq_1) := wpH h75_19.eq_1
def h75_20 : HC := (.seq (.reg (.done [(3, (.cst (.int .i64 0))), (4, (.cst (.int .i64 (-1)))), (5, (.cst (.int .i64 0)))] none)) h75_19)
@[simp] theorem h75_20_wp : type_of% (@wpH h75_20 _ h75_20.eq_1) := wpH h75_20.eq_1
def h75_21 : HC := (.seq (.reg (.done [(1, (.cst (.int .i64 0))), (2, (.cst (.int .i64 41)))] none)) .ret)
@[simp] theorem h75_21_wp : type_of% (@wpH h75_21 _ h75_21.eq_1) := wpH h75_21.eq_1
def h75_22 : HC := (.seq (.br (.chk none (.bin .eql) (.cons (.inp 0) (.cons (.cst (.string ⟨#[]⟩)) .nil)) (.done [] (some (.op (.bin .eql) (.cons (.inp 0) (.cons (.cst (.string ⟨#[]⟩)) .nil)))))) h75_21 .skip) h75_20)
@[simp] theorem h75_22_wp : type_of% (@wpH h75_22 _ h75_22.eq_1) := wpH h75_22.eq_1
def l75 : Lifted := ⟨[0, 2, 3, 4, 5, 6, 7, 8, 9, 10, 14, 15], 56, [.slot 1, .slot 2], (.seq (.reg (.done [(1, (.cst (.int .i64 0))), (2, (.cst (.int .i64 0)))] none)) h75_22)⟩
theorem l75_ok : liftFn F4 75 400 = some l75 := by kernel_rfl

def h88_0 : HC := (.seq (.reg (.done [(1, (.cst (.int .i64 0))), (2, (.cst (.int .i64 0)))] none)) .ret)
@[simp] theorem h88_0_wp : type_of% (@wpH h88_0 _ h88_0.eq_1) := wpH h88_0.eq_1
def h88_1 : HC := (.reg (.chk none (.bin .add) (.cons (.inp 5) (.cons (.cst (.int .i64 1)) .nil)) (.done [(5, (.op (.bin .add) (.cons (.inp 5) (.cons (.cst (.int .i64 1)) .nil))))] none)))
@[simp] theorem h88_1_wp : type_of% (@wpH h88_1 _ h88_1.eq_1) := wpH h88_1.eq_1
def h88_2 : HC := (.seq (.reg (.chk none (.idxL 1) (.cons (.inp 4) (.cons (.inp 5) .nil)) (.eff (.ld false 1) (.cons (.op (.idxL 1) (.cons (.inp 4) (.cons (.inp 5) .nil))) .nil) (.done [(1, (.bv 0)), (2, (.cst (.int .i64 40)))] none)))) .ret)
@[simp] theorem h88_2_wp : type_of% (@wpH h88_2 _ h88_2.eq_1) := wpH h88_2.eq_1
def h88_3 : HC := (.br (.chk none (.idxL 1) (.cons (.inp 3) (.cons (.inp 5) .nil)) (.eff (.ld false 1) (.cons (.op (.idxL 1) (.cons (.inp 3) (.cons (.inp 5) .nil))) .nil) (.chk none (.cal 119) (.cons (.bv 0) .nil) (.chk none (.un .not) (.cons (.op (.cal 119) (.cons (.bv 0) .nil)) .nil) (.bnd (.op (.un .not) (.cons (.op (.cal 119) (.cons (.bv 0) .nil)) .nil)) (.chk (some ((.bv 1), true)) (.idxL 1) (.cons (.inp 3) (.cons (.inp 5) .nil)) (.ite (.bv 1) true (.eff (.ld false 1) (.cons (.ite (.bv 1) true (.op (.idxL 1) (.cons (.inp 3) (.cons (.inp 5) .nil))) (.cst (.tuple #[]))) .nil) (.chk none (.cal 118) (.cons (.bv 2) .nil) (.chk none (.un .not) (.cons (.op (.cal 118) (.cons (.bv 2) .nil)) .nil) (.bnd (.op (.un .not) (.cons (.op (.cal 118) (.cons (.bv 2) .nil)) .nil)) (.isb none (.bv 3) (.isb none (.bv 1) (.done [] (some (.ite (.bv 3) true (.cst (.bool true)) (.inp 6)))))))))) (.isb none (.bv 1) (.done [] (some (.cst (.bool false)))))))))))) h88_2 .skip)
@[simp] theorem h88_3_wp : type_of% (@wpH h88_3 _ h88_3.eq_1) := wpH h88_3.eq_1
def h88_4 : HC := (.seq (.reg (.chk none (.bin .eql) (.cons (.inp 5) (.cons (.cst (.int .i64 0)) .nil)) (.bnd (.op (.bin .eql) (.cons (.inp 5) (.cons (.cst (.int .i64 0)) .nil))) (.chk (some ((.bv 0), false)) .lenL (.cons (.inp 3) .nil) (.chk (some ((.bv 0), false)) (.bin .sub) (.cons (.op .lenL (.cons (.inp 3) .nil)) (.cons (.cst (.int .i64 1)) .nil)) (.chk (some ((.bv 0), false)) (.bin .eql) (.cons (.inp 5) (.cons (.op (.bin .sub) (.cons (.op .lenL (.cons (.inp 3) .nil)) (.cons (.cst (.int .i64 1)) .nil))) .nil)) (.isb none (.bv 0) (.bnd (.ite (.bv 0) true (.cst (.bool true)) (.op (.bin .eql) (.cons (.inp 5) (.cons (.op (.bin .sub) (.cons (.op .lenL (.cons (.inp 3) .nil)) (.cons (.cst (.int .i64 1)) .nil))) .nil)))) (.chk (some ((.bv 1), false)) (.bin .sub) (.cons (.inp 5) (.cons (.cst (.int .i64 1)) .nil)) (.chk (some ((.bv 1), false)) (.idxL 1) (.cons (.inp 3) (.cons (.op (.bin .sub) (.cons (.inp 5) (.cons (.cst (.int .i64 1)) .nil))) .nil)) (.ite (.bv 1) false (.eff (.ld false 1) (.cons (.ite (.bv 1) false (.op (.idxL 1) (.cons (.inp 3) (.cons (.op (.bin .sub) (.cons (.inp 5) (.cons (.cst (.int .i64 1)) .nil))) .nil))) (.cst (.tuple #[]))) .nil) (.chk none (.cal 118) (.cons (.bv 2) .nil) (.isb none (.bv 1) (.done [(6, (.op (.cal 118) (.cons (.bv 2) .nil)))] none)))) (.isb none (.bv 1) (.done [(6, (.cst (.bool true)))] none))))))))))))) h88_3)
@[simp] theorem h88_4_wp : type_of% (@wpH h88_4 _ h88_4.eq_1) := wpH h88_4.eq_1
def h88_5 : HC := (.seq (.block 1 h88_4) h88_1)
@[simp] theorem h88_5_wp : type_of% (@wpH h88_5 _ h88_5.eq_1) := wpH h88_5.eq_1
def h88_6 : HC := (.seq (.br (.chk none .lenL (.cons (.inp 3) .nil) (.chk none (.bin .lss) (.cons (.inp 5) (.cons (.op .lenL (.cons (.inp 3) .nil)) .nil)) (.done [] (some (.op (.bin .lss) (.cons (.inp 5) (.cons (.op .lenL (.cons (.inp 3) .nil)) .nil))))))) .skip (.exit 0)) h88_5)
@[simp] theorem h88_6_wp : type_of% (@wpH h88_6 _ h88_6.eq_1) := wpH h88_6.eq_1
def h88_7 : HC := (.loop h88_6)
@[simp] theorem h88_7_wp : type_of% (@wpH h88_7 _ h88_7.eq_1) := wpH h88_7.eq_1
def h88_8 : HC := (.seq (.block 0 h88_7) h88_0)
@[simp] theorem h88_8_wp : type_of% (@wpH h88_8 _ h88_8.eq_1) := wpH h88_8.eq_1
def h88_9 : HC := (.seq (.reg (.done [(5, (.cst (.int .i64 0)))] none)) h88_8)
@[simp] theorem h88_9_wp : type_of% (@wpH h88_9 _ h88_9.eq_1) := wpH h88_9.eq_1
def h88_10 : HC := (.seq (.reg (.chk none (.idxL 1) (.cons (.inp 4) (.cons (.cst (.int .i64 24)) .nil)) (.eff (.ld false 1) (.cons (.op (.idxL 1) (.cons (.inp 4) (.cons (.cst (.int .i64 24)) .nil))) .nil) (.done [(1, (.bv 0)), (2, (.cst (.int .i64 42)))] none)))) .ret)
@[simp] theorem h88_10_wp : type_of% (@wpH h88_10 _ h88_10.eq_1) := wpH h88_10.eq_1
def h88_11 : HC := (.seq (.br (.chk none .lenL (.cons (.inp 3) .nil) (.chk none (.bin .gtr) (.cons (.op .lenL (.cons (.inp 3) .nil)) (.cons (.cst (.int .i64 24)) .nil)) (.done [] (some (.op (.bin .gtr) (.cons (.op .lenL (.cons (.inp 3) .nil)) (.cons (.cst (.int .i64 24)) .nil))))))) h88_10 .skip) h88_9)
@[simp] theorem h88_11_wp : type_of% (@wpH h88_11 _ h88_11.eq_1) := wpH h88_11.eq_1
def h88_12 : HC := (.seq (.reg (.done [(1, (.cst (.int .i64 0))), (2, (.cst (.int .i64 41)))] none)) .ret)
@[simp] theorem h88_12_wp : type_of% (@wpH h88_12 _ h88_12.eq_1) := wpH h88_12.eq_1
def h88_13 : HC := (.seq (.br (.chk none .lenL (.cons (.inp 3) .nil) (.chk none (.bin .eql) (.cons (.op .lenL (.cons (.inp 3) .nil)) (.cons (.cst (.int .i64 0)) .nil)) (.done [] (some (.op (.bin .eql) (.cons (.op .lenL (.cons (.inp 3) .nil)) (.cons (.cst (.int .i64 0)) .nil))))))) h88_12 .skip) h88_11)
@[simp] theorem h88_13_wp : type_of% (@wpH h88_13 _ h88_13.eq_1) := wpH h88_13.eq_1
def h88_14 : HC := (.seq (.reg (.eff (.call 117) (.cons (.inp 0) .nil) (.chk none (.ext 0) (.cons (.bv 0) .nil) (.chk none (.ext 1) (.cons (.bv 0) .nil) (.done [(3, (.op (.ext 0) (.cons (.bv 0) .nil))), (4, (.op (.ext 1) (.cons (.bv 0) .nil)))] none))))) h88_13)
@[simp] theorem h88_14_wp : type_of% (@wpH h88_14 _ h88_14.eq_1) := wpH h88_14.eq_1
def l88 : Lifted := ⟨[0, 2, 3, 4, 5, 6, 7], 66, [.slot 1, .slot 2], (.seq (.reg (.done [(1, (.cst (.int .i64 0))), (2, (.cst (.int .i64 0)))] none)) h88_14)⟩
theorem l88_ok : liftFn F4 88 400 = some l88 := by kernel_rfl
theorem check_spec (l : List UInt8) (w0 w : World) (A : Asn) (hl : l.length ≤ 1048576) (s : St w0 A w) :
    CallW Tryz.prog 75 [.string (mk l)] (fun r w' => r = .tuple #[.int .i64 (checkF l).1, .int .i64 (checkF l).2] ∧ St w0 A w') w := by
  refine callW_of_lift l75_ok (by simp [l75]) ?_
  simp [l75]
  refine cndI (fun h => ?_) (fun h => ?_)
  · simp at h
    subst h
    simp [checkF]
    exact s
  simp at h
  simp
  refine eff_rngS s ?_
  intro b w1 s1
  simp
  refine loopI (fun env w' => ∃ (i : Nat) (done : List (Int × Nat)) (x y z t : Value), env = [.string (mk l), .int .i64 0, .int .i64 0, .int .i64 done.length, .int .i64 (optI (faultP true 0 done)), .int .i64 (lastP 0 0 done), .bool (lastJ true done), x, y, z, .pointer (some ⟨b, 0, none⟩), t] ∧
      i ≤ l.length ∧ units l = done ++ units (l.drop i) ∧ i = sumW done ∧ done.length ≤ 24 ∧ St w0 (A * pt b (.stringIter (mk l) i)) w')
    (fun env _ => 25 - slotN env 3) ⟨0, [], _, _, _, _, by simp [optI, faultP, lastP, lastJ]; exact ⟨rfl, rfl, rfl, rfl⟩, by omega, by simp, rfl, by simp, s1⟩ ?_
  rintro LQ env w' ⟨i, done, x, y, z, t, rfl, hi, hu, hsum, hd24, s'⟩ hN hE hR
  simp
  refine eff_nxtS s' (fun h w2 s2 => ?_) (fun h => ?_)
  · simp at h
    have hle := oneF_le (l := l) (i := i) h
    have hob := oneF_bd (l := l.drop i) (by simp; omega)
    rw [decode_decL, decL_oneF _ (by simp; omega)] at s2
    have hstep := units_step hu h
    rw [decode_decL, decL_oneF _ (by simp; omega)]
    simp
    refine cndI (fun h2 => ?_) (fun h2 => ?_)
    · simp at h2
      simp
      refine hR _ _ ?_
      simp
      refine ⟨?_, s2.drop⟩
      have hlen : 24 < (units l).length := by rw [hstep]; simp; omega
      unfold checkF
      rw [if_neg (by assumption), if_pos hlen, hu, show (24 : Nat) = done.length by omega, List.take_left, ← hsum]
      simp
    · simp at h2
      simp
      try simp (disch := omega) only [wrap64]
      refine ⟨⟨hl, h⟩, ?_⟩
      have hsn := faultP_snoc done (oneF (l.drop i)) true 0
      have fin : ∀ fv : Int, fv = optI (faultP true 0 (done ++ [oneF (l.drop i)])) → LQ .nrm [.string (mk l), .int .i64 0, .int .i64 0, .int .i64 (done.length + 1), .int .i64 fv, .int .i64 i, .bool (joinerF (oneF (l.drop i)).1), .int .i64 i, .int .i32 (runeOf (oneF (l.drop i)).1), .int .i32 (oneF (l.drop i)).1, .pointer (some ⟨b, 0, none⟩), .tuple #[.bool true, .int .i64 i, .int .i32 (runeOf (oneF (l.drop i)).1)]] w2 := by
        intro fv hfv
        refine hN _ _ ⟨i + (oneF (l.drop i)).2, done ++ [oneF (l.drop i)], .int .i64 i, .int .i32 (runeOf (oneF (l.drop i)).1), .int .i32 (oneF (l.drop i)).1, .tuple #[.bool true, .int .i64 i, .int .i32 (runeOf (oneF (l.drop i)).1)], ?_, hle.1, hstep, by simp [sumW_append, sumW, hsum], by simp; omega, s2⟩ (by simp [slotN]; omega)
        rw [hfv, lastP_snoc, lastJ_snoc, Nat.zero_add, ← hsum]
        simp
      cases hf : faultP true 0 done with
      | some q =>
        have e0 : optI (some q) = (q : Int) := rfl
        rw [hf] at hsn
        have e1 : ¬ ((q : Int) < 0) := by omega
        rw [e0]
        simp [e1]
        exact fin _ (by rw [hsn]; rfl)
      | none =>
        have e0 : optI none = -1 := rfl
        rw [hf] at hsn
        simp only at hsn
        rw [e0]
        cases hlt : letterF (oneF (l.drop i)).1
        · simp
          refine cndI (fun h3 => ?_) (fun h3 => ?_)
          · simp
            refine fin _ ?_
            rw [hsn, badAt, hlt, h3]
            simp [optI, hsum]
          · simp
            refine fin _ ?_
            rw [hsn, badAt, hlt, h3]
            rfl
        · simp
          refine fin _ ?_
          rw [hsn, badAt, hlt]
          rfl
  · simp at h
    simp
    refine hE _ _ _ ?_
    simp
    have : i = l.length := by omega
    subst this
    rw [List.drop_length, units_nil, List.append_nil] at hu
    have hne : units l ≠ [] := by intro e; have := sumW_units l; rw [e] at this; simp [sumW] at this; exact absurd (List.eq_nil_of_length_eq_zero this.symm) (by assumption)
    have hck : checkF l = (match faultF true 0 (units l) with | some p => ((p : Int), 40) | none => (0, 0)) := by
      unfold checkF
      rw [if_neg (by assumption), if_neg (by rw [hu]; omega)]
    rw [fault_eq _ _ _ 0 hne, hu] at hck
    cases hf : faultP true 0 done with
    | some q =>
      rw [hf] at hck
      simp only at hck
      have e0 : optI (some q) = (q : Int) := rfl
      rw [e0, hck]
      have e1 : decide ((q : Int) < 0) = false := by simp
      simp [e1]
      exact s'.drop
    | none =>
      rw [hf] at hck
      simp only at hck
      have e0 : optI none = -1 := rfl
      rw [e0, hck]
      cases hj : lastJ true done
      · simp
        exact s'.drop
      · simp
        exact s'.drop
theorem lastJ_take (us : List (Int × Nat)) (i : Nat) (hi : i ≤ us.length) : lastJ true (us.take i) = if i = 0 then true else joinerF (us[i - 1]?.getD (0, 0)).1 := by
  cases i with
  | zero => simp [lastJ]
  | succ i =>
    have hlt : i < us.length := by omega
    rw [List.take_succ_eq_append_getElem hlt, lastJ_snoc]
    simp [hlt]
theorem rcheck_spec (l : List UInt8) (w0 w : World) (A : Asn) (hl : l.length ≤ 1048576) (s : St w0 A w) :
    CallW Tryz.prog 88 [.string (mk l)] (fun r w' => r = .tuple #[.int .i64 (checkF l).1, .int .i64 (checkF l).2] ∧ St w0 A w') w := by
  refine callW_of_lift l88_ok (by simp [l88]) ?_
  simp [l88]
  refine eff_call ((units_spec l w0 w A hl s).mono ?_)
  rintro r w' ⟨v1, v2, rfl, s1⟩
  obtain ⟨a1, c1, rfl, hc1, hn1⟩ := s1.swap.own_val
  obtain ⟨a2, c2, rfl, hc2, hn2⟩ := s1.own_val
  have hul := units_len l
  simp
  refine cndI (fun h => ?_) (fun h => ?_)
  · simp at h
    have : l = [] := by have := sumW_units l; rw [h] at this; simp [sumW] at this; exact List.eq_nil_of_length_eq_zero this.symm
    simp [checkF, this]
    exact s1.drop.drop
  simp at h
  have hne : ¬ l = [] := by intro e; exact h (by rw [e]; rfl)
  have hpos : 0 < (units l).length := by have : (units l).length ≠ 0 := by simpa using h
                                         omega
  obtain ⟨g1, c1', e1, _, hcell1⟩ := s1.swap.own_at hpos
  obtain ⟨g2, c2', e2, _, hcell2⟩ := s1.own_at hpos
  cases e1
  cases e2
  simp
  refine cndI (fun h2 => ?_) (fun h2 => ?_)
  · simp at h2
    have h3 : 24 < (units l).length := by omega
    simp
    refine ⟨h2, eff_ldc (v := .int .i64 (sumW ((units l).take 24))) (hcell2 24 _ (by simp [ints, starts_get 0 (units l) 24 h3])) ?_⟩
    simp
    unfold checkF
    rw [if_neg hne, if_pos h3]
    simp
    exact s1.drop.drop
  simp at h2
  simp
  have hck : checkF l = (match faultF true 0 (units l) with | some p => ((p : Int), 40) | none => (0, 0)) := by
    unfold checkF
    rw [if_neg hne, if_neg (by omega)]
  refine loopI (fun env w'' => ∃ (i : Nat) (o : Value), env = [.string (mk l), .int .i64 0, .int .i64 0, .slice (some ⟨g1, 0, none⟩) (units l).length c1, .slice (some ⟨g2, 0, none⟩) (units l).length c2, .int .i64 i, o] ∧ w'' = w' ∧ i ≤ (units l).length ∧
      faultF true 0 (units l) = faultF (lastJ true ((units l).take i)) (sumW ((units l).take i)) ((units l).drop i)) (fun env _ => (units l).length - slotN env 5) ⟨0, _, rfl, rfl, by omega, by simp [lastJ, sumW]⟩ ?_
  rintro LQ env w'' ⟨i, o, rfl, rfl, hi, hf⟩ hN hE hR
  simp
  refine cndI (fun h3 => ?_) (fun h3 => ?_)
  · simp at h3
    have hdr : (units l).drop i = (units l)[i] :: (units l).drop (i + 1) := by rw [List.drop_eq_getElem_cons h3]
    have hge : (units l)[i]? = some (units l)[i] := by simp [h3]
    have htk : (units l).take (i + 1) = (units l).take i ++ [(units l)[i]] := by rw [List.take_succ_eq_append_getElem h3]
    have hlj := lastJ_take (units l) i (by omega)
    rw [hdr] at hf
    simp only [faultF] at hf
    have k1 : ∀ j, j < (units l).length → w''.cell? ⟨g1, j, none⟩ = some (.int .i64 ((units l)[j]?.getD (0, 0)).1) := by
      intro j hj
      refine hcell1 j _ ?_
      simp [ints, hj]
    have k2 : ∀ j, j < (units l).length → w''.cell? ⟨g2, j, none⟩ = some (.int .i64 (sumW ((units l).take j))) := by
      intro j hj
      refine hcell2 j _ ?_
      simp [ints, starts_get 0 (units l) j hj]
    have k1' : ∀ j (hj : j < (units l).length), w''.cell? ⟨g1, j, none⟩ = some (.int .i64 ((units l)[j]).1) := by
      intro j hj
      have := k1 j hj
      simpa [hj] using this
    have rest : ∀ ov : Bool, ov = (lastJ true ((units l).take i) || ((units l).drop (i + 1)).isEmpty) → HC.wp F4 h88_3 (blockQ 1 (seqQ F4 h88_1 LQ)) [.string (mk l), .int .i64 0, .int .i64 0, .slice (some ⟨g1, 0, none⟩) (units l).length c1, .slice (some ⟨g2, 0, none⟩) (units l).length c2, .int .i64 i, .bool ov] w'' := by
      intro ov hov
      rw [← hov] at hf
      simp
      refine ⟨h3, eff_ldc (k1' i h3) ?_⟩
      have fin : badAt ov (units l)[i].1 = false → LQ .nrm [.string (mk l), .int .i64 0, .int .i64 0, .slice (some ⟨g1, 0, none⟩) (units l).length c1, .slice (some ⟨g2, 0, none⟩) (units l).length c2, .int .i64 (i + 1), .bool ov] w'' := by
        intro hb
        rw [hb] at hf
        refine hN _ _ ⟨i + 1, .bool ov, by simp, rfl, h3, ?_⟩ (by simp [slotN]; omega)
        rw [hf, htk, lastJ_snoc, sumW_append]
        simp [sumW]
      cases hlt : letterF (units l)[i].1
      · simp [hlt, h3]
        refine eff_ldc (k1' i h3) ?_
        simp
        refine cndI (fun h6 => ?_) (fun h6 => ?_)
        · have hb : badAt ov (units l)[i].1 = true := by rw [badAt, hlt, Bool.or_comm, h6]; rfl
          simp
          refine ⟨h3, eff_ldc (k2 i h3) ?_⟩
          simp
          refine hR _ _ ?_
          rw [hck, hf, hb]
          simp
          exact s1.drop.drop
        · have hb : badAt ov (units l)[i].1 = false := by rw [badAt, hlt, Bool.or_comm, h6]; rfl
          simp
          try simp (disch := omega) only [wrap64]
          exact fin hb
      · have hb : badAt ov (units l)[i].1 = false := by rw [badAt, hlt]; rfl
        simp [hlt]
        refine iteR_bool (fun e => by cases e) (fun _ => ?_)
        simp
        try simp (disch := omega) only [wrap64]
        exact fin hb
    simp
    try simp (disch := omega) only [wrap64]
    refine ⟨fun h4 h5 => by omega, ?_⟩
    refine iteR_bool (fun h4 => ?_) (fun h4 => ?_)
    · simp at h4
      simp [h4.1, h4.2]
      have e1 : (IntKind.i64.wrap ((i : Int) - 1)).toNat = i - 1 := by rw [wrap64 (by omega) (by omega)]; omega
      rw [e1]
      refine eff_ldc (k1' (i - 1) (by omega)) ?_
      simp
      have hh := rest (joinerF ((units l)[i - 1]'(by omega)).1) ?_
      · simp at hh
        exact hh
      rw [hlj]
      simp [show i ≠ 0 by omega, show i - 1 < (units l).length by omega]
      omega
    · simp
      have hh := rest true ?_
      · simp at hh
        exact hh
      simp at h4
      rw [hlj]
      rcases h4 with h4 | h4
      · simp [h4]
      · simp; right; omega
  · simp at h3
    simp
    refine hE _ _ _ ?_
    simp
    have : i = (units l).length := by omega
    subst this
    rw [List.drop_length] at hf
    rw [hck, hf]
    simp [faultF]
    exact s1.drop.drop
end Go.HL.Nm

namespace Go.HL
set_option linter.unusedSimpArgs false
set_option linter.unusedVariables false
theorem wrapu32 {x : Int} (h1 : 0 ≤ x) (h2 : x ≤ 4294967295) : IntKind.u32.wrap x = x := IntWalk.u32_in x ⟨h1, h2⟩
section
variable {P : Program} {K : Value → World → Prop} {w w0 : World} {F : Asn}
theorem cells_one {x : Value} (h1 : x.oneCell' = true) : x.cells = #[x] := by cases x <;> first | rfl | (simp [Value.oneCell'] at h1)
theorem zrow (n : Nat) (z : Value) : ((Array.range n).map fun i => (#[z])[i % (#[z]).size]!) = (List.replicate n z).toArray := by
  apply Array.ext
  · simp
  · intro i h1 h2
    simp [Nat.mod_one]
theorem eff_bsl2 {e : Nat} {z x y : Value} (s : St w0 F w) (h1 : x.oneCell' = true) (h2 : y.oneCell' = true)
    (hk : ∀ b w', St w0 (F * pt b (.cells #[x, y] e (0, 0))) w' → K (.slice (some ⟨b, 0, none⟩) 2 2) w') : EffW P (.bsl e 2 1 #[z] [0, 1]) [x, y] K w := by
  refine eff_bsl (cells := #[x, y]) s ?_ hk
  rw [zrow]
  simp [Instr.fill, cells_one h1, cells_one h2]
theorem eff_bsl3 {e : Nat} {z x y u : Value} (s : St w0 F w) (h1 : x.oneCell' = true) (h2 : y.oneCell' = true) (h3 : u.oneCell' = true)
    (hk : ∀ b w', St w0 (F * pt b (.cells #[x, y, u] e (0, 0))) w' → K (.slice (some ⟨b, 0, none⟩) 3 3) w') : EffW P (.bsl e 3 1 #[z] [0, 1, 2]) [x, y, u] K w := by
  refine eff_bsl (cells := #[x, y, u]) s ?_ hk
  rw [zrow]
  simp [Instr.fill, cells_one h1, cells_one h2, cells_one h3]
theorem eff_bsl4 {e : Nat} {z x y u v : Value} (s : St w0 F w) (h1 : x.oneCell' = true) (h2 : y.oneCell' = true) (h3 : u.oneCell' = true) (h4 : v.oneCell' = true)
    (hk : ∀ b w', St w0 (F * pt b (.cells #[x, y, u, v] e (0, 0))) w' → K (.slice (some ⟨b, 0, none⟩) 4 4) w') : EffW P (.bsl e 4 1 #[z] [0, 1, 2, 3]) [x, y, u, v] K w := by
  refine eff_bsl (cells := #[x, y, u, v]) s ?_ hk
  rw [zrow]
  simp [Instr.fill, cells_one h1, cells_one h2, cells_one h3, cells_one h4]
theorem eff_mks {t e size bytes l c : Nat} {k k' : IntKind} {z : Value} (s : St w0 F w) (hlc : l ≤ c) (hm : c ≤ maxLen) (hb : bytes * c ≤ 281474976710656) (hz : z.cells.size = size)
    (hk : ∀ v w', St w0 (F * HL.own e size v l (((Array.range (c * size)).map (z.cells[· % z.cells.size]!)).toList.take (l * size))) w' → K v w') : EffW P (.mks t e size bytes z) [.int k l, .int k' c] K w := by
  rintro ⟨ht, i, hi, hiz, rfl, rfl⟩
  have hc2 : (c : Int) ≤ 9223372036854775807 := by simp only [maxLen] at hm; omega
  have wc : IntKind.i64.wrap (c : Int) = c := wrap64 (by omega) hc2
  have wl : IntKind.i64.wrap (l : Int) = l := wrap64 (by omega) (by omega)
  refine upon_val (w' := w.alloc (.cells ((Array.range (c * i.size)).map (z.cells[· % z.cells.size]!)) e)) (v := .slice (some ⟨w.heap.size, 0, none⟩) l c) ?_ (hk _ _ ?_)
  · have hb' : ¬ (281474976710656 < (i.bytes : Int) * (c : Int)) := by
      rw [← Int.natCast_mul]; omega
    have hlt : ¬ ((c : Int) < (l : Int)) := by omega
    have hc0 : ¬ ((c : Int) < 0) := by omega
    have hl0 : ¬ ((l : Int) < 0) := by omega
    have hr0 : Array.range 0 = #[] := rfl
    have hnew : ∀ cs, (newRow e cs).run P w = .ok ⟨w.heap.size, 0, none⟩ (w.alloc (.cells cs e)) := fun cs => by simp [newRow]
    have hzv : (zeroValue e).run P w = .ok z w := by simp [zeroValue, typeInfo, hi, hiz, Sem.run_bind]
    by_cases h0 : c * i.size = 0
    · have e1 : c = 0 ∨ i.size = 0 := Nat.mul_eq_zero.1 h0
      simp [Instr.makeSlice, run_underlying ht, typeInfo, hi, sizeOf, wc, wl, asInt, asIntOf, hb', hlt, hc0, hl0, h0, e1, hnew, hr0]
    · simp [Instr.makeSlice, run_underlying ht, typeInfo, hi, sizeOf, wc, wl, asInt, asIntOf, hb', hlt, hc0, hl0, h0, hnew, hzv]
  · refine St.own_mk (s.alloc (by rfl)) hlc hm (by simp) rfl
@[simp] theorem iteR_ft {F : PF P} {env : List Value} {Kr} (a b : RT) (bvs : List Value) : IteR F (.bool false) true a b env Kr bvs w = b.wp F env Kr bvs w := rfl
@[simp] theorem iteR_tf {F : PF P} {env : List Value} {Kr} (a b : RT) (bvs : List Value) : IteR F (.bool true) false a b env Kr bvs w = b.wp F env Kr bvs w := rfl
def bytesV (l : List UInt8) : List Value := l.map fun b => .int .u8 b.toNat
theorem push_all : ∀ (l : List UInt8) (s : ByteArray), l.foldl (fun b a => b.push a) s = ⟨s.data ++ l.toArray⟩
  | [], s => by simp
  | b :: l, s => by
    rw [List.foldl_cons, push_all l]
    simp [ByteArray.push]
theorem run_push (P : Program) (w : World) : ∀ (l : List UInt8) (s : ByteArray), (forIn (bytesV l) s (fun c s => (match c with
        | .int .u8 n => pure (ForInStep.yield (s.push (UInt8.ofNat n.toNat)))
        | x => do
          stuck (α := Unit) "bytesToString: byte expected"
          pure (ForInStep.yield s) : Sem (ForInStep ByteArray)))).run P w = .ok ⟨s.data ++ l.toArray⟩ w
  | [], s => by simp [bytesV]
  | b :: l, s => by
    have ih := run_push P w l (s.push b)
    simp only [bytesV] at ih
    simp only [bytesV, List.map_cons, List.forIn_cons, Sem.run_bind]
    simp
    rw [push_all]
    apply congrArg
    simp
theorem eff_b2s {t d e n : Nat} {v : Value} {bs : List UInt8} (s : St w0 (F * HL.own e 1 v n (bytesV bs)) w) (hk : K (.string (mk bs)) w) : EffW P (.b2s t d) [v] K w := by
  intro _
  rcases s.own_cell with ⟨hx, rfl⟩ | ⟨g, cap, rfl, hn, hc⟩
  · have : bs = [] := by simpa [bytesV] using hx
    subst this
    exact upon_val (w' := w) (v := .string (mk [])) (by simp [Conv.bytesToString]; rfl) hk
  · refine upon_val (w' := w) (v := .string (mk bs)) ?_ hk
    have hl : (bytesV bs).length = n := by simpa using s.own.1
    have := run_loadCells_list (P := P) w ⟨g, 0, none⟩ (bytesV bs) (by
      intro j u hj
      rw [addr_add, Nat.zero_add]; exact hc j u hj)
    rw [hl] at this
    have hp := run_push P w bs .empty
    simp only [Conv.bytesToString, Sem.run_bind, this, Result.andThen_ok]
    rw [List.forIn_toArray]
    refine (congrArg (fun r => Result.andThen r _) hp).trans ?_
    simp
end
section
variable {P : Program} {F : PF P} {env bvs : List Value} {w : World} {Q : EX → List Value → World → Prop} {C : World → Prop}
def EffQ (P : Program) (C : World → Prop) (eo : EO) (vs : List Value) (K : Value → Prop) : Prop := ∃ v, (∀ w, C w → QuietW P C eo vs v w) ∧ K v
def contQ (F : PF P) (C : World → Prop) (env : List Value) (K : List Value → Option Value → Prop) (k : RT) (bvs : List Value) (v : Value) : Prop := k.wpq F C env K (bvs ++ [v])
def IteQ (F : PF P) (C : World → Prop) (c : Value) (v : Bool) (a b : RT) (env : List Value) (K : List Value → Option Value → Prop) (bvs : List Value) : Prop := if isB c v = true then a.wpq F C env K bvs else b.wpq F C env K bvs
def regKq (C : World → Prop) (Q : EX → List Value → World → Prop) (env : List Value) (_ : Option Value) : Prop := ∀ w, C w → Q .nrm env w
def brKq (F : PF P) (C : World → Prop) (x y : HC) (Q : EX → List Value → World → Prop) (env : List Value) (c : Option Value) : Prop := ∀ w, C w → CondC F (c.getD undef) x y Q env w
@[simp] theorem wpq_done {K} (sets : List (Nat × SE)) (c : Option SE) : (RT.done sets c).wpq F C env K bvs = K (setAll F env bvs sets env) (c.map (SE.val F env bvs)) := rfl
@[simp] theorem wpq_chk {K} (g : Option (SE × Bool)) (p : PO) (xs : SEs) (k : RT) : (RT.chk g p xs k).wpq F C env K bvs = ((guardOn F env bvs g → p.ok F (SEs.vals F env bvs xs)) ∧ k.wpq F C env K bvs) := rfl
@[simp] theorem wpq_isb {K} (g : Option (SE × Bool)) (c : SE) (k : RT) : (RT.isb g c k).wpq F C env K bvs = ((guardOn F env bvs g → ∃ b, SE.val F env bvs c = .bool b) ∧ k.wpq F C env K bvs) := rfl
@[simp] theorem wpq_eff {K} (eo : EO) (xs : SEs) (k : RT) : (RT.eff eo xs k).wpq F C env K bvs = EffQ P C eo (SEs.vals F env bvs xs) (contQ F C env K k bvs) := rfl
@[simp] theorem wpq_bnd {K} (e : SE) (k : RT) : (RT.bnd e k).wpq F C env K bvs = k.wpq F C env K (bvs ++ [SE.val F env bvs e]) := rfl
@[simp] theorem wpq_ite {K} (c : SE) (v : Bool) (a b : RT) : (RT.ite c v a b).wpq F C env K bvs = IteQ F C (SE.val F env bvs c) v a b env K bvs := rfl
@[simp] theorem contQ_app {K} (k : RT) (v : Value) : contQ F C env K k bvs v = k.wpq F C env K (bvs ++ [v]) := rfl
@[simp] theorem iteQ_tt {K} (a b : RT) : IteQ F C (.bool true) true a b env K bvs = a.wpq F C env K bvs := rfl
@[simp] theorem iteQ_ft {K} (a b : RT) : IteQ F C (.bool false) true a b env K bvs = b.wpq F C env K bvs := rfl
@[simp] theorem regKq_app (c : Option Value) : regKq C Q env c = ∀ w, C w → Q .nrm env w := rfl
@[simp] theorem brKq_app (x y : HC) (c : Option Value) : brKq F C x y Q env c = ∀ w, C w → CondC F (c.getD undef) x y Q env w := rfl
theorem brqI {w0 : World} {A : Asn} {m : Option Nat} {t : RT} {x y : HC} (s : St w0 A w) (h : t.wpq F (St w0 A) env (brKq F (St w0 A) x y Q) []) : (HC.brq m t x y).wp F Q env w := .inl ⟨St w0 A, s.drew, h⟩
theorem regqI {w0 : World} {A : Asn} {m : Option Nat} {t : RT} (s : St w0 A w) (h : t.wpq F (St w0 A) env (regKq (St w0 A) Q) []) : (HC.regq m t).wp F Q env w := .inl ⟨St w0 A, s.drew, h⟩
theorem effq_ldc {a : Addr} {n : Nat} {v : Value} {K : Value → Prop} (hc : ∀ w, C w → w.cell? a = some v) (hk : K v) : EffQ P C (.ld false n) [.pointer (some a)] K := by
  refine ⟨v, fun w hw _ => ?_, hk⟩
  have := hc w hw
  have hr : (ldS false n (.pointer (some a))).run P w = .ok v w := by simp [ldS, Instr.sureAddr, this]
  simp only [EO.sem, valS, Sem.run_bind, hr, Result.andThen_ok, Sem.run_pure]
  exact ⟨rfl, rfl⟩
end
end Go.HL

namespace Go.HL
set_option linter.unusedSimpArgs false
set_option linter.unusedVariables false
section
variable {P : Program} {K : Value → World → Prop} {w w0 : World} {F : Asn}
theorem eff_ldcs {b off m : Nat} {vs : List Value} (hc : ∀ j u, vs[j]? = some u → w.cell? ⟨b, off + j, none⟩ = some u) (hl : vs.length = m) (hk : K (.agg vs.toArray) w) :
    EffW P (.ld true m) [.pointer (some ⟨b, off, none⟩)] K w := by
  intro _
  refine upon_val (w' := w) ?_ hk
  have := run_loadCells_list (P := P) w ⟨b, off, none⟩ vs (by
    intro j v hj
    rw [addr_add]; exact hc j v hj)
  rw [hl] at this
  simp [ldS, Instr.sureAddr, this]
def Row (w0 : World) (A : Asn) (v : Value) (n size : Nat) (xs : List Value) : Prop :=
  xs.length = n * size ∧ ∃ a cap, v = .slice a n cap ∧ n ≤ cap ∧
    (n = 0 ∨ ∃ g o, a = some ⟨g, o, none⟩ ∧ ∀ w, St w0 A w → ∀ j u, xs[j]? = some u → w.cell? ⟨g, o + j, none⟩ = some u)
theorem Row.mono {A B : Asn} {v : Value} {n size : Nat} {xs : List Value} (h : Row w0 A v n size xs) (hs : ∀ w, St w0 B w → St w0 A w) : Row w0 B v n size xs := by
  obtain ⟨hl, a, cap, rfl, hn, h⟩ := h
  refine ⟨hl, a, cap, rfl, hn, ?_⟩
  rcases h with h | ⟨g, o, rfl, hc⟩
  · exact .inl h
  · exact .inr ⟨g, o, rfl, fun w s => hc w (hs w s)⟩
theorem Row.val {A : Asn} {v : Value} {n size : Nat} {xs : List Value} (h : Row w0 A v n size xs) : ∃ a cap, v = .slice a n cap := by
  obtain ⟨_, a, cap, rfl, _⟩ := h
  exact ⟨_, _, rfl⟩
theorem Row.at {A : Asn} {v : Value} {n size : Nat} {xs : List Value} (h : Row w0 A v n size xs) (hn : 0 < n) :
    ∃ g o cap, v = .slice (some ⟨g, o, none⟩) n cap ∧ ∀ w, St w0 A w → ∀ j u, xs[j]? = some u → w.cell? ⟨g, o + j, none⟩ = some u := by
  obtain ⟨_, a, cap, rfl, _, h | ⟨g, o, rfl, hc⟩⟩ := h
  · omega
  · exact ⟨g, o, cap, rfl, hc⟩
theorem row_own {A : Asn} {e size n : Nat} {v : Value} {xs : List Value} (s : St w0 (A * own e size v n xs) w) : Row w0 (A * own e size v n xs) v n size xs := by
  refine ⟨s.own.1, ?_⟩
  rcases s.own_cell with ⟨_, rfl⟩ | ⟨g, cap, rfl, hn, _⟩
  · obtain ⟨a, cap, h, hn, _⟩ := s.own_val
    cases h
    exact ⟨none, 0, rfl, Nat.le_refl _, .inl rfl⟩
  · refine ⟨some ⟨g, 0, none⟩, cap, rfl, hn, .inr ⟨g, 0, rfl, fun w' s' j u hu => ?_⟩⟩
    rcases s'.own_cell with ⟨_, h⟩ | ⟨g', cap', h, _, hc⟩
    · cases h
    · cases h
      rw [Nat.zero_add]
      exact hc j u hu
theorem eff_stC {e size n g cap j : Nat} {u : Value} {xs : List Value} (s : St w0 (F * HL.own e size (.slice (some ⟨g, 0, none⟩) n cap) n xs) w) (hj : j < xs.length) (h1 : u.oneCell' = true)
    (hk : ∀ w', St w0 (F * HL.own e size (.slice (some ⟨g, 0, none⟩) n cap) n (xs.set j u)) w' → K undef w') : EffW P (.st 1) [.pointer (some ⟨g, j, none⟩), u] K w := by
  rcases s.own.2 with ⟨h, _⟩ | ⟨g', cap', cur, h, hn, hm, hc, ht, s'⟩
  · cases h
  · cases h
    have hl : xs.length = n * size := s.own.1
    have : n * size ≤ cap * size := Nat.mul_le_mul_right _ hn
    refine eff_st1 s' h1 (by omega) fun w' s2 => hk w' (s2.own_mk' hn hm (by simpa using hc) ?_)
    rw [Array.toList_setIfInBounds, List.take_set, ht]
theorem eff_stR {e size n g cap j m : Nat} {v : Value} {vs xs : List Value} (s : St w0 (F * HL.own e size (.slice (some ⟨g, 0, none⟩) n cap) n xs) w) (hv : v.cells.toList = vs) (hm : vs.length = m) (h1 : ∀ u ∈ vs, u.oneCell' = true) (hj : j + m ≤ xs.length)
    (hk : ∀ w', St w0 (F * HL.own e size (.slice (some ⟨g, 0, none⟩) n cap) n (xs.take j ++ vs ++ xs.drop (j + m))) w' → K undef w') : EffW P (.st m) [.pointer (some ⟨g, j, none⟩), v] K w := by
  rcases s.own.2 with ⟨h, _⟩ | ⟨g', cap', cur, h, hn, hmm, hc, ht, s'⟩
  · cases h
  · cases h
    have hl : xs.length = n * size := s.own.1
    have hle : n * size ≤ cap * size := Nat.mul_le_mul_right _ hn
    refine eff_stA s' hv hm h1 (by omega) fun w' s2 => hk w' (s2.own_mk' hn hmm ?_ ?_)
    · simp only [List.size_toArray, List.length_append, List.length_take, List.length_drop, Array.length_toList]
      omega
    · have e1 : cur.toList.take j = xs.take j := by rw [← ht, List.take_take, Nat.min_eq_left (by omega)]
      have e2 : (cur.toList.drop (j + m)).take (n * size - (j + m)) = xs.drop (j + m) := by rw [← ht, List.drop_take]
      have l1 : (cur.toList.take j ++ vs).length = j + m := by simp only [List.length_append, List.length_take, Array.length_toList]; omega
      rw [List.take_append, l1, e2, List.take_of_length_le (by omega), e1]
end
section
variable {α : Type}
theorem flat_length (f : α → List Value) (c : Nat) (hf : ∀ a, (f a).length = c) : ∀ l : List α, (l.flatMap f).length = l.length * c
  | [] => by simp
  | a :: l => by rw [List.flatMap_cons, List.length_append, hf, flat_length f c hf l, List.length_cons, Nat.add_mul]; omega
theorem flat_drop (f : α → List Value) (c : Nat) (hf : ∀ a, (f a).length = c) : ∀ (l : List α) (i : Nat), (l.flatMap f).drop (i * c) = (l.drop i).flatMap f
  | l, 0 => by simp
  | [], i + 1 => by simp
  | a :: l, i + 1 => by
    rw [List.flatMap_cons, List.drop_succ_cons, ← flat_drop f c hf l i, Nat.add_mul, Nat.one_mul, Nat.add_comm, ← List.drop_drop, ← hf a, List.drop_left]
theorem flat_row (f : α → List Value) (c : Nat) (hf : ∀ a, (f a).length = c) (l : List α) (i : Nat) (h : i < l.length) : ((l.flatMap f).drop (i * c)).take c = f l[i] := by
  rw [flat_drop f c hf, List.drop_eq_getElem_cons h, List.flatMap_cons, ← hf l[i], List.take_left]
theorem flat_get (f : α → List Value) (c : Nat) (hf : ∀ a, (f a).length = c) (l : List α) (i k : Nat) (h : i < l.length) (hk : k < c) : (l.flatMap f)[i * c + k]? = (f l[i])[k]? := by
  rw [← flat_row f c hf l i h, List.getElem?_take, if_pos hk, List.getElem?_drop]
theorem flat_set (f : α → List Value) (c : Nat) (hf : ∀ a, (f a).length = c) (x : α) : ∀ (l : List α) (i : Nat) (h : i < l.length), (l.flatMap f).take (i * c) ++ f x ++ (l.flatMap f).drop (i * c + c) = (l.set i x).flatMap f
  | a :: l, 0, _ => by
    rw [Nat.zero_mul, Nat.zero_add, List.take_zero, List.nil_append, List.set_cons_zero, List.flatMap_cons, List.flatMap_cons, ← hf a, List.drop_left]
  | a :: l, i + 1, h => by
    have ih := flat_set f c hf x l i (by simpa using h)
    have e1 : (i + 1) * c = c + i * c := by rw [Nat.add_mul]; omega
    have e2 : (i + 1) * c + c = c + (i * c + c) := by omega
    rw [List.set_cons_succ, List.flatMap_cons, List.flatMap_cons, ← ih, e2, e1, ← hf a, List.take_length_add_append, ← List.drop_drop, List.drop_left, List.append_assoc, List.append_assoc, hf a, List.append_assoc]
end
theorem foldl_set : ∀ (vs : List Value) (o : Nat) (c : List Value), o + vs.length ≤ c.length →
    ((vs.zipIdx o).foldl (fun (cs : Array Value) x => cs.setIfInBounds x.2 x.1) c.toArray) = (c.take o ++ vs ++ c.drop (o + vs.length)).toArray
  | [], o, c, _ => by simp
  | v :: vs, o, c, h => by
    simp only [List.length_cons] at h
    rw [List.zipIdx_cons, List.foldl_cons]
    have e : c.toArray.setIfInBounds o v = (c.set o v).toArray := by simp
    simp only [e]
    rw [foldl_set vs (o + 1) (c.set o v) (by rw [List.length_set]; omega)]
    congr 1
    have hlt : o < c.length := by omega
    rw [List.set_eq_take_append_cons_drop, if_pos hlt]
    have hl : (c.take o).length = o := by simp; omega
    have t1 : (c.take o ++ v :: c.drop (o + 1)).take (o + 1) = c.take o ++ [v] := by
      rw [List.take_append, hl, List.take_take, Nat.min_eq_right (by omega), show o + 1 - o = 1 by omega]; rfl
    have t2 : (c.take o ++ v :: c.drop (o + 1)).drop (o + 1 + vs.length) = c.drop (o + (vs.length + 1)) := by
      rw [List.drop_append, hl, List.drop_of_length_le (by rw [hl]; omega), show o + 1 + vs.length - o = vs.length + 1 by omega, List.drop_succ_cons, List.drop_drop, List.nil_append]
      congr 1; omega
    rw [t1, t2]
    simp
theorem fill1 (z : Array Value) (size : Nat) (v : Value) (hv : v.cells.size = size) : Instr.fill (fun i => some (i * size, size)) ((Array.range (1 * size)).map fun i => z[i % z.size]!) [(0, v)] = some v.cells := by
  have hf := foldl_set v.cells.toList 0 ((Array.range (1 * size)).map fun i => z[i % z.size]!).toList (by simp [hv])
  simp only [Instr.fill, Nat.zero_mul, Nat.zero_add, hv]
  rw [if_neg (by simp)]
  congr 1
  have e : v.cells.zipIdx = (v.cells.toList.zipIdx 0).toArray := by
    apply Array.ext'
    simp
  rw [e, List.size_toArray, List.foldl_toArray']
  · rw [Array.toArray_toList] at hf
    refine hf.trans ?_
    have hd : List.drop (0 + v.cells.toList.length) ((Array.range (1 * size)).map fun i => z[i % z.size]!).toList = [] := List.drop_of_length_le (by simp [hv])
    rw [hd]
    simp
  · rfl
theorem eff_bslV {P : Program} {K : Value → World → Prop} {w w0 : World} {F : Asn} {e size : Nat} {z : Array Value} {v : Value} (s : St w0 F w) (hv : v.cells.size = size)
    (hk : ∀ b w', St w0 (F * pt b (.cells v.cells e (0, 0))) w' → K (.slice (some ⟨b, 0, none⟩) 1 1) w') : EffW P (.bsl e 1 size z [0]) [v] K w :=
  eff_bsl s (fill1 z size v hv) hk
theorem eff_bsl0 {P : Program} {K : Value → World → Prop} {w w0 : World} {F : Asn} {e size : Nat} {z : Array Value} (s : St w0 F w)
    (hk : ∀ v w', St w0 (F * own e size v 0 []) w' → K v w') : EffW P (.bsl e 0 size z []) [] K w :=
  eff_bsl (cells := #[]) s (by simp [Instr.fill]) fun b w' s' => hk _ w' (s'.own_mk (Nat.le_refl 0) (Nat.zero_le _) (by simp) (by simp))
@[simp] theorem cells_agg (c : Array Value) : (Value.agg c).cells = c := rfl
theorem rv_cellA {P : Program} {env : List Value} {i n b off : Nat} {vs : List Value} {r : List RV} {K : List Value → World → Prop} {w : World} (he : env.getD i undef = .pointer (some ⟨b, off, none⟩))
    (hc : ∀ j u, vs[j]? = some u → w.cell? ⟨b, off + j, none⟩ = some u) (hl : vs.length = n) (hk : rvW P env r (fun us w => K (.agg vs.toArray :: us) w) w) : rvW P env (.cell i true n :: r) K w := by
  have := run_loadCells_list (P := P) w ⟨b, off, none⟩ vs (by
    intro j v hj
    rw [addr_add]; exact hc j v hj)
  rw [hl] at this
  show UponW P (valS (ldS true n (env.getD i undef))) _ w
  rw [he]
  refine upon_val (w' := w) (v := .agg vs.toArray) ?_ ⟨rfl, hk⟩
  simp [ldS, Instr.sureAddr, this]
theorem St.row_cells {w0 w : World} {F : Asn} {b : Nat} {vs : List Value} {t : TypeId} {f : Nat × Nat} (s : St w0 (F * pt b (.cells vs.toArray t f)) w) : ∀ j u, vs[j]? = some u → w.cell? ⟨b, 0 + j, none⟩ = some u := by
  intro j u hu
  rw [cell_of s.look, Nat.zero_add]
  simpa using hu
instance : Std.Associative (α := Asn) (· * ·) := ⟨sep_assoc⟩
instance : Std.Commutative (α := Asn) (· * ·) := ⟨sep_comm⟩
theorem St.to {w0 w : World} {A B : Asn} (s : St w0 A w) (h : A = B) : St w0 B w := h ▸ s
theorem St.cut {w0 w : World} {A B : Asn} (C : Asn) (s : St w0 A w) (h : A = B * C) : St w0 B w := (s.to h).drop
end Go.HL
