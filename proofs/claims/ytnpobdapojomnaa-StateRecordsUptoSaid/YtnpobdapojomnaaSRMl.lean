/-
  What the claim leans on, part 12 of 13. Conditions: as each theorem says.
-/
import Derived.Test.YtnpobdapojomnaaSRMk
namespace Go.HL.Sr
open Go.HL Go.HL.Tl Go.Proofs
set_option maxRecDepth 4000
set_option linter.unusedSimpArgs false
set_option linter.unusedVariables false

def h17_0 : HC := (.seq (.reg (.chk none (.fld 0) (.cons (.inp 1) .nil) (.eff (.ld false 1) (.cons (.op (.fld 0) (.cons (.inp 1) .nil)) .nil) (.chk none (.bin .eql) (.cons (.bv 0) (.cons (.cst (.int .i64 10)) .nil)) (.bnd (.op (.bin .eql) (.cons (.bv 0) (.cons (.cst (.int .i64 10)) .nil))) (.chk (some ((.bv 1), false)) (.fld 23) (.cons (.inp 1) .nil) (.ite (.bv 1) false (.eff (.ld false 1) (.cons (.ite (.bv 1) false (.op (.fld 23) (.cons (.inp 1) .nil)) (.cst (.tuple #[]))) .nil) (.chk none (.bin .eql) (.cons (.bv 2) (.cons (.cst (.int .i64 0)) .nil)) (.isb none (.bv 1) (.done [(2, (.op (.bin .eql) (.cons (.bv 2) (.cons (.cst (.int .i64 0)) .nil))))] none)))) (.isb none (.bv 1) (.done [(2, (.cst (.bool true)))] none))))))))) .ret)
@[simp] theorem h17_0_wp : type_of% (@wpH h17_0 _ h17_0.eq_1) := wpH h17_0.eq_1
def h17_1 : HC := (.seq (.reg (.done [(2, (.cst (.bool false)))] none)) .ret)
@[simp] theorem h17_1_wp : type_of% (@wpH h17_1 _ h17_1.eq_1) := wpH h17_1.eq_1
def r17_0 : RT := (.eff (.ld true 5) (.cons (.ite (.bv 1) true (.op (.fld 7) (.cons (.inp 1) .nil)) (.cst (.tuple #[]))) .nil) (.eff (.call 53) (.cons (.bv 2) .nil) (.chk none (.un .not) (.cons (.bv 3) .nil) (.isb none (.bv 1) (.bnd (.op (.un .not) (.cons (.bv 3) .nil)) (.chk (some ((.bv 4), false)) (.fld 0) (.cons (.inp 1) .nil) (.ite (.bv 4) false (.eff (.ld false 1) (.cons (.ite (.bv 4) false (.op (.fld 0) (.cons (.inp 1) .nil)) (.cst (.tuple #[]))) .nil) (.chk none (.bin .neq) (.cons (.bv 5) (.cons (.cst (.int .i64 6)) .nil)) (.bnd (.op (.bin .neq) (.cons (.bv 5) (.cons (.cst (.int .i64 6)) .nil))) (.chk (some ((.bv 6), true)) (.fld 12) (.cons (.inp 1) .nil) (.ite (.bv 6) true (.eff (.ld true 11) (.cons (.ite (.bv 6) true (.op (.fld 12) (.cons (.inp 1) .nil)) (.cst (.tuple #[]))) .nil) (.eff (.call 54) (.cons (.bv 7) .nil) (.chk none (.un .not) (.cons (.bv 8) .nil) (.isb none (.bv 6) (.isb none (.bv 4) (.done [] (some (.op (.un .not) (.cons (.bv 8) .nil))))))))) (.isb none (.bv 6) (.isb none (.bv 4) (.done [] (some (.cst (.bool false))))))))))) (.isb none (.bv 4) (.done [] (some (.cst (.bool true))))))))))))
@[simp] theorem r17_0_wp : type_of% (@wpR r17_0 _ r17_0.eq_1) := wpR r17_0.eq_1
@[simp] theorem r17_0_wpq : type_of% (@wpRq r17_0 _ r17_0.eq_1) := wpRq r17_0.eq_1
@[simp] theorem r17_0_wpm : type_of% (@wpRm r17_0 _ r17_0.eq_1) := wpRm r17_0.eq_1
def r17_1 : RT := (.isb none (.bv 1) (.chk none (.fld 0) (.cons (.inp 1) .nil) (.eff (.ld false 1) (.cons (.op (.fld 0) (.cons (.inp 1) .nil)) .nil) (.chk none (.bin .neq) (.cons (.bv 2) (.cons (.cst (.int .i64 6)) .nil)) (.bnd (.op (.bin .neq) (.cons (.bv 2) (.cons (.cst (.int .i64 6)) .nil))) (.chk (some ((.bv 3), true)) (.fld 12) (.cons (.inp 1) .nil) (.ite (.bv 3) true (.eff (.ld true 11) (.cons (.ite (.bv 3) true (.op (.fld 12) (.cons (.inp 1) .nil)) (.cst (.tuple #[]))) .nil) (.eff (.call 54) (.cons (.bv 4) .nil) (.chk none (.un .not) (.cons (.bv 5) .nil) (.isb none (.bv 3) (.isb none (.cst (.bool false)) (.done [] (some (.op (.un .not) (.cons (.bv 5) .nil))))))))) (.isb none (.bv 3) (.isb none (.cst (.bool false)) (.done [] (some (.cst (.bool false)))))))))))))
@[simp] theorem r17_1_wp : type_of% (@wpR r17_1 _ r17_1.eq_1) := wpR r17_1.eq_1
@[simp] theorem r17_1_wpq : type_of% (@wpRq r17_1 _ r17_1.eq_1) := wpRq r17_1.eq_1
@[simp] theorem r17_1_wpm : type_of% (@wpRm r17_1 _ r17_1.eq_1) := wpRm r17_1.eq_1
def r17_2 : RT := (.chk none (.bin .neq) (.cons (.bv 0) (.cons (.cst (.int .i64 7)) .nil)) (.bnd (.op (.bin .neq) (.cons (.bv 0) (.cons (.cst (.int .i64 7)) .nil))) (.chk (some ((.bv 1), true)) (.fld 7) (.cons (.inp 1) .nil) (.ite (.bv 1) true r17_0 r17_1))))
@[simp] theorem r17_2_wp : type_of% (@wpR r17_2 _ r17_2.eq_1) := wpR r17_2.eq_1
@[simp] theorem r17_2_wpq : type_of% (@wpRq r17_2 _ r17_2.eq_1) := wpRq r17_2.eq_1
@[simp] theorem r17_2_wpm : type_of% (@wpRm r17_2 _ r17_2.eq_1) := wpRm r17_2.eq_1
def h17_2 : HC := (.seq (.br (.chk none (.fld 0) (.cons (.inp 1) .nil) (.eff (.ld false 1) (.cons (.op (.fld 0) (.cons (.inp 1) .nil)) .nil) r17_2)) h17_1 .skip) h17_0)
@[simp] theorem h17_2_wp : type_of% (@wpH h17_2 _ h17_2.eq_1) := wpH h17_2.eq_1
def h17_3 : HC := (.seq (.reg (.done [(2, (.cst (.bool false)))] none)) .ret)
@[simp] theorem h17_3_wp : type_of% (@wpH h17_3 _ h17_3.eq_1) := wpH h17_3.eq_1
def r17_3 : RT := (.eff (.ld false 1) (.cons (.ite (.bv 12) true (.op (.fld 5) (.cons (.inp 1) .nil)) (.cst (.tuple #[]))) .nil) (.chk none (.bin .neq) (.cons (.bv 13) (.cons (.cst (.int .i64 0)) .nil)) (.isb (some ((.bv 11), false)) (.bv 12) (.isb none (.bv 11) (.bnd (.ite (.bv 11) true (.cst (.bool true)) (.op (.bin .neq) (.cons (.bv 13) (.cons (.cst (.int .i64 0)) .nil)))) (.chk (some ((.bv 14), false)) (.un .not) (.cons (.inp 8) .nil) (.bnd (.ite (.bv 14) false (.op (.un .not) (.cons (.inp 8) .nil)) (.cst (.tuple #[]))) (.chk (some ((.bv 15), true)) (.fld 6) (.cons (.inp 1) .nil) (.ite (.bv 15) true (.eff (.ld false 1) (.cons (.ite (.bv 15) true (.op (.fld 6) (.cons (.inp 1) .nil)) (.cst (.tuple #[]))) .nil) (.chk none (.bin .neq) (.cons (.bv 16) (.cons (.cst (.int .i64 0)) .nil)) (.isb (some ((.bv 14), false)) (.bv 15) (.isb none (.bv 14) (.done [] (some (.ite (.bv 14) true (.cst (.bool true)) (.op (.bin .neq) (.cons (.bv 16) (.cons (.cst (.int .i64 0)) .nil)))))))))) (.isb (some ((.bv 14), false)) (.bv 15) (.isb none (.bv 14) (.done [] (some (.ite (.bv 14) true (.cst (.bool true)) (.cst (.bool false))))))))))))))))
@[simp] theorem r17_3_wp : type_of% (@wpR r17_3 _ r17_3.eq_1) := wpR r17_3.eq_1
@[simp] theorem r17_3_wpq : type_of% (@wpRq r17_3 _ r17_3.eq_1) := wpRq r17_3.eq_1
@[simp] theorem r17_3_wpm : type_of% (@wpRm r17_3 _ r17_3.eq_1) := wpRm r17_3.eq_1
def r17_4 : RT := (.isb (some ((.bv 11), false)) (.bv 12) (.isb none (.bv 11) (.bnd (.ite (.bv 11) true (.cst (.bool true)) (.cst (.bool false))) (.chk (some ((.bv 13), false)) (.un .not) (.cons (.inp 8) .nil) (.bnd (.ite (.bv 13) false (.op (.un .not) (.cons (.inp 8) .nil)) (.cst (.tuple #[]))) (.chk (some ((.bv 14), true)) (.fld 6) (.cons (.inp 1) .nil) (.ite (.bv 14) true (.eff (.ld false 1) (.cons (.ite (.bv 14) true (.op (.fld 6) (.cons (.inp 1) .nil)) (.cst (.tuple #[]))) .nil) (.chk none (.bin .neq) (.cons (.bv 15) (.cons (.cst (.int .i64 0)) .nil)) (.isb (some ((.bv 13), false)) (.bv 14) (.isb none (.bv 13) (.done [] (some (.ite (.bv 13) true (.cst (.bool true)) (.op (.bin .neq) (.cons (.bv 15) (.cons (.cst (.int .i64 0)) .nil)))))))))) (.isb (some ((.bv 13), false)) (.bv 14) (.isb none (.bv 13) (.done [] (some (.ite (.bv 13) true (.cst (.bool true)) (.cst (.bool false))))))))))))))
@[simp] theorem r17_4_wp : type_of% (@wpR r17_4 _ r17_4.eq_1) := wpR r17_4.eq_1
@[simp] theorem r17_4_wpq : type_of% (@wpRq r17_4 _ r17_4.eq_1) := wpRq r17_4.eq_1
@[simp] theorem r17_4_wpm : type_of% (@wpRm r17_4 _ r17_4.eq_1) := wpRm r17_4.eq_1
def r17_5 : RT := (.chk none (.bin .neq) (.cons (.bv 10) (.cons (.cst (.int .u64 0)) .nil)) (.isb (some ((.bv 8), false)) (.bv 9) (.isb none (.bv 8) (.bnd (.ite (.bv 8) true (.cst (.bool true)) (.op (.bin .neq) (.cons (.bv 10) (.cons (.cst (.int .u64 0)) .nil)))) (.chk (some ((.bv 11), false)) (.un .not) (.cons (.inp 7) .nil) (.bnd (.ite (.bv 11) false (.op (.un .not) (.cons (.inp 7) .nil)) (.cst (.tuple #[]))) (.chk (some ((.bv 12), true)) (.fld 5) (.cons (.inp 1) .nil) (.ite (.bv 12) true r17_3 r17_4))))))))
@[simp] theorem r17_5_wp : type_of% (@wpR r17_5 _ r17_5.eq_1) := wpR r17_5.eq_1
@[simp] theorem r17_5_wpq : type_of% (@wpRq r17_5 _ r17_5.eq_1) := wpRq r17_5.eq_1
@[simp] theorem r17_5_wpm : type_of% (@wpRm r17_5 _ r17_5.eq_1) := wpRm r17_5.eq_1
def r17_6 : RT := (.eff (.ld false 1) (.cons (.ite (.bv 9) true (.op (.fld 4) (.cons (.inp 1) .nil)) (.cst (.tuple #[]))) .nil) r17_5)
@[simp] theorem r17_6_wp : type_of% (@wpR r17_6 _ r17_6.eq_1) := wpR r17_6.eq_1
@[simp] theorem r17_6_wpq : type_of% (@wpRq r17_6 _ r17_6.eq_1) := wpRq r17_6.eq_1
@[simp] theorem r17_6_wpm : type_of% (@wpRm r17_6 _ r17_6.eq_1) := wpRm r17_6.eq_1
def r17_7 : RT := (.eff (.ld false 1) (.cons (.ite (.bv 11) true (.op (.fld 5) (.cons (.inp 1) .nil)) (.cst (.tuple #[]))) .nil) (.chk none (.bin .neq) (.cons (.bv 12) (.cons (.cst (.int .i64 0)) .nil)) (.isb (some ((.bv 10), false)) (.bv 11) (.isb none (.bv 10) (.bnd (.ite (.bv 10) true (.cst (.bool true)) (.op (.bin .neq) (.cons (.bv 12) (.cons (.cst (.int .i64 0)) .nil)))) (.chk (some ((.bv 13), false)) (.un .not) (.cons (.inp 8) .nil) (.bnd (.ite (.bv 13) false (.op (.un .not) (.cons (.inp 8) .nil)) (.cst (.tuple #[]))) (.chk (some ((.bv 14), true)) (.fld 6) (.cons (.inp 1) .nil) (.ite (.bv 14) true (.eff (.ld false 1) (.cons (.ite (.bv 14) true (.op (.fld 6) (.cons (.inp 1) .nil)) (.cst (.tuple #[]))) .nil) (.chk none (.bin .neq) (.cons (.bv 15) (.cons (.cst (.int .i64 0)) .nil)) (.isb (some ((.bv 13), false)) (.bv 14) (.isb none (.bv 13) (.done [] (some (.ite (.bv 13) true (.cst (.bool true)) (.op (.bin .neq) (.cons (.bv 15) (.cons (.cst (.int .i64 0)) .nil)))))))))) (.isb (some ((.bv 13), false)) (.bv 14) (.isb none (.bv 13) (.done [] (some (.ite (.bv 13) true (.cst (.bool true)) (.cst (.bool false))))))))))))))))
@[simp] theorem r17_7_wp : type_of% (@wpR r17_7 _ r17_7.eq_1) := wpR r17_7.eq_1
@[simp] theorem r17_7_wpq : type_of% (@wpRq r17_7 _ r17_7.eq_1) := wpRq r17_7.eq_1
@[simp] theorem r17_7_wpm : type_of% (@wpRm r17_7 _ r17_7.eq_1) := wpRm r17_7.eq_1
def r17_8 : RT := (.isb (some ((.bv 10), false)) (.bv 11) (.isb none (.bv 10) (.bnd (.ite (.bv 10) true (.cst (.bool true)) (.cst (.bool false))) (.chk (some ((.bv 12), false)) (.un .not) (.cons (.inp 8) .nil) (.bnd (.ite (.bv 12) false (.op (.un .not) (.cons (.inp 8) .nil)) (.cst (.tuple #[]))) (.chk (some ((.bv 13), true)) (.fld 6) (.cons (.inp 1) .nil) (.ite (.bv 13) true (.eff (.ld false 1) (.cons (.ite (.bv 13) true (.op (.fld 6) (.cons (.inp 1) .nil)) (.cst (.tuple #[]))) .nil) (.chk none (.bin .neq) (.cons (.bv 14) (.cons (.cst (.int .i64 0)) .nil)) (.isb (some ((.bv 12), false)) (.bv 13) (.isb none (.bv 12) (.done [] (some (.ite (.bv 12) true (.cst (.bool true)) (.op (.bin .neq) (.cons (.bv 14) (.cons (.cst (.int .i64 0)) .nil)))))))))) (.isb (some ((.bv 12), false)) (.bv 13) (.isb none (.bv 12) (.done [] (some (.ite (.bv 12) true (.cst (.bool true)) (.cst (.bool false))))))))))))))
@[simp] theorem r17_8_wp : type_of% (@wpR r17_8 _ r17_8.eq_1) := wpR r17_8.eq_1
@[simp] theorem r17_8_wpq : type_of% (@wpRq r17_8 _ r17_8.eq_1) := wpRq r17_8.eq_1
@[simp] theorem r17_8_wpm : type_of% (@wpRm r17_8 _ r17_8.eq_1) := wpRm r17_8.eq_1
def r17_9 : RT := (.isb (some ((.bv 8), false)) (.bv 9) (.isb none (.bv 8) (.bnd (.ite (.bv 8) true (.cst (.bool true)) (.cst (.bool false))) (.chk (some ((.bv 10), false)) (.un .not) (.cons (.inp 7) .nil) (.bnd (.ite (.bv 10) false (.op (.un .not) (.cons (.inp 7) .nil)) (.cst (.tuple #[]))) (.chk (some ((.bv 11), true)) (.fld 5) (.cons (.inp 1) .nil) (.ite (.bv 11) true r17_7 r17_8)))))))
@[simp] theorem r17_9_wp : type_of% (@wpR r17_9 _ r17_9.eq_1) := wpR r17_9.eq_1
@[simp] theorem r17_9_wpq : type_of% (@wpRq r17_9 _ r17_9.eq_1) := wpRq r17_9.eq_1
@[simp] theorem r17_9_wpm : type_of% (@wpRm r17_9 _ r17_9.eq_1) := wpRm r17_9.eq_1
def r17_10 : RT := (.chk none (.bin .neq) (.cons (.bv 7) (.cons (.cst (.int .i64 0)) .nil)) (.isb (some ((.bv 5), false)) (.bv 6) (.isb none (.bv 5) (.bnd (.ite (.bv 5) true (.cst (.bool true)) (.op (.bin .neq) (.cons (.bv 7) (.cons (.cst (.int .i64 0)) .nil)))) (.chk (some ((.bv 8), false)) (.un .not) (.cons (.inp 6) .nil) (.bnd (.ite (.bv 8) false (.op (.un .not) (.cons (.inp 6) .nil)) (.cst (.tuple #[]))) (.chk (some ((.bv 9), true)) (.fld 4) (.cons (.inp 1) .nil) (.ite (.bv 9) true r17_6 r17_9))))))))
@[simp] theorem r17_10_wp : type_of% (@wpR r17_10 _ r17_10.eq_1) := wpR r17_10.eq_1
@[simp] theorem r17_10_wpq : type_of% (@wpRq r17_10 _ r17_10.eq_1) := wpRq r17_10.eq_1
@[simp] theorem r17_10_wpm : type_of% (@wpRm r17_10 _ r17_10.eq_1) := wpRm r17_10.eq_1
def r17_11 : RT := (.eff (.ld false 1) (.cons (.ite (.bv 6) true (.op (.fld 3) (.cons (.inp 1) .nil)) (.cst (.tuple #[]))) .nil) r17_10)
@[simp] theorem r17_11_wp : type_of% (@wpR r17_11 _ r17_11.eq_1) := wpR r17_11.eq_1
@[simp] theorem r17_11_wpq : type_of% (@wpRq r17_11 _ r17_11.eq_1) := wpRq r17_11.eq_1
@[simp] theorem r17_11_wpm : type_of% (@wpRm r17_11 _ r17_11.eq_1) := wpRm r17_11.eq_1
def r17_12 : RT := (.eff (.ld false 1) (.cons (.ite (.bv 11) true (.op (.fld 5) (.cons (.inp 1) .nil)) (.cst (.tuple #[]))) .nil) (.chk none (.bin .neq) (.cons (.bv 12) (.cons (.cst (.int .i64 0)) .nil)) (.isb (some ((.bv 10), false)) (.bv 11) (.isb none (.bv 10) (.bnd (.ite (.bv 10) true (.cst (.bool true)) (.op (.bin .neq) (.cons (.bv 12) (.cons (.cst (.int .i64 0)) .nil)))) (.chk (some ((.bv 13), false)) (.un .not) (.cons (.inp 8) .nil) (.bnd (.ite (.bv 13) false (.op (.un .not) (.cons (.inp 8) .nil)) (.cst (.tuple #[]))) (.chk (some ((.bv 14), true)) (.fld 6) (.cons (.inp 1) .nil) (.ite (.bv 14) true (.eff (.ld false 1) (.cons (.ite (.bv 14) true (.op (.fld 6) (.cons (.inp 1) .nil)) (.cst (.tuple #[]))) .nil) (.chk none (.bin .neq) (.cons (.bv 15) (.cons (.cst (.int .i64 0)) .nil)) (.isb (some ((.bv 13), false)) (.bv 14) (.isb none (.bv 13) (.done [] (some (.ite (.bv 13) true (.cst (.bool true)) (.op (.bin .neq) (.cons (.bv 15) (.cons (.cst (.int .i64 0)) .nil)))))))))) (.isb (some ((.bv 13), false)) (.bv 14) (.isb none (.bv 13) (.done [] (some (.ite (.bv 13) true (.cst (.bool true)) (.cst (.bool false))))))))))))))))
@[simp] theorem r17_12_wp : type_of% (@wpR r17_12 _ r17_12.eq_1) := wpR r17_12.eq_1
@[simp] theorem r17_12_wpq : type_of% (@wpRq r17_12 _ r17_12.eq_1) := wpRq r17_12.eq_1
@[simp] theorem r17_12_wpm : type_of% (@wpRm r17_12 _ r17_12.eq_1) := wpRm r17_12.eq_1
def r17_13 : RT := (.isb (some ((.bv 10), false)) (.bv 11) (.isb none (.bv 10) (.bnd (.ite (.bv 10) true (.cst (.bool true)) (.cst (.bool false))) (.chk (some ((.bv 12), false)) (.un .not) (.cons (.inp 8) .nil) (.bnd (.ite (.bv 12) false (.op (.un .not) (.cons (.inp 8) .nil)) (.cst (.tuple #[]))) (.chk (some ((.bv 13), true)) (.fld 6) (.cons (.inp 1) .nil) (.ite (.bv 13) true (.eff (.ld false 1) (.cons (.ite (.bv 13) true (.op (.fld 6) (.cons (.inp 1) .nil)) (.cst (.tuple #[]))) .nil) (.chk none (.bin .neq) (.cons (.bv 14) (.cons (.cst (.int .i64 0)) .nil)) (.isb (some ((.bv 12), false)) (.bv 13) (.isb none (.bv 12) (.done [] (some (.ite (.bv 12) true (.cst (.bool true)) (.op (.bin .neq) (.cons (.bv 14) (.cons (.cst (.int .i64 0)) .nil)))))))))) (.isb (some ((.bv 12), false)) (.bv 13) (.isb none (.bv 12) (.done [] (some (.ite (.bv 12) true (.cst (.bool true)) (.cst (.bool false))))))))))))))
@[simp] theorem r17_13_wp : type_of% (@wpR r17_13 _ r17_13.eq_1) := wpR r17_13.eq_1
@[simp] theorem r17_13_wpq : type_of% (@wpRq r17_13 _ r17_13.eq_1) := wpRq r17_13.eq_1
@[simp] theorem r17_13_wpm : type_of% (@wpRm r17_13 _ r17_13.eq_1) := wpRm r17_13.eq_1
def r17_14 : RT := (.chk none (.bin .neq) (.cons (.bv 9) (.cons (.cst (.int .u64 0)) .nil)) (.isb (some ((.bv 7), false)) (.bv 8) (.isb none (.bv 7) (.bnd (.ite (.bv 7) true (.cst (.bool true)) (.op (.bin .neq) (.cons (.bv 9) (.cons (.cst (.int .u64 0)) .nil)))) (.chk (some ((.bv 10), false)) (.un .not) (.cons (.inp 7) .nil) (.bnd (.ite (.bv 10) false (.op (.un .not) (.cons (.inp 7) .nil)) (.cst (.tuple #[]))) (.chk (some ((.bv 11), true)) (.fld 5) (.cons (.inp 1) .nil) (.ite (.bv 11) true r17_12 r17_13))))))))
@[simp] theorem r17_14_wp : type_of% (@wpR r17_14 _ r17_14.eq_1) := wpR r17_14.eq_1
@[simp] theorem r17_14_wpq : type_of% (@wpRq r17_14 _ r17_14.eq_1) := wpRq r17_14.eq_1
@[simp] theorem r17_14_wpm : type_of% (@wpRm r17_14 _ r17_14.eq_1) := wpRm r17_14.eq_1
def r17_15 : RT := (.eff (.ld false 1) (.cons (.ite (.bv 8) true (.op (.fld 4) (.cons (.inp 1) .nil)) (.cst (.tuple #[]))) .nil) r17_14)
@[simp] theorem r17_15_wp : type_of% (@wpR r17_15 _ r17_15.eq_1) := wpR r17_15.eq_1
@[simp] theorem r17_15_wpq : type_of% (@wpRq r17_15 _ r17_15.eq_1) := wpRq r17_15.eq_1
@[simp] theorem r17_15_wpm : type_of% (@wpRm r17_15 _ r17_15.eq_1) := wpRm r17_15.eq_1
def r17_16 : RT := (.eff (.ld false 1) (.cons (.ite (.bv 10) true (.op (.fld 5) (.cons (.inp 1) .nil)) (.cst (.tuple #[]))) .nil) (.chk none (.bin .neq) (.cons (.bv 11) (.cons (.cst (.int .i64 0)) .nil)) (.isb (some ((.bv 9), false)) (.bv 10) (.isb none (.bv 9) (.bnd (.ite (.bv 9) true (.cst (.bool true)) (.op (.bin .neq) (.cons (.bv 11) (.cons (.cst (.int .i64 0)) .nil)))) (.chk (some ((.bv 12), false)) (.un .not) (.cons (.inp 8) .nil) (.bnd (.ite (.bv 12) false (.op (.un .not) (.cons (.inp 8) .nil)) (.cst (.tuple #[]))) (.chk (some ((.bv 13), true)) (.fld 6) (.cons (.inp 1) .nil) (.ite (.bv 13) true (.eff (.ld false 1) (.cons (.ite (.bv 13) true (.op (.fld 6) (.cons (.inp 1) .nil)) (.cst (.tuple #[]))) .nil) (.chk none (.bin .neq) (.cons (.bv 14) (.cons (.cst (.int .i64 0)) .nil)) (.isb (some ((.bv 12), false)) (.bv 13) (.isb none (.bv 12) (.done [] (some (.ite (.bv 12) true (.cst (.bool true)) (.op (.bin .neq) (.cons (.bv 14) (.cons (.cst (.int .i64 0)) .nil)))))))))) (.isb (some ((.bv 12), false)) (.bv 13) (.isb none (.bv 12) (.done [] (some (.ite (.bv 12) true (.cst (.bool true)) (.cst (.bool false))))))))))))))))
@[simp] theorem r17_16_wp : type_of% (@wpR r17_16 _ r17_16.eq_1) := wpR r17_16.eq_1
@[simp] theorem r17_16_wpq : type_of% (@wpRq r17_16 _ r17_16.eq_1) := wpRq r17_16.eq_1
@[simp] theorem r17_16_wpm : type_of% (@wpRm r17_16 _ r17_16.eq_1) := wpRm r17_16.eq_1
def r17_17 : RT := (.isb (some ((.bv 9), false)) (.bv 10) (.isb none (.bv 9) (.bnd (.ite (.bv 9) true (.cst (.bool true)) (.cst (.bool false))) (.chk (some ((.bv 11), false)) (.un .not) (.cons (.inp 8) .nil) (.bnd (.ite (.bv 11) false (.op (.un .not) (.cons (.inp 8) .nil)) (.cst (.tuple #[]))) (.chk (some ((.bv 12), true)) (.fld 6) (.cons (.inp 1) .nil) (.ite (.bv 12) true (.eff (.ld false 1) (.cons (.ite (.bv 12) true (.op (.fld 6) (.cons (.inp 1) .nil)) (.cst (.tuple #[]))) .nil) (.chk none (.bin .neq) (.cons (.bv 13) (.cons (.cst (.int .i64 0)) .nil)) (.isb (some ((.bv 11), false)) (.bv 12) (.isb none (.bv 11) (.done [] (some (.ite (.bv 11) true (.cst (.bool true)) (.op (.bin .neq) (.cons (.bv 13) (.cons (.cst (.int .i64 0)) .nil)))))))))) (.isb (some ((.bv 11), false)) (.bv 12) (.isb none (.bv 11) (.done [] (some (.ite (.bv 11) true (.cst (.bool true)) (.cst (.bool false))))))))))))))
@[simp] theorem r17_17_wp : type_of% (@wpR r17_17 _ r17_17.eq_1) := wpR r17_17.eq_1
@[simp] theorem r17_17_wpq : type_of% (@wpRq r17_17 _ r17_17.eq_1) := wpRq r17_17.eq_1
@[simp] theorem r17_17_wpm : type_of% (@wpRm r17_17 _ r17_17.eq_1) := wpRm r17_17.eq_1
def r17_18 : RT := (.isb (some ((.bv 7), false)) (.bv 8) (.isb none (.bv 7) (.bnd (.ite (.bv 7) true (.cst (.bool true)) (.cst (.bool false))) (.chk (some ((.bv 9), false)) (.un .not) (.cons (.inp 7) .nil) (.bnd (.ite (.bv 9) false (.op (.un .not) (.cons (.inp 7) .nil)) (.cst (.tuple #[]))) (.chk (some ((.bv 10), true)) (.fld 5) (.cons (.inp 1) .nil) (.ite (.bv 10) true r17_16 r17_17)))))))
@[simp] theorem r17_18_wp : type_of% (@wpR r17_18 _ r17_18.eq_1) := wpR r17_18.eq_1
@[simp] theorem r17_18_wpq : type_of% (@wpRq r17_18 _ r17_18.eq_1) := wpRq r17_18.eq_1
@[simp] theorem r17_18_wpm : type_of% (@wpRm r17_18 _ r17_18.eq_1) := wpRm r17_18.eq_1
def r17_19 : RT := (.isb (some ((.bv 5), false)) (.bv 6) (.isb none (.bv 5) (.bnd (.ite (.bv 5) true (.cst (.bool true)) (.cst (.bool false))) (.chk (some ((.bv 7), false)) (.un .not) (.cons (.inp 6) .nil) (.bnd (.ite (.bv 7) false (.op (.un .not) (.cons (.inp 6) .nil)) (.cst (.tuple #[]))) (.chk (some ((.bv 8), true)) (.fld 4) (.cons (.inp 1) .nil) (.ite (.bv 8) true r17_15 r17_18)))))))
@[simp] theorem r17_19_wp : type_of% (@wpR r17_19 _ r17_19.eq_1) := wpR r17_19.eq_1
@[simp] theorem r17_19_wpq : type_of% (@wpRq r17_19 _ r17_19.eq_1) := wpRq r17_19.eq_1
@[simp] theorem r17_19_wpm : type_of% (@wpRm r17_19 _ r17_19.eq_1) := wpRm r17_19.eq_1
def r17_20 : RT := (.chk none (.bin .neq) (.cons (.bv 4) (.cons (.cst (.int .i64 0)) .nil)) (.isb (some ((.bv 2), false)) (.bv 3) (.isb none (.bv 2) (.bnd (.ite (.bv 2) true (.cst (.bool true)) (.op (.bin .neq) (.cons (.bv 4) (.cons (.cst (.int .i64 0)) .nil)))) (.chk (some ((.bv 5), false)) (.un .not) (.cons (.inp 5) .nil) (.bnd (.ite (.bv 5) false (.op (.un .not) (.cons (.inp 5) .nil)) (.cst (.tuple #[]))) (.chk (some ((.bv 6), true)) (.fld 3) (.cons (.inp 1) .nil) (.ite (.bv 6) true r17_11 r17_19))))))))
@[simp] theorem r17_20_wp : type_of% (@wpR r17_20 _ r17_20.eq_1) := wpR r17_20.eq_1
@[simp] theorem r17_20_wpq : type_of% (@wpRq r17_20 _ r17_20.eq_1) := wpRq r17_20.eq_1
@[simp] theorem r17_20_wpm : type_of% (@wpRm r17_20 _ r17_20.eq_1) := wpRm r17_20.eq_1
def r17_21 : RT := (.eff (.ld false 1) (.cons (.ite (.bv 3) true (.op (.fld 2) (.cons (.inp 1) .nil)) (.cst (.tuple #[]))) .nil) r17_20)
@[simp] theorem r17_21_wp : type_of% (@wpR r17_21 _ r17_21.eq_1) := wpR r17_21.eq_1
@[simp] theorem r17_21_wpq : type_of% (@wpRq r17_21 _ r17_21.eq_1) := wpRq r17_21.eq_1
@[simp] theorem r17_21_wpm : type_of% (@wpRm r17_21 _ r17_21.eq_1) := wpRm r17_21.eq_1
def r17_22 : RT := (.eff (.ld false 1) (.cons (.ite (.bv 11) true (.op (.fld 5) (.cons (.inp 1) .nil)) (.cst (.tuple #[]))) .nil) (.chk none (.bin .neq) (.cons (.bv 12) (.cons (.cst (.int .i64 0)) .nil)) (.isb (some ((.bv 10), false)) (.bv 11) (.isb none (.bv 10) (.bnd (.ite (.bv 10) true (.cst (.bool true)) (.op (.bin .neq) (.cons (.bv 12) (.cons (.cst (.int .i64 0)) .nil)))) (.chk (some ((.bv 13), false)) (.un .not) (.cons (.inp 8) .nil) (.bnd (.ite (.bv 13) false (.op (.un .not) (.cons (.inp 8) .nil)) (.cst (.tuple #[]))) (.chk (some ((.bv 14), true)) (.fld 6) (.cons (.inp 1) .nil) (.ite (.bv 14) true (.eff (.ld false 1) (.cons (.ite (.bv 14) true (.op (.fld 6) (.cons (.inp 1) .nil)) (.cst (.tuple #[]))) .nil) (.chk none (.bin .neq) (.cons (.bv 15) (.cons (.cst (.int .i64 0)) .nil)) (.isb (some ((.bv 13), false)) (.bv 14) (.isb none (.bv 13) (.done [] (some (.ite (.bv 13) true (.cst (.bool true)) (.op (.bin .neq) (.cons (.bv 15) (.cons (.cst (.int .i64 0)) .nil)))))))))) (.isb (some ((.bv 13), false)) (.bv 14) (.isb none (.bv 13) (.done [] (some (.ite (.bv 13) true (.cst (.bool true)) (.cst (.bool false))))))))))))))))
@[simp] theorem r17_22_wp : type_of% (@wpR r17_22 _ r17_22.eq_1) := wpR r17_22.eq_1
@[simp] theorem r17_22_wpq : type_of% (@wpRq r17_22 _ r17_22.eq_1) := wpRq r17_22.eq_1
@[simp] theorem r17_22_wpm : type_of% (@wpRm r17_22 _ r17_22.eq_1) := wpRm r17_22.eq_1
def r17_23 : RT := (.isb (some ((.bv 10), false)) (.bv 11) (.isb none (.bv 10) (.bnd (.ite (.bv 10) true (.cst (.bool true)) (.cst (.bool false))) (.chk (some ((.bv 12), false)) (.un .not) (.cons (.inp 8) .nil) (.bnd (.ite (.bv 12) false (.op (.un .not) (.cons (.inp 8) .nil)) (.cst (.tuple #[]))) (.chk (some ((.bv 13), true)) (.fld 6) (.cons (.inp 1) .nil) (.ite (.bv 13) true (.eff (.ld false 1) (.cons (.ite (.bv 13) true (.op (.fld 6) (.cons (.inp 1) .nil)) (.cst (.tuple #[]))) .nil) (.chk none (.bin .neq) (.cons (.bv 14) (.cons (.cst (.int .i64 0)) .nil)) (.isb (some ((.bv 12), false)) (.bv 13) (.isb none (.bv 12) (.done [] (some (.ite (.bv 12) true (.cst (.bool true)) (.op (.bin .neq) (.cons (.bv 14) (.cons (.cst (.int .i64 0)) .nil)))))))))) (.isb (some ((.bv 12), false)) (.bv 13) (.isb none (.bv 12) (.done [] (some (.ite (.bv 12) true (.cst (.bool true)) (.cst (.bool false))))))))))))))
@[simp] theorem r17_23_wp : type_of% (@wpR r17_23 _ r17_23.eq_1) := wpR r17_23.eq_1
@[simp] theorem r17_23_wpq : type_of% (@wpRq r17_23 _ r17_23.eq_1) := wpRq r17_23.eq_1
@[simp] theorem r17_23_wpm : type_of% (@wpRm r17_23 _ r17_23.eq_1) := wpRm r17_23.eq_1
def r17_24 : RT := (.chk none (.bin .neq) (.cons (.bv 9) (.cons (.cst (.int .u64 0)) .nil)) (.isb (some ((.bv 7), false)) (.bv 8) (.isb none (.bv 7) (.bnd (.ite (.bv 7) true (.cst (.bool true)) (.op (.bin .neq) (.cons (.bv 9) (.cons (.cst (.int .u64 0)) .nil)))) (.chk (some ((.bv 10), false)) (.un .not) (.cons (.inp 7) .nil) (.bnd (.ite (.bv 10) false (.op (.un .not) (.cons (.inp 7) .nil)) (.cst (.tuple #[]))) (.chk (some ((.bv 11), true)) (.fld 5) (.cons (.inp 1) .nil) (.ite (.bv 11) true r17_22 r17_23))))))))
@[simp] theorem r17_24_wp : type_of% (@wpR r17_24 _ r17_24.eq_1) := wpR r17_24.eq_1
@[simp] theorem r17_24_wpq : type_of% (@wpRq r17_24 _ r17_24.eq_1) := wpRq r17_24.eq_1
@[simp] theorem r17_24_wpm : type_of% (@wpRm r17_24 _ r17_24.eq_1) := wpRm r17_24.eq_1
def r17_25 : RT := (.eff (.ld false 1) (.cons (.ite (.bv 8) true (.op (.fld 4) (.cons (.inp 1) .nil)) (.cst (.tuple #[]))) .nil) r17_24)
@[simp] theorem r17_25_wp : type_of% (@wpR r17_25 _ r17_25.eq_1) := wpR r17_25.eq_1
@[simp] theorem r17_25_wpq : type_of% (@wpRq r17_25 _ r17_25.eq_1) := wpRq r17_25.eq_1
@[simp] theorem r17_25_wpm : type_of% (@wpRm r17_25 _ r17_25.eq_1) := wpRm r17_25.eq_1
def r17_26 : RT := (.eff (.ld false 1) (.cons (.ite (.bv 10) true (.op (.fld 5) (.cons (.inp 1) .nil)) (.cst (.tuple #[]))) .nil) (.chk none (.bin .neq) (.cons (.bv 11) (.cons (.cst (.int .i64 0)) .nil)) (.isb (some ((.bv 9), false)) (.bv 10) (.isb none (.bv 9) (.bnd (.ite (.bv 9) true (.cst (.bool true)) (.op (.bin .neq) (.cons (.bv 11) (.cons (.cst (.int .i64 0)) .nil)))) (.chk (some ((.bv 12), false)) (.un .not) (.cons (.inp 8) .nil) (.bnd (.ite (.bv 12) false (.op (.un .not) (.cons (.inp 8) .nil)) (.cst (.tuple #[]))) (.chk (some ((.bv 13), true)) (.fld 6) (.cons (.inp 1) .nil) (.ite (.bv 13) true (.eff (.ld false 1) (.cons (.ite (.bv 13) true (.op (.fld 6) (.cons (.inp 1) .nil)) (.cst (.tuple #[]))) .nil) (.chk none (.bin .neq) (.cons (.bv 14) (.cons (.cst (.int .i64 0)) .nil)) (.isb (some ((.bv 12), false)) (.bv 13) (.isb none (.bv 12) (.done [] (some (.ite (.bv 12) true (.cst (.bool true)) (.op (.bin .neq) (.cons (.bv 14) (.cons (.cst (.int .i64 0)) .nil)))))))))) (.isb (some ((.bv 12), false)) (.bv 13) (.isb none (.bv 12) (.done [] (some (.ite (.bv 12) true (.cst (.bool true)) (.cst (.bool false))))))))))))))))
@[simp] theorem r17_26_wp : type_of% (@wpR r17_26 _ r17_26.eq_1) := wpR r17_26.eq_1
@[simp] theorem r17_26_wpq : type_of% (@wpRq r17_26 _ r17_26.eq_1) := wpRq r17_26.eq_1
@[simp] theorem r17_26_wpm : type_of% (@wpRm r17_26 _ r17_26.eq_1) := wpRm r17_26.eq_1
def r17_27 : RT := (.isb (some ((.bv 9), false)) (.bv 10) (.isb none (.bv 9) (.bnd (.ite (.bv 9) true (.cst (.bool true)) (.cst (.bool false))) (.chk (some ((.bv 11), false)) (.un .not) (.cons (.inp 8) .nil) (.bnd (.ite (.bv 11) false (.op (.un .not) (.cons (.inp 8) .nil)) (.cst (.tuple #[]))) (.chk (some ((.bv 12), true)) (.fld 6) (.cons (.inp 1) .nil) (.ite (.bv 12) true (.eff (.ld false 1) (.cons (.ite (.bv 12) true (.op (.fld 6) (.cons (.inp 1) .nil)) (.cst (.tuple #[]))) .nil) (.chk none (.bin .neq) (.cons (.bv 13) (.cons (.cst (.int .i64 0)) .nil)) (.isb (some ((.bv 11), false)) (.bv 12) (.isb none (.bv 11) (.done [] (some (.ite (.bv 11) true (.cst (.bool true)) (.op (.bin .neq) (.cons (.bv 13) (.cons (.cst (.int .i64 0)) .nil)))))))))) (.isb (some ((.bv 11), false)) (.bv 12) (.isb none (.bv 11) (.done [] (some (.ite (.bv 11) true (.cst (.bool true)) (.cst (.bool false))))))))))))))
@[simp] theorem r17_27_wp : type_of% (@wpR r17_27 _ r17_27.eq_1) := wpR r17_27.eq_1
@[simp] theorem r17_27_wpq : type_of% (@wpRq r17_27 _ r17_27.eq_1) := wpRq r17_27.eq_1
@[simp] theorem r17_27_wpm : type_of% (@wpRm r17_27 _ r17_27.eq_1) := wpRm r17_27.eq_1
def r17_28 : RT := (.isb (some ((.bv 7), false)) (.bv 8) (.isb none (.bv 7) (.bnd (.ite (.bv 7) true (.cst (.bool true)) (.cst (.bool false))) (.chk (some ((.bv 9), false)) (.un .not) (.cons (.inp 7) .nil) (.bnd (.ite (.bv 9) false (.op (.un .not) (.cons (.inp 7) .nil)) (.cst (.tuple #[]))) (.chk (some ((.bv 10), true)) (.fld 5) (.cons (.inp 1) .nil) (.ite (.bv 10) true r17_26 r17_27)))))))
@[simp] theorem r17_28_wp : type_of% (@wpR r17_28 _ r17_28.eq_1) := wpR r17_28.eq_1
@[simp] theorem r17_28_wpq : type_of% (@wpRq r17_28 _ r17_28.eq_1) := wpRq r17_28.eq_1
@[simp] theorem r17_28_wpm : type_of% (@wpRm r17_28 _ r17_28.eq_1) := wpRm r17_28.eq_1
def r17_29 : RT := (.chk none (.bin .neq) (.cons (.bv 6) (.cons (.cst (.int .i64 0)) .nil)) (.isb (some ((.bv 4), false)) (.bv 5) (.isb none (.bv 4) (.bnd (.ite (.bv 4) true (.cst (.bool true)) (.op (.bin .neq) (.cons (.bv 6) (.cons (.cst (.int .i64 0)) .nil)))) (.chk (some ((.bv 7), false)) (.un .not) (.cons (.inp 6) .nil) (.bnd (.ite (.bv 7) false (.op (.un .not) (.cons (.inp 6) .nil)) (.cst (.tuple #[]))) (.chk (some ((.bv 8), true)) (.fld 4) (.cons (.inp 1) .nil) (.ite (.bv 8) true r17_25 r17_28))))))))
@[simp] theorem r17_29_wp : type_of% (@wpR r17_29 _ r17_29.eq_1) := wpR r17_29.eq_1
@[simp] theorem r17_29_wpq : type_of% (@wpRq r17_29 _ r17_29.eq_1) := wpRq r17_29.eq_1
@[simp] theorem r17_29_wpm : type_of% (@wpRm r17_29 _ r17_29.eq_1) := wpRm r17_29.eq_1
def r17_30 : RT := (.eff (.ld false 1) (.cons (.ite (.bv 5) true (.op (.fld 3) (.cons (.inp 1) .nil)) (.cst (.tuple #[]))) .nil) r17_29)
@[simp] theorem r17_30_wp : type_of% (@wpR r17_30 _ r17_30.eq_1) := wpR r17_30.eq_1
@[simp] theorem r17_30_wpq : type_of% (@wpRq r17_30 _ r17_30.eq_1) := wpRq r17_30.eq_1
@[simp] theorem r17_30_wpm : type_of% (@wpRm r17_30 _ r17_30.eq_1) := wpRm r17_30.eq_1
def r17_31 : RT := (.eff (.ld false 1) (.cons (.ite (.bv 10) true (.op (.fld 5) (.cons (.inp 1) .nil)) (.cst (.tuple #[]))) .nil) (.chk none (.bin .neq) (.cons (.bv 11) (.cons (.cst (.int .i64 0)) .nil)) (.isb (some ((.bv 9), false)) (.bv 10) (.isb none (.bv 9) (.bnd (.ite (.bv 9) true (.cst (.bool true)) (.op (.bin .neq) (.cons (.bv 11) (.cons (.cst (.int .i64 0)) .nil)))) (.chk (some ((.bv 12), false)) (.un .not) (.cons (.inp 8) .nil) (.bnd (.ite (.bv 12) false (.op (.un .not) (.cons (.inp 8) .nil)) (.cst (.tuple #[]))) (.chk (some ((.bv 13), true)) (.fld 6) (.cons (.inp 1) .nil) (.ite (.bv 13) true (.eff (.ld false 1) (.cons (.ite (.bv 13) true (.op (.fld 6) (.cons (.inp 1) .nil)) (.cst (.tuple #[]))) .nil) (.chk none (.bin .neq) (.cons (.bv 14) (.cons (.cst (.int .i64 0)) .nil)) (.isb (some ((.bv 12), false)) (.bv 13) (.isb none (.bv 12) (.done [] (some (.ite (.bv 12) true (.cst (.bool true)) (.op (.bin .neq) (.cons (.bv 14) (.cons (.cst (.int .i64 0)) .nil)))))))))) (.isb (some ((.bv 12), false)) (.bv 13) (.isb none (.bv 12) (.done [] (some (.ite (.bv 12) true (.cst (.bool true)) (.cst (.bool false))))))))))))))))
@[simp] theorem r17_31_wp : type_of% (@wpR r17_31 _ r17_31.eq_1) := wpR r17_31.eq_1
@[simp] theorem r17_31_wpq : type_of% (@wpRq r17_31 _ r17_31.eq_1) := wpRq r17_31.eq_1
@[simp] theorem r17_31_wpm : type_of% (@wpRm r17_31 _ r17_31.eq_1) := wpRm r17_31.eq_1
def r17_32 : RT := (.isb (some ((.bv 9), false)) (.bv 10) (.isb none (.bv 9) (.bnd (.ite (.bv 9) true (.cst (.bool true)) (.cst (.bool false))) (.chk (some ((.bv 11), false)) (.un .not) (.cons (.inp 8) .nil) (.bnd (.ite (.bv 11) false (.op (.un .not) (.cons (.inp 8) .nil)) (.cst (.tuple #[]))) (.chk (some ((.bv 12), true)) (.fld 6) (.cons (.inp 1) .nil) (.ite (.bv 12) true (.eff (.ld false 1) (.cons (.ite (.bv 12) true (.op (.fld 6) (.cons (.inp 1) .nil)) (.cst (.tuple #[]))) .nil) (.chk none (.bin .neq) (.cons (.bv 13) (.cons (.cst (.int .i64 0)) .nil)) (.isb (some ((.bv 11), false)) (.bv 12) (.isb none (.bv 11) (.done [] (some (.ite (.bv 11) true (.cst (.bool true)) (.op (.bin .neq) (.cons (.bv 13) (.cons (.cst (.int .i64 0)) .nil)))))))))) (.isb (some ((.bv 11), false)) (.bv 12) (.isb none (.bv 11) (.done [] (some (.ite (.bv 11) true (.cst (.bool true)) (.cst (.bool false))))))))))))))
@[simp] theorem r17_32_wp : type_of% (@wpR r17_32 _ r17_32.eq_1) := wpR r17_32.eq_1
@[simp] theorem r17_32_wpq : type_of% (@wpRq r17_32 _ r17_32.eq_1) := wpRq r17_32.eq_1
@[simp] theorem r17_32_wpm : type_of% (@wpRm r17_32 _ r17_32.eq_1) := wpRm r17_32.eq_1
def r17_33 : RT := (.chk none (.bin .neq) (.cons (.bv 8) (.cons (.cst (.int .u64 0)) .nil)) (.isb (some ((.bv 6), false)) (.bv 7) (.isb none (.bv 6) (.bnd (.ite (.bv 6) true (.cst (.bool true)) (.op (.bin .neq) (.cons (.bv 8) (.cons (.cst (.int .u64 0)) .nil)))) (.chk (some ((.bv 9), false)) (.un .not) (.cons (.inp 7) .nil) (.bnd (.ite (.bv 9) false (.op (.un .not) (.cons (.inp 7) .nil)) (.cst (.tuple #[]))) (.chk (some ((.bv 10), true)) (.fld 5) (.cons (.inp 1) .nil) (.ite (.bv 10) true r17_31 r17_32))))))))
@[simp] theorem r17_33_wp : type_of% (@wpR r17_33 _ r17_33.eq_1) := wpR r17_33.eq_1
@[simp] theorem r17_33_wpq : type_of% (@wpRq r17_33 _ r17_33.eq_1) := wpRq r17_33.eq_1
@[simp] theorem r17_33_wpm : type_of% (@wpRm r17_33 _ r17_33.eq_1) := wpRm r17_33.eq_1
def r17_34 : RT := (.eff (.ld false 1) (.cons (.ite (.bv 7) true (.op (.fld 4) (.cons (.inp 1) .nil)) (.cst (.tuple #[]))) .nil) r17_33)
@[simp] theorem r17_34_wp : type_of% (@wpR r17_34 _ r17_34.eq_1) := wpR r17_34.eq_1
@[simp] theorem r17_34_wpq : type_of% (@wpRq r17_34 _ r17_34.eq_1) := wpRq r17_34.eq_1
@[simp] theorem r17_34_wpm : type_of% (@wpRm r17_34 _ r17_34.eq_1) := wpRm r17_34.eq_1
def r17_35 : RT := (.eff (.ld false 1) (.cons (.ite (.bv 9) true (.op (.fld 5) (.cons (.inp 1) .nil)) (.cst (.tuple #[]))) .nil) (.chk none (.bin .neq) (.cons (.bv 10) (.cons (.cst (.int .i64 0)) .nil)) (.isb (some ((.bv 8), false)) (.bv 9) (.isb none (.bv 8) (.bnd (.ite (.bv 8) true (.cst (.bool true)) (.op (.bin .neq) (.cons (.bv 10) (.cons (.cst (.int .i64 0)) .nil)))) (.chk (some ((.bv 11), false)) (.un .not) (.cons (.inp 8) .nil) (.bnd (.ite (.bv 11) false (.op (.un .not) (.cons (.inp 8) .nil)) (.cst (.tuple #[]))) (.chk (some ((.bv 12), true)) (.fld 6) (.cons (.inp 1) .nil) (.ite (.bv 12) true (.eff (.ld false 1) (.cons (.ite (.bv 12) true (.op (.fld 6) (.cons (.inp 1) .nil)) (.cst (.tuple #[]))) .nil) (.chk none (.bin .neq) (.cons (.bv 13) (.cons (.cst (.int .i64 0)) .nil)) (.isb (some ((.bv 11), false)) (.bv 12) (.isb none (.bv 11) (.done [] (some (.ite (.bv 11) true (.cst (.bool true)) (.op (.bin .neq) (.cons (.bv 13) (.cons (.cst (.int .i64 0)) .nil)))))))))) (.isb (some ((.bv 11), false)) (.bv 12) (.isb none (.bv 11) (.done [] (some (.ite (.bv 11) true (.cst (.bool true)) (.cst (.bool false))))))))))))))))
@[simp] theorem r17_35_wp : type_of% (@wpR r17_35 _ r17_35.eq_1) := wpR r17_35.eq_1
@[simp] theorem r17_35_wpq : type_of% (@wpRq r17_35 _ r17_35.eq_1) := wpRq r17_35.eq_1
@[simp] theorem r17_35_wpm : type_of% (@wpRm r17_35 _ r17_35.eq_1) := wpRm r17_35.eq_1
def r17_36 : RT := (.isb (some ((.bv 8), false)) (.bv 9) (.isb none (.bv 8) (.bnd (.ite (.bv 8) true (.cst (.bool true)) (.cst (.bool false))) (.chk (some ((.bv 10), false)) (.un .not) (.cons (.inp 8) .nil) (.bnd (.ite (.bv 10) false (.op (.un .not) (.cons (.inp 8) .nil)) (.cst (.tuple #[]))) (.chk (some ((.bv 11), true)) (.fld 6) (.cons (.inp 1) .nil) (.ite (.bv 11) true (.eff (.ld false 1) (.cons (.ite (.bv 11) true (.op (.fld 6) (.cons (.inp 1) .nil)) (.cst (.tuple #[]))) .nil) (.chk none (.bin .neq) (.cons (.bv 12) (.cons (.cst (.int .i64 0)) .nil)) (.isb (some ((.bv 10), false)) (.bv 11) (.isb none (.bv 10) (.done [] (some (.ite (.bv 10) true (.cst (.bool true)) (.op (.bin .neq) (.cons (.bv 12) (.cons (.cst (.int .i64 0)) .nil)))))))))) (.isb (some ((.bv 10), false)) (.bv 11) (.isb none (.bv 10) (.done [] (some (.ite (.bv 10) true (.cst (.bool true)) (.cst (.bool false))))))))))))))
@[simp] theorem r17_36_wp : type_of% (@wpR r17_36 _ r17_36.eq_1) := wpR r17_36.eq_1
@[simp] theorem r17_36_wpq : type_of% (@wpRq r17_36 _ r17_36.eq_1) := wpRq r17_36.eq_1
@[simp] theorem r17_36_wpm : type_of% (@wpRm r17_36 _ r17_36.eq_1) := wpRm r17_36.eq_1
def r17_37 : RT := (.isb (some ((.bv 6), false)) (.bv 7) (.isb none (.bv 6) (.bnd (.ite (.bv 6) true (.cst (.bool true)) (.cst (.bool false))) (.chk (some ((.bv 8), false)) (.un .not) (.cons (.inp 7) .nil) (.bnd (.ite (.bv 8) false (.op (.un .not) (.cons (.inp 7) .nil)) (.cst (.tuple #[]))) (.chk (some ((.bv 9), true)) (.fld 5) (.cons (.inp 1) .nil) (.ite (.bv 9) true r17_35 r17_36)))))))
@[simp] theorem r17_37_wp : type_of% (@wpR r17_37 _ r17_37.eq_1) := wpR r17_37.eq_1
@[simp] theorem r17_37_wpq : type_of% (@wpRq r17_37 _ r17_37.eq_1) := wpRq r17_37.eq_1
@[simp] theorem r17_37_wpm : type_of% (@wpRm r17_37 _ r17_37.eq_1) := wpRm r17_37.eq_1
def r17_38 : RT := (.isb (some ((.bv 4), false)) (.bv 5) (.isb none (.bv 4) (.bnd (.ite (.bv 4) true (.cst (.bool true)) (.cst (.bool false))) (.chk (some ((.bv 6), false)) (.un .not) (.cons (.inp 6) .nil) (.bnd (.ite (.bv 6) false (.op (.un .not) (.cons (.inp 6) .nil)) (.cst (.tuple #[]))) (.chk (some ((.bv 7), true)) (.fld 4) (.cons (.inp 1) .nil) (.ite (.bv 7) true r17_34 r17_37)))))))
@[simp] theorem r17_38_wp : type_of% (@wpR r17_38 _ r17_38.eq_1) := wpR r17_38.eq_1
@[simp] theorem r17_38_wpq : type_of% (@wpRq r17_38 _ r17_38.eq_1) := wpRq r17_38.eq_1
@[simp] theorem r17_38_wpm : type_of% (@wpRm r17_38 _ r17_38.eq_1) := wpRm r17_38.eq_1
def r17_39 : RT := (.isb (some ((.bv 2), false)) (.bv 3) (.isb none (.bv 2) (.bnd (.ite (.bv 2) true (.cst (.bool true)) (.cst (.bool false))) (.chk (some ((.bv 4), false)) (.un .not) (.cons (.inp 5) .nil) (.bnd (.ite (.bv 4) false (.op (.un .not) (.cons (.inp 5) .nil)) (.cst (.tuple #[]))) (.chk (some ((.bv 5), true)) (.fld 3) (.cons (.inp 1) .nil) (.ite (.bv 5) true r17_30 r17_38)))))))
@[simp] theorem r17_39_wp : type_of% (@wpR r17_39 _ r17_39.eq_1) := wpR r17_39.eq_1
@[simp] theorem r17_39_wpq : type_of% (@wpRq r17_39 _ r17_39.eq_1) := wpRq r17_39.eq_1
@[simp] theorem r17_39_wpm : type_of% (@wpRm r17_39 _ r17_39.eq_1) := wpRm r17_39.eq_1
def r17_40 : RT := (.chk none (.bin .neq) (.cons (.bv 1) (.cons (.cst (.string ⟨#[]⟩)) .nil)) (.isb none (.bv 0) (.bnd (.op (.bin .neq) (.cons (.bv 1) (.cons (.cst (.string ⟨#[]⟩)) .nil))) (.chk (some ((.bv 2), false)) (.un .not) (.cons (.inp 4) .nil) (.bnd (.ite (.bv 2) false (.op (.un .not) (.cons (.inp 4) .nil)) (.cst (.tuple #[]))) (.chk (some ((.bv 3), true)) (.fld 2) (.cons (.inp 1) .nil) (.ite (.bv 3) true r17_21 r17_39)))))))
@[simp] theorem r17_40_wp : type_of% (@wpR r17_40 _ r17_40.eq_1) := wpR r17_40.eq_1
@[simp] theorem r17_40_wpq : type_of% (@wpRq r17_40 _ r17_40.eq_1) := wpRq r17_40.eq_1
@[simp] theorem r17_40_wpm : type_of% (@wpRm r17_40 _ r17_40.eq_1) := wpRm r17_40.eq_1
def r17_41 : RT := (.eff (.ld false 1) (.cons (.ite (.bv 0) true (.op (.fld 1) (.cons (.inp 1) .nil)) (.cst (.tuple #[]))) .nil) r17_40)
@[simp] theorem r17_41_wp : type_of% (@wpR r17_41 _ r17_41.eq_1) := wpR r17_41.eq_1
@[simp] theorem r17_41_wpq : type_of% (@wpRq r17_41 _ r17_41.eq_1) := wpRq r17_41.eq_1
@[simp] theorem r17_41_wpm : type_of% (@wpRm r17_41 _ r17_41.eq_1) := wpRm r17_41.eq_1
def r17_42 : RT := (.eff (.ld false 1) (.cons (.ite (.bv 10) true (.op (.fld 5) (.cons (.inp 1) .nil)) (.cst (.tuple #[]))) .nil) (.chk none (.bin .neq) (.cons (.bv 11) (.cons (.cst (.int .i64 0)) .nil)) (.isb (some ((.bv 9), false)) (.bv 10) (.isb none (.bv 9) (.bnd (.ite (.bv 9) true (.cst (.bool true)) (.op (.bin .neq) (.cons (.bv 11) (.cons (.cst (.int .i64 0)) .nil)))) (.chk (some ((.bv 12), false)) (.un .not) (.cons (.inp 8) .nil) (.bnd (.ite (.bv 12) false (.op (.un .not) (.cons (.inp 8) .nil)) (.cst (.tuple #[]))) (.chk (some ((.bv 13), true)) (.fld 6) (.cons (.inp 1) .nil) (.ite (.bv 13) true (.eff (.ld false 1) (.cons (.ite (.bv 13) true (.op (.fld 6) (.cons (.inp 1) .nil)) (.cst (.tuple #[]))) .nil) (.chk none (.bin .neq) (.cons (.bv 14) (.cons (.cst (.int .i64 0)) .nil)) (.isb (some ((.bv 12), false)) (.bv 13) (.isb none (.bv 12) (.done [] (some (.ite (.bv 12) true (.cst (.bool true)) (.op (.bin .neq) (.cons (.bv 14) (.cons (.cst (.int .i64 0)) .nil)))))))))) (.isb (some ((.bv 12), false)) (.bv 13) (.isb none (.bv 12) (.done [] (some (.ite (.bv 12) true (.cst (.bool true)) (.cst (.bool false))))))))))))))))
@[simp] theorem r17_42_wp : type_of% (@wpR r17_42 _ r17_42.eq_1) := wpR r17_42.eq_1
@[simp] theorem r17_42_wpq : type_of% (@wpRq r17_42 _ r17_42.eq_1) := wpRq r17_42.eq_1
@[simp] theorem r17_42_wpm : type_of% (@wpRm r17_42 _ r17_42.eq_1) := wpRm r17_42.eq_1
def r17_43 : RT := (.isb (some ((.bv 9), false)) (.bv 10) (.isb none (.bv 9) (.bnd (.ite (.bv 9) true (.cst (.bool true)) (.cst (.bool false))) (.chk (some ((.bv 11), false)) (.un .not) (.cons (.inp 8) .nil) (.bnd (.ite (.bv 11) false (.op (.un .not) (.cons (.inp 8) .nil)) (.cst (.tuple #[]))) (.chk (some ((.bv 12), true)) (.fld 6) (.cons (.inp 1) .nil) (.ite (.bv 12) true (.eff (.ld false 1) (.cons (.ite (.bv 12) true (.op (.fld 6) (.cons (.inp 1) .nil)) (.cst (.tuple #[]))) .nil) (.chk none (.bin .neq) (.cons (.bv 13) (.cons (.cst (.int .i64 0)) .nil)) (.isb (some ((.bv 11), false)) (.bv 12) (.isb none (.bv 11) (.done [] (some (.ite (.bv 11) true (.cst (.bool true)) (.op (.bin .neq) (.cons (.bv 13) (.cons (.cst (.int .i64 0)) .nil)))))))))) (.isb (some ((.bv 11), false)) (.bv 12) (.isb none (.bv 11) (.done [] (some (.ite (.bv 11) true (.cst (.bool true)) (.cst (.bool false))))))))))))))
@[simp] theorem r17_43_wp : type_of% (@wpR r17_43 _ r17_43.eq_1) := wpR r17_43.eq_1
@[simp] theorem r17_43_wpq : type_of% (@wpRq r17_43 _ r17_43.eq_1) := wpRq r17_43.eq_1
@[simp] theorem r17_43_wpm : type_of% (@wpRm r17_43 _ r17_43.eq_1) := wpRm r17_43.eq_1
def r17_44 : RT := (.chk none (.bin .neq) (.cons (.bv 8) (.cons (.cst (.int .u64 0)) .nil)) (.isb (some ((.bv 6), false)) (.bv 7) (.isb none (.bv 6) (.bnd (.ite (.bv 6) true (.cst (.bool true)) (.op (.bin .neq) (.cons (.bv 8) (.cons (.cst (.int .u64 0)) .nil)))) (.chk (some ((.bv 9), false)) (.un .not) (.cons (.inp 7) .nil) (.bnd (.ite (.bv 9) false (.op (.un .not) (.cons (.inp 7) .nil)) (.cst (.tuple #[]))) (.chk (some ((.bv 10), true)) (.fld 5) (.cons (.inp 1) .nil) (.ite (.bv 10) true r17_42 r17_43))))))))
@[simp] theorem r17_44_wp : type_of% (@wpR r17_44 _ r17_44.eq_1) := wpR r17_44.eq_1
@[simp] theorem r17_44_wpq : type_of% (@wpRq r17_44 _ r17_44.eq_1) := wpRq r17_44.eq_1
@[simp] theorem r17_44_wpm : type_of% (@wpRm r17_44 _ r17_44.eq_1) := wpRm r17_44.eq_1
def r17_45 : RT := (.eff (.ld false 1) (.cons (.ite (.bv 7) true (.op (.fld 4) (.cons (.inp 1) .nil)) (.cst (.tuple #[]))) .nil) r17_44)
@[simp] theorem r17_45_wp : type_of% (@wpR r17_45 _ r17_45.eq_1) := wpR r17_45.eq_1
@[simp] theorem r17_45_wpq : type_of% (@wpRq r17_45 _ r17_45.eq_1) := wpRq r17_45.eq_1
@[simp] theorem r17_45_wpm : type_of% (@wpRm r17_45 _ r17_45.eq_1) := wpRm r17_45.eq_1
def r17_46 : RT := (.eff (.ld false 1) (.cons (.ite (.bv 9) true (.op (.fld 5) (.cons (.inp 1) .nil)) (.cst (.tuple #[]))) .nil) (.chk none (.bin .neq) (.cons (.bv 10) (.cons (.cst (.int .i64 0)) .nil)) (.isb (some ((.bv 8), false)) (.bv 9) (.isb none (.bv 8) (.bnd (.ite (.bv 8) true (.cst (.bool true)) (.op (.bin .neq) (.cons (.bv 10) (.cons (.cst (.int .i64 0)) .nil)))) (.chk (some ((.bv 11), false)) (.un .not) (.cons (.inp 8) .nil) (.bnd (.ite (.bv 11) false (.op (.un .not) (.cons (.inp 8) .nil)) (.cst (.tuple #[]))) (.chk (some ((.bv 12), true)) (.fld 6) (.cons (.inp 1) .nil) (.ite (.bv 12) true (.eff (.ld false 1) (.cons (.ite (.bv 12) true (.op (.fld 6) (.cons (.inp 1) .nil)) (.cst (.tuple #[]))) .nil) (.chk none (.bin .neq) (.cons (.bv 13) (.cons (.cst (.int .i64 0)) .nil)) (.isb (some ((.bv 11), false)) (.bv 12) (.isb none (.bv 11) (.done [] (some (.ite (.bv 11) true (.cst (.bool true)) (.op (.bin .neq) (.cons (.bv 13) (.cons (.cst (.int .i64 0)) .nil)))))))))) (.isb (some ((.bv 11), false)) (.bv 12) (.isb none (.bv 11) (.done [] (some (.ite (.bv 11) true (.cst (.bool true)) (.cst (.bool false))))))))))))))))
@[simp] theorem r17_46_wp : type_of% (@wpR r17_46 _ r17_46.eq_1) := wpR r17_46.eq_1
@[simp] theorem r17_46_wpq : type_of% (@wpRq r17_46 _ r17_46.eq_1) := wpRq r17_46.eq_1
@[simp] theorem r17_46_wpm : type_of% (@wpRm r17_46 _ r17_46.eq_1) := wpRm r17_46.eq_1
def r17_47 : RT := (.isb (some ((.bv 8), false)) (.bv 9) (.isb none (.bv 8) (.bnd (.ite (.bv 8) true (.cst (.bool true)) (.cst (.bool false))) (.chk (some ((.bv 10), false)) (.un .not) (.cons (.inp 8) .nil) (.bnd (.ite (.bv 10) false (.op (.un .not) (.cons (.inp 8) .nil)) (.cst (.tuple #[]))) (.chk (some ((.bv 11), true)) (.fld 6) (.cons (.inp 1) .nil) (.ite (.bv 11) true (.eff (.ld false 1) (.cons (.ite (.bv 11) true (.op (.fld 6) (.cons (.inp 1) .nil)) (.cst (.tuple #[]))) .nil) (.chk none (.bin .neq) (.cons (.bv 12) (.cons (.cst (.int .i64 0)) .nil)) (.isb (some ((.bv 10), false)) (.bv 11) (.isb none (.bv 10) (.done [] (some (.ite (.bv 10) true (.cst (.bool true)) (.op (.bin .neq) (.cons (.bv 12) (.cons (.cst (.int .i64 0)) .nil)))))))))) (.isb (some ((.bv 10), false)) (.bv 11) (.isb none (.bv 10) (.done [] (some (.ite (.bv 10) true (.cst (.bool true)) (.cst (.bool false))))))))))))))
@[simp] theorem r17_47_wp : type_of% (@wpR r17_47 _ r17_47.eq_1) := wpR r17_47.eq_1
@[simp] theorem r17_47_wpq : type_of% (@wpRq r17_47 _ r17_47.eq_1) := wpRq r17_47.eq_1
@[simp] theorem r17_47_wpm : type_of% (@wpRm r17_47 _ r17_47.eq_1) := wpRm r17_47.eq_1
def r17_48 : RT := (.isb (some ((.bv 6), false)) (.bv 7) (.isb none (.bv 6) (.bnd (.ite (.bv 6) true (.cst (.bool true)) (.cst (.bool false))) (.chk (some ((.bv 8), false)) (.un .not) (.cons (.inp 7) .nil) (.bnd (.ite (.bv 8) false (.op (.un .not) (.cons (.inp 7) .nil)) (.cst (.tuple #[]))) (.chk (some ((.bv 9), true)) (.fld 5) (.cons (.inp 1) .nil) (.ite (.bv 9) true r17_46 r17_47)))))))
@[simp] theorem r17_48_wp : type_of% (@wpR r17_48 _ r17_48.eq_1) := wpR r17_48.eq_1
@[simp] theorem r17_48_wpq : type_of% (@wpRq r17_48 _ r17_48.eq_1) := wpRq r17_48.eq_1
@[simp] theorem r17_48_wpm : type_of% (@wpRm r17_48 _ r17_48.eq_1) := wpRm r17_48.eq_1
def r17_49 : RT := (.chk none (.bin .neq) (.cons (.bv 5) (.cons (.cst (.int .i64 0)) .nil)) (.isb (some ((.bv 3), false)) (.bv 4) (.isb none (.bv 3) (.bnd (.ite (.bv 3) true (.cst (.bool true)) (.op (.bin .neq) (.cons (.bv 5) (.cons (.cst (.int .i64 0)) .nil)))) (.chk (some ((.bv 6), false)) (.un .not) (.cons (.inp 6) .nil) (.bnd (.ite (.bv 6) false (.op (.un .not) (.cons (.inp 6) .nil)) (.cst (.tuple #[]))) (.chk (some ((.bv 7), true)) (.fld 4) (.cons (.inp 1) .nil) (.ite (.bv 7) true r17_45 r17_48))))))))
@[simp] theorem r17_49_wp : type_of% (@wpR r17_49 _ r17_49.eq_1) := wpR r17_49.eq_1
@[simp] theorem r17_49_wpq : type_of% (@wpRq r17_49 _ r17_49.eq_1) := wpRq r17_49.eq_1
@[simp] theorem r17_49_wpm : type_of% (@wpRm r17_49 _ r17_49.eq_1) := wpRm r17_49.eq_1
def r17_50 : RT := (.eff (.ld false 1) (.cons (.ite (.bv 4) true (.op (.fld 3) (.cons (.inp 1) .nil)) (.cst (.tuple #[]))) .nil) r17_49)
@[simp] theorem r17_50_wp : type_of% (@wpR r17_50 _ r17_50.eq_1) := wpR r17_50.eq_1
@[simp] theorem r17_50_wpq : type_of% (@wpRq r17_50 _ r17_50.eq_1) := wpRq r17_50.eq_1
@[simp] theorem r17_50_wpm : type_of% (@wpRm r17_50 _ r17_50.eq_1) := wpRm r17_50.eq_1
def r17_51 : RT := (.eff (.ld false 1) (.cons (.ite (.bv 9) true (.op (.fld 5) (.cons (.inp 1) .nil)) (.cst (.tuple #[]))) .nil) (.chk none (.bin .neq) (.cons (.bv 10) (.cons (.cst (.int .i64 0)) .nil)) (.isb (some ((.bv 8), false)) (.bv 9) (.isb none (.bv 8) (.bnd (.ite (.bv 8) true (.cst (.bool true)) (.op (.bin .neq) (.cons (.bv 10) (.cons (.cst (.int .i64 0)) .nil)))) (.chk (some ((.bv 11), false)) (.un .not) (.cons (.inp 8) .nil) (.bnd (.ite (.bv 11) false (.op (.un .not) (.cons (.inp 8) .nil)) (.cst (.tuple #[]))) (.chk (some ((.bv 12), true)) (.fld 6) (.cons (.inp 1) .nil) (.ite (.bv 12) true (.eff (.ld false 1) (.cons (.ite (.bv 12) true (.op (.fld 6) (.cons (.inp 1) .nil)) (.cst (.tuple #[]))) .nil) (.chk none (.bin .neq) (.cons (.bv 13) (.cons (.cst (.int .i64 0)) .nil)) (.isb (some ((.bv 11), false)) (.bv 12) (.isb none (.bv 11) (.done [] (some (.ite (.bv 11) true (.cst (.bool true)) (.op (.bin .neq) (.cons (.bv 13) (.cons (.cst (.int .i64 0)) .nil)))))))))) (.isb (some ((.bv 11), false)) (.bv 12) (.isb none (.bv 11) (.done [] (some (.ite (.bv 11) true (.cst (.bool true)) (.cst (.bool false))))))))))))))))
@[simp] theorem r17_51_wp : type_of% (@wpR r17_51 _ r17_51.eq_1) := wpR r17_51.eq_1
@[simp] theorem r17_51_wpq : type_of% (@wpRq r17_51 _ r17_51.eq_1) := wpRq r17_51.eq_1
@[simp] theorem r17_51_wpm : type_of% (@wpRm r17_51 _ r17_51.eq_1) := wpRm r17_51.eq_1
def r17_52 : RT := (.isb (some ((.bv 8), false)) (.bv 9) (.isb none (.bv 8) (.bnd (.ite (.bv 8) true (.cst (.bool true)) (.cst (.bool false))) (.chk (some ((.bv 10), false)) (.un .not) (.cons (.inp 8) .nil) (.bnd (.ite (.bv 10) false (.op (.un .not) (.cons (.inp 8) .nil)) (.cst (.tuple #[]))) (.chk (some ((.bv 11), true)) (.fld 6) (.cons (.inp 1) .nil) (.ite (.bv 11) true (.eff (.ld false 1) (.cons (.ite (.bv 11) true (.op (.fld 6) (.cons (.inp 1) .nil)) (.cst (.tuple #[]))) .nil) (.chk none (.bin .neq) (.cons (.bv 12) (.cons (.cst (.int .i64 0)) .nil)) (.isb (some ((.bv 10), false)) (.bv 11) (.isb none (.bv 10) (.done [] (some (.ite (.bv 10) true (.cst (.bool true)) (.op (.bin .neq) (.cons (.bv 12) (.cons (.cst (.int .i64 0)) .nil)))))))))) (.isb (some ((.bv 10), false)) (.bv 11) (.isb none (.bv 10) (.done [] (some (.ite (.bv 10) true (.cst (.bool true)) (.cst (.bool false))))))))))))))
@[simp] theorem r17_52_wp : type_of% (@wpR r17_52 _ r17_52.eq_1) := wpR r17_52.eq_1
@[simp] theorem r17_52_wpq : type_of% (@wpRq r17_52 _ r17_52.eq_1) := wpRq r17_52.eq_1
@[simp] theorem r17_52_wpm : type_of% (@wpRm r17_52 _ r17_52.eq_1) := wpRm r17_52.eq_1
def r17_53 : RT := (.chk none (.bin .neq) (.cons (.bv 7) (.cons (.cst (.int .u64 0)) .nil)) (.isb (some ((.bv 5), false)) (.bv 6) (.isb none (.bv 5) (.bnd (.ite (.bv 5) true (.cst (.bool true)) (.op (.bin .neq) (.cons (.bv 7) (.cons (.cst (.int .u64 0)) .nil)))) (.chk (some ((.bv 8), false)) (.un .not) (.cons (.inp 7) .nil) (.bnd (.ite (.bv 8) false (.op (.un .not) (.cons (.inp 7) .nil)) (.cst (.tuple #[]))) (.chk (some ((.bv 9), true)) (.fld 5) (.cons (.inp 1) .nil) (.ite (.bv 9) true r17_51 r17_52))))))))
@[simp] theorem r17_53_wp : type_of% (@wpR r17_53 _ r17_53.eq_1) := wpR r17_53.eq_1
@[simp] theorem r17_53_wpq : type_of% (@wpRq r17_53 _ r17_53.eq_1) := wpRq r17_53.eq_1
@[simp] theorem r17_53_wpm : type_of% (@wpRm r17_53 _ r17_53.eq_1) := wpRm r17_53.eq_1
def r17_54 : RT := (.eff (.ld false 1) (.cons (.ite (.bv 6) true (.op (.fld 4) (.cons (.inp 1) .nil)) (.cst (.tuple #[]))) .nil) r17_53)
@[simp] theorem r17_54_wp : type_of% (@wpR r17_54 _ r17_54.eq_1) := wpR r17_54.eq_1
@[simp] theorem r17_54_wpq : type_of% (@wpRq r17_54 _ r17_54.eq_1) := wpRq r17_54.eq_1
@[simp] theorem r17_54_wpm : type_of% (@wpRm r17_54 _ r17_54.eq_1) := wpRm r17_54.eq_1
def r17_55 : RT := (.eff (.ld false 1) (.cons (.ite (.bv 8) true (.op (.fld 5) (.cons (.inp 1) .nil)) (.cst (.tuple #[]))) .nil) (.chk none (.bin .neq) (.cons (.bv 9) (.cons (.cst (.int .i64 0)) .nil)) (.isb (some ((.bv 7), false)) (.bv 8) (.isb none (.bv 7) (.bnd (.ite (.bv 7) true (.cst (.bool true)) (.op (.bin .neq) (.cons (.bv 9) (.cons (.cst (.int .i64 0)) .nil)))) (.chk (some ((.bv 10), false)) (.un .not) (.cons (.inp 8) .nil) (.bnd (.ite (.bv 10) false (.op (.un .not) (.cons (.inp 8) .nil)) (.cst (.tuple #[]))) (.chk (some ((.bv 11), true)) (.fld 6) (.cons (.inp 1) .nil) (.ite (.bv 11) true (.eff (.ld false 1) (.cons (.ite (.bv 11) true (.op (.fld 6) (.cons (.inp 1) .nil)) (.cst (.tuple #[]))) .nil) (.chk none (.bin .neq) (.cons (.bv 12) (.cons (.cst (.int .i64 0)) .nil)) (.isb (some ((.bv 10), false)) (.bv 11) (.isb none (.bv 10) (.done [] (some (.ite (.bv 10) true (.cst (.bool true)) (.op (.bin .neq) (.cons (.bv 12) (.cons (.cst (.int .i64 0)) .nil)))))))))) (.isb (some ((.bv 10), false)) (.bv 11) (.isb none (.bv 10) (.done [] (some (.ite (.bv 10) true (.cst (.bool true)) (.cst (.bool false))))))))))))))))
@[simp] theorem r17_55_wp : type_of% (@wpR r17_55 _ r17_55.eq_1) := wpR r17_55.eq_1
@[simp] theorem r17_55_wpq : type_of% (@wpRq r17_55 _ r17_55.eq_1) := wpRq r17_55.eq_1
@[simp] theorem r17_55_wpm : type_of% (@wpRm r17_55 _ r17_55.eq_1) := wpRm r17_55.eq_1
def r17_56 : RT := (.isb (some ((.bv 7), false)) (.bv 8) (.isb none (.bv 7) (.bnd (.ite (.bv 7) true (.cst (.bool true)) (.cst (.bool false))) (.chk (some ((.bv 9), false)) (.un .not) (.cons (.inp 8) .nil) (.bnd (.ite (.bv 9) false (.op (.un .not) (.cons (.inp 8) .nil)) (.cst (.tuple #[]))) (.chk (some ((.bv 10), true)) (.fld 6) (.cons (.inp 1) .nil) (.ite (.bv 10) true (.eff (.ld false 1) (.cons (.ite (.bv 10) true (.op (.fld 6) (.cons (.inp 1) .nil)) (.cst (.tuple #[]))) .nil) (.chk none (.bin .neq) (.cons (.bv 11) (.cons (.cst (.int .i64 0)) .nil)) (.isb (some ((.bv 9), false)) (.bv 10) (.isb none (.bv 9) (.done [] (some (.ite (.bv 9) true (.cst (.bool true)) (.op (.bin .neq) (.cons (.bv 11) (.cons (.cst (.int .i64 0)) .nil)))))))))) (.isb (some ((.bv 9), false)) (.bv 10) (.isb none (.bv 9) (.done [] (some (.ite (.bv 9) true (.cst (.bool true)) (.cst (.bool false))))))))))))))
@[simp] theorem r17_56_wp : type_of% (@wpR r17_56 _ r17_56.eq_1) := wpR r17_56.eq_1
@[simp] theorem r17_56_wpq : type_of% (@wpRq r17_56 _ r17_56.eq_1) := wpRq r17_56.eq_1
@[simp] theorem r17_56_wpm : type_of% (@wpRm r17_56 _ r17_56.eq_1) := wpRm r17_56.eq_1
def r17_57 : RT := (.isb (some ((.bv 5), false)) (.bv 6) (.isb none (.bv 5) (.bnd (.ite (.bv 5) true (.cst (.bool true)) (.cst (.bool false))) (.chk (some ((.bv 7), false)) (.un .not) (.cons (.inp 7) .nil) (.bnd (.ite (.bv 7) false (.op (.un .not) (.cons (.inp 7) .nil)) (.cst (.tuple #[]))) (.chk (some ((.bv 8), true)) (.fld 5) (.cons (.inp 1) .nil) (.ite (.bv 8) true r17_55 r17_56)))))))
@[simp] theorem r17_57_wp : type_of% (@wpR r17_57 _ r17_57.eq_1) := wpR r17_57.eq_1
@[simp] theorem r17_57_wpq : type_of% (@wpRq r17_57 _ r17_57.eq_1) := wpRq r17_57.eq_1
@[simp] theorem r17_57_wpm : type_of% (@wpRm r17_57 _ r17_57.eq_1) := wpRm r17_57.eq_1
def r17_58 : RT := (.isb (some ((.bv 3), false)) (.bv 4) (.isb none (.bv 3) (.bnd (.ite (.bv 3) true (.cst (.bool true)) (.cst (.bool false))) (.chk (some ((.bv 5), false)) (.un .not) (.cons (.inp 6) .nil) (.bnd (.ite (.bv 5) false (.op (.un .not) (.cons (.inp 6) .nil)) (.cst (.tuple #[]))) (.chk (some ((.bv 6), true)) (.fld 4) (.cons (.inp 1) .nil) (.ite (.bv 6) true r17_54 r17_57)))))))
@[simp] theorem r17_58_wp : type_of% (@wpR r17_58 _ r17_58.eq_1) := wpR r17_58.eq_1
@[simp] theorem r17_58_wpq : type_of% (@wpRq r17_58 _ r17_58.eq_1) := wpRq r17_58.eq_1
@[simp] theorem r17_58_wpm : type_of% (@wpRm r17_58 _ r17_58.eq_1) := wpRm r17_58.eq_1
def r17_59 : RT := (.chk none (.bin .neq) (.cons (.bv 2) (.cons (.cst (.int .i64 0)) .nil)) (.isb none (.bv 1) (.isb none (.cst (.bool false)) (.bnd (.op (.bin .neq) (.cons (.bv 2) (.cons (.cst (.int .i64 0)) .nil))) (.chk (some ((.bv 3), false)) (.un .not) (.cons (.inp 5) .nil) (.bnd (.ite (.bv 3) false (.op (.un .not) (.cons (.inp 5) .nil)) (.cst (.tuple #[]))) (.chk (some ((.bv 4), true)) (.fld 3) (.cons (.inp 1) .nil) (.ite (.bv 4) true r17_50 r17_58))))))))
@[simp] theorem r17_59_wp : type_of% (@wpR r17_59 _ r17_59.eq_1) := wpR r17_59.eq_1
@[simp] theorem r17_59_wpq : type_of% (@wpRq r17_59 _ r17_59.eq_1) := wpRq r17_59.eq_1
@[simp] theorem r17_59_wpm : type_of% (@wpRm r17_59 _ r17_59.eq_1) := wpRm r17_59.eq_1
def r17_60 : RT := (.eff (.ld false 1) (.cons (.ite (.bv 1) true (.op (.fld 2) (.cons (.inp 1) .nil)) (.cst (.tuple #[]))) .nil) r17_59)
@[simp] theorem r17_60_wp : type_of% (@wpR r17_60 _ r17_60.eq_1) := wpR r17_60.eq_1
@[simp] theorem r17_60_wpq : type_of% (@wpRq r17_60 _ r17_60.eq_1) := wpRq r17_60.eq_1
@[simp] theorem r17_60_wpm : type_of% (@wpRm r17_60 _ r17_60.eq_1) := wpRm r17_60.eq_1
def r17_61 : RT := (.eff (.ld false 1) (.cons (.ite (.bv 8) true (.op (.fld 5) (.cons (.inp 1) .nil)) (.cst (.tuple #[]))) .nil) (.chk none (.bin .neq) (.cons (.bv 9) (.cons (.cst (.int .i64 0)) .nil)) (.isb (some ((.bv 7), false)) (.bv 8) (.isb none (.bv 7) (.bnd (.ite (.bv 7) true (.cst (.bool true)) (.op (.bin .neq) (.cons (.bv 9) (.cons (.cst (.int .i64 0)) .nil)))) (.chk (some ((.bv 10), false)) (.un .not) (.cons (.inp 8) .nil) (.bnd (.ite (.bv 10) false (.op (.un .not) (.cons (.inp 8) .nil)) (.cst (.tuple #[]))) (.chk (some ((.bv 11), true)) (.fld 6) (.cons (.inp 1) .nil) (.ite (.bv 11) true (.eff (.ld false 1) (.cons (.ite (.bv 11) true (.op (.fld 6) (.cons (.inp 1) .nil)) (.cst (.tuple #[]))) .nil) (.chk none (.bin .neq) (.cons (.bv 12) (.cons (.cst (.int .i64 0)) .nil)) (.isb (some ((.bv 10), false)) (.bv 11) (.isb none (.bv 10) (.done [] (some (.ite (.bv 10) true (.cst (.bool true)) (.op (.bin .neq) (.cons (.bv 12) (.cons (.cst (.int .i64 0)) .nil)))))))))) (.isb (some ((.bv 10), false)) (.bv 11) (.isb none (.bv 10) (.done [] (some (.ite (.bv 10) true (.cst (.bool true)) (.cst (.bool false))))))))))))))))
@[simp] theorem r17_61_wp : type_of% (@wpR r17_61 _ r17_61.eq_1) := wpR r17_61.eq_1
@[simp] theorem r17_61_wpq : type_of% (@wpRq r17_61 _ r17_61.eq_1) := wpRq r17_61.eq_1
@[simp] theorem r17_61_wpm : type_of% (@wpRm r17_61 _ r17_61.eq_1) := wpRm r17_61.eq_1
def r17_62 : RT := (.isb (some ((.bv 7), false)) (.bv 8) (.isb none (.bv 7) (.bnd (.ite (.bv 7) true (.cst (.bool true)) (.cst (.bool false))) (.chk (some ((.bv 9), false)) (.un .not) (.cons (.inp 8) .nil) (.bnd (.ite (.bv 9) false (.op (.un .not) (.cons (.inp 8) .nil)) (.cst (.tuple #[]))) (.chk (some ((.bv 10), true)) (.fld 6) (.cons (.inp 1) .nil) (.ite (.bv 10) true (.eff (.ld false 1) (.cons (.ite (.bv 10) true (.op (.fld 6) (.cons (.inp 1) .nil)) (.cst (.tuple #[]))) .nil) (.chk none (.bin .neq) (.cons (.bv 11) (.cons (.cst (.int .i64 0)) .nil)) (.isb (some ((.bv 9), false)) (.bv 10) (.isb none (.bv 9) (.done [] (some (.ite (.bv 9) true (.cst (.bool true)) (.op (.bin .neq) (.cons (.bv 11) (.cons (.cst (.int .i64 0)) .nil)))))))))) (.isb (some ((.bv 9), false)) (.bv 10) (.isb none (.bv 9) (.done [] (some (.ite (.bv 9) true (.cst (.bool true)) (.cst (.bool false))))))))))))))
@[simp] theorem r17_62_wp : type_of% (@wpR r17_62 _ r17_62.eq_1) := wpR r17_62.eq_1
@[simp] theorem r17_62_wpq : type_of% (@wpRq r17_62 _ r17_62.eq_1) := wpRq r17_62.eq_1
@[simp] theorem r17_62_wpm : type_of% (@wpRm r17_62 _ r17_62.eq_1) := wpRm r17_62.eq_1
def r17_63 : RT := (.chk none (.bin .neq) (.cons (.bv 6) (.cons (.cst (.int .u64 0)) .nil)) (.isb (some ((.bv 4), false)) (.bv 5) (.isb none (.bv 4) (.bnd (.ite (.bv 4) true (.cst (.bool true)) (.op (.bin .neq) (.cons (.bv 6) (.cons (.cst (.int .u64 0)) .nil)))) (.chk (some ((.bv 7), false)) (.un .not) (.cons (.inp 7) .nil) (.bnd (.ite (.bv 7) false (.op (.un .not) (.cons (.inp 7) .nil)) (.cst (.tuple #[]))) (.chk (some ((.bv 8), true)) (.fld 5) (.cons (.inp 1) .nil) (.ite (.bv 8) true r17_61 r17_62))))))))
@[simp] theorem r17_63_wp : type_of% (@wpR r17_63 _ r17_63.eq_1) := wpR r17_63.eq_1
@[simp] theorem r17_63_wpq : type_of% (@wpRq r17_63 _ r17_63.eq_1) := wpRq r17_63.eq_1
@[simp] theorem r17_63_wpm : type_of% (@wpRm r17_63 _ r17_63.eq_1) := wpRm r17_63.eq_1
def r17_64 : RT := (.eff (.ld false 1) (.cons (.ite (.bv 5) true (.op (.fld 4) (.cons (.inp 1) .nil)) (.cst (.tuple #[]))) .nil) r17_63)
@[simp] theorem r17_64_wp : type_of% (@wpR r17_64 _ r17_64.eq_1) := wpR r17_64.eq_1
@[simp] theorem r17_64_wpq : type_of% (@wpRq r17_64 _ r17_64.eq_1) := wpRq r17_64.eq_1
@[simp] theorem r17_64_wpm : type_of% (@wpRm r17_64 _ r17_64.eq_1) := wpRm r17_64.eq_1
def r17_65 : RT := (.eff (.ld false 1) (.cons (.ite (.bv 7) true (.op (.fld 5) (.cons (.inp 1) .nil)) (.cst (.tuple #[]))) .nil) (.chk none (.bin .neq) (.cons (.bv 8) (.cons (.cst (.int .i64 0)) .nil)) (.isb (some ((.bv 6), false)) (.bv 7) (.isb none (.bv 6) (.bnd (.ite (.bv 6) true (.cst (.bool true)) (.op (.bin .neq) (.cons (.bv 8) (.cons (.cst (.int .i64 0)) .nil)))) (.chk (some ((.bv 9), false)) (.un .not) (.cons (.inp 8) .nil) (.bnd (.ite (.bv 9) false (.op (.un .not) (.cons (.inp 8) .nil)) (.cst (.tuple #[]))) (.chk (some ((.bv 10), true)) (.fld 6) (.cons (.inp 1) .nil) (.ite (.bv 10) true (.eff (.ld false 1) (.cons (.ite (.bv 10) true (.op (.fld 6) (.cons (.inp 1) .nil)) (.cst (.tuple #[]))) .nil) (.chk none (.bin .neq) (.cons (.bv 11) (.cons (.cst (.int .i64 0)) .nil)) (.isb (some ((.bv 9), false)) (.bv 10) (.isb none (.bv 9) (.done [] (some (.ite (.bv 9) true (.cst (.bool true)) (.op (.bin .neq) (.cons (.bv 11) (.cons (.cst (.int .i64 0)) .nil)))))))))) (.isb (some ((.bv 9), false)) (.bv 10) (.isb none (.bv 9) (.done [] (some (.ite (.bv 9) true (.cst (.bool true)) (.cst (.bool false))))))))))))))))
@[simp] theorem r17_65_wp : type_of% (@wpR r17_65 _ r17_65.eq_1) := wpR r17_65.eq_1
@[simp] theorem r17_65_wpq : type_of% (@wpRq r17_65 _ r17_65.eq_1) := wpRq r17_65.eq_1
@[simp] theorem r17_65_wpm : type_of% (@wpRm r17_65 _ r17_65.eq_1) := wpRm r17_65.eq_1
def r17_66 : RT := (.isb (some ((.bv 6), false)) (.bv 7) (.isb none (.bv 6) (.bnd (.ite (.bv 6) true (.cst (.bool true)) (.cst (.bool false))) (.chk (some ((.bv 8), false)) (.un .not) (.cons (.inp 8) .nil) (.bnd (.ite (.bv 8) false (.op (.un .not) (.cons (.inp 8) .nil)) (.cst (.tuple #[]))) (.chk (some ((.bv 9), true)) (.fld 6) (.cons (.inp 1) .nil) (.ite (.bv 9) true (.eff (.ld false 1) (.cons (.ite (.bv 9) true (.op (.fld 6) (.cons (.inp 1) .nil)) (.cst (.tuple #[]))) .nil) (.chk none (.bin .neq) (.cons (.bv 10) (.cons (.cst (.int .i64 0)) .nil)) (.isb (some ((.bv 8), false)) (.bv 9) (.isb none (.bv 8) (.done [] (some (.ite (.bv 8) true (.cst (.bool true)) (.op (.bin .neq) (.cons (.bv 10) (.cons (.cst (.int .i64 0)) .nil)))))))))) (.isb (some ((.bv 8), false)) (.bv 9) (.isb none (.bv 8) (.done [] (some (.ite (.bv 8) true (.cst (.bool true)) (.cst (.bool false))))))))))))))
@[simp] theorem r17_66_wp : type_of% (@wpR r17_66 _ r17_66.eq_1) := wpR r17_66.eq_1
@[simp] theorem r17_66_wpq : type_of% (@wpRq r17_66 _ r17_66.eq_1) := wpRq r17_66.eq_1
@[simp] theorem r17_66_wpm : type_of% (@wpRm r17_66 _ r17_66.eq_1) := wpRm r17_66.eq_1
def r17_67 : RT := (.isb (some ((.bv 4), false)) (.bv 5) (.isb none (.bv 4) (.bnd (.ite (.bv 4) true (.cst (.bool true)) (.cst (.bool false))) (.chk (some ((.bv 6), false)) (.un .not) (.cons (.inp 7) .nil) (.bnd (.ite (.bv 6) false (.op (.un .not) (.cons (.inp 7) .nil)) (.cst (.tuple #[]))) (.chk (some ((.bv 7), true)) (.fld 5) (.cons (.inp 1) .nil) (.ite (.bv 7) true r17_65 r17_66)))))))
@[simp] theorem r17_67_wp : type_of% (@wpR r17_67 _ r17_67.eq_1) := wpR r17_67.eq_1
@[simp] theorem r17_67_wpq : type_of% (@wpRq r17_67 _ r17_67.eq_1) := wpRq r17_67.eq_1
@[simp] theorem r17_67_wpm : type_of% (@wpRm r17_67 _ r17_67.eq_1) := wpRm r17_67.eq_1
def r17_68 : RT := (.chk none (.bin .neq) (.cons (.bv 3) (.cons (.cst (.int .i64 0)) .nil)) (.isb none (.bv 2) (.isb none (.cst (.bool false)) (.bnd (.op (.bin .neq) (.cons (.bv 3) (.cons (.cst (.int .i64 0)) .nil))) (.chk (some ((.bv 4), false)) (.un .not) (.cons (.inp 6) .nil) (.bnd (.ite (.bv 4) false (.op (.un .not) (.cons (.inp 6) .nil)) (.cst (.tuple #[]))) (.chk (some ((.bv 5), true)) (.fld 4) (.cons (.inp 1) .nil) (.ite (.bv 5) true r17_64 r17_67))))))))
@[simp] theorem r17_68_wp : type_of% (@wpR r17_68 _ r17_68.eq_1) := wpR r17_68.eq_1
@[simp] theorem r17_68_wpq : type_of% (@wpRq r17_68 _ r17_68.eq_1) := wpRq r17_68.eq_1
@[simp] theorem r17_68_wpm : type_of% (@wpRm r17_68 _ r17_68.eq_1) := wpRm r17_68.eq_1
def r17_69 : RT := (.eff (.ld false 1) (.cons (.ite (.bv 2) true (.op (.fld 3) (.cons (.inp 1) .nil)) (.cst (.tuple #[]))) .nil) r17_68)
@[simp] theorem r17_69_wp : type_of% (@wpR r17_69 _ r17_69.eq_1) := wpR r17_69.eq_1
@[simp] theorem r17_69_wpq : type_of% (@wpRq r17_69 _ r17_69.eq_1) := wpRq r17_69.eq_1
@[simp] theorem r17_69_wpm : type_of% (@wpRm r17_69 _ r17_69.eq_1) := wpRm r17_69.eq_1
def r17_70 : RT := (.eff (.ld false 1) (.cons (.ite (.bv 6) true (.op (.fld 5) (.cons (.inp 1) .nil)) (.cst (.tuple #[]))) .nil) (.chk none (.bin .neq) (.cons (.bv 7) (.cons (.cst (.int .i64 0)) .nil)) (.isb (some ((.bv 5), false)) (.bv 6) (.isb none (.bv 5) (.bnd (.ite (.bv 5) true (.cst (.bool true)) (.op (.bin .neq) (.cons (.bv 7) (.cons (.cst (.int .i64 0)) .nil)))) (.chk (some ((.bv 8), false)) (.un .not) (.cons (.inp 8) .nil) (.bnd (.ite (.bv 8) false (.op (.un .not) (.cons (.inp 8) .nil)) (.cst (.tuple #[]))) (.chk (some ((.bv 9), true)) (.fld 6) (.cons (.inp 1) .nil) (.ite (.bv 9) true (.eff (.ld false 1) (.cons (.ite (.bv 9) true (.op (.fld 6) (.cons (.inp 1) .nil)) (.cst (.tuple #[]))) .nil) (.chk none (.bin .neq) (.cons (.bv 10) (.cons (.cst (.int .i64 0)) .nil)) (.isb (some ((.bv 8), false)) (.bv 9) (.isb none (.bv 8) (.done [] (some (.ite (.bv 8) true (.cst (.bool true)) (.op (.bin .neq) (.cons (.bv 10) (.cons (.cst (.int .i64 0)) .nil)))))))))) (.isb (some ((.bv 8), false)) (.bv 9) (.isb none (.bv 8) (.done [] (some (.ite (.bv 8) true (.cst (.bool true)) (.cst (.bool false))))))))))))))))
@[simp] theorem r17_70_wp : type_of% (@wpR r17_70 _ r17_70.eq_1) := wpR r17_70.eq_1
@[simp] theorem r17_70_wpq : type_of% (@wpRq r17_70 _ r17_70.eq_1) := wpRq r17_70.eq_1
@[simp] theorem r17_70_wpm : type_of% (@wpRm r17_70 _ r17_70.eq_1) := wpRm r17_70.eq_1
def r17_71 : RT := (.isb (some ((.bv 5), false)) (.bv 6) (.isb none (.bv 5) (.bnd (.ite (.bv 5) true (.cst (.bool true)) (.cst (.bool false))) (.chk (some ((.bv 7), false)) (.un .not) (.cons (.inp 8) .nil) (.bnd (.ite (.bv 7) false (.op (.un .not) (.cons (.inp 8) .nil)) (.cst (.tuple #[]))) (.chk (some ((.bv 8), true)) (.fld 6) (.cons (.inp 1) .nil) (.ite (.bv 8) true (.eff (.ld false 1) (.cons (.ite (.bv 8) true (.op (.fld 6) (.cons (.inp 1) .nil)) (.cst (.tuple #[]))) .nil) (.chk none (.bin .neq) (.cons (.bv 9) (.cons (.cst (.int .i64 0)) .nil)) (.isb (some ((.bv 7), false)) (.bv 8) (.isb none (.bv 7) (.done [] (some (.ite (.bv 7) true (.cst (.bool true)) (.op (.bin .neq) (.cons (.bv 9) (.cons (.cst (.int .i64 0)) .nil)))))))))) (.isb (some ((.bv 7), false)) (.bv 8) (.isb none (.bv 7) (.done [] (some (.ite (.bv 7) true (.cst (.bool true)) (.cst (.bool false))))))))))))))
@[simp] theorem r17_71_wp : type_of% (@wpR r17_71 _ r17_71.eq_1) := wpR r17_71.eq_1
@[simp] theorem r17_71_wpq : type_of% (@wpRq r17_71 _ r17_71.eq_1) := wpRq r17_71.eq_1
@[simp] theorem r17_71_wpm : type_of% (@wpRm r17_71 _ r17_71.eq_1) := wpRm r17_71.eq_1
def r17_72 : RT := (.chk none (.bin .neq) (.cons (.bv 4) (.cons (.cst (.int .u64 0)) .nil)) (.isb none (.bv 3) (.isb none (.cst (.bool false)) (.bnd (.op (.bin .neq) (.cons (.bv 4) (.cons (.cst (.int .u64 0)) .nil))) (.chk (some ((.bv 5), false)) (.un .not) (.cons (.inp 7) .nil) (.bnd (.ite (.bv 5) false (.op (.un .not) (.cons (.inp 7) .nil)) (.cst (.tuple #[]))) (.chk (some ((.bv 6), true)) (.fld 5) (.cons (.inp 1) .nil) (.ite (.bv 6) true r17_70 r17_71))))))))
@[simp] theorem r17_72_wp : type_of% (@wpR r17_72 _ r17_72.eq_1) := wpR r17_72.eq_1
@[simp] theorem r17_72_wpq : type_of% (@wpRq r17_72 _ r17_72.eq_1) := wpRq r17_72.eq_1
@[simp] theorem r17_72_wpm : type_of% (@wpRm r17_72 _ r17_72.eq_1) := wpRm r17_72.eq_1
def r17_73 : RT := (.eff (.ld false 1) (.cons (.ite (.bv 3) true (.op (.fld 4) (.cons (.inp 1) .nil)) (.cst (.tuple #[]))) .nil) r17_72)
@[simp] theorem r17_73_wp : type_of% (@wpR r17_73 _ r17_73.eq_1) := wpR r17_73.eq_1
@[simp] theorem r17_73_wpq : type_of% (@wpRq r17_73 _ r17_73.eq_1) := wpRq r17_73.eq_1
@[simp] theorem r17_73_wpm : type_of% (@wpRm r17_73 _ r17_73.eq_1) := wpRm r17_73.eq_1
def r17_74 : RT := (.eff (.ld false 1) (.cons (.ite (.bv 4) true (.op (.fld 5) (.cons (.inp 1) .nil)) (.cst (.tuple #[]))) .nil) (.chk none (.bin .neq) (.cons (.bv 5) (.cons (.cst (.int .i64 0)) .nil)) (.isb none (.bv 4) (.isb none (.cst (.bool false)) (.bnd (.op (.bin .neq) (.cons (.bv 5) (.cons (.cst (.int .i64 0)) .nil))) (.chk (some ((.bv 6), false)) (.un .not) (.cons (.inp 8) .nil) (.bnd (.ite (.bv 6) false (.op (.un .not) (.cons (.inp 8) .nil)) (.cst (.tuple #[]))) (.chk (some ((.bv 7), true)) (.fld 6) (.cons (.inp 1) .nil) (.ite (.bv 7) true (.eff (.ld false 1) (.cons (.ite (.bv 7) true (.op (.fld 6) (.cons (.inp 1) .nil)) (.cst (.tuple #[]))) .nil) (.chk none (.bin .neq) (.cons (.bv 8) (.cons (.cst (.int .i64 0)) .nil)) (.isb (some ((.bv 6), false)) (.bv 7) (.isb none (.bv 6) (.done [] (some (.ite (.bv 6) true (.cst (.bool true)) (.op (.bin .neq) (.cons (.bv 8) (.cons (.cst (.int .i64 0)) .nil)))))))))) (.isb (some ((.bv 6), false)) (.bv 7) (.isb none (.bv 6) (.done [] (some (.ite (.bv 6) true (.cst (.bool true)) (.cst (.bool false))))))))))))))))
@[simp] theorem r17_74_wp : type_of% (@wpR r17_74 _ r17_74.eq_1) := wpR r17_74.eq_1
@[simp] theorem r17_74_wpq : type_of% (@wpRq r17_74 _ r17_74.eq_1) := wpRq r17_74.eq_1
@[simp] theorem r17_74_wpm : type_of% (@wpRm r17_74 _ r17_74.eq_1) := wpRm r17_74.eq_1
def r17_75 : RT := (.isb none (.bv 4) (.isb none (.cst (.bool false)) (.chk none (.un .not) (.cons (.inp 8) .nil) (.bnd (.op (.un .not) (.cons (.inp 8) .nil)) (.chk (some ((.bv 5), true)) (.fld 6) (.cons (.inp 1) .nil) (.ite (.bv 5) true (.eff (.ld false 1) (.cons (.ite (.bv 5) true (.op (.fld 6) (.cons (.inp 1) .nil)) (.cst (.tuple #[]))) .nil) (.chk none (.bin .neq) (.cons (.bv 6) (.cons (.cst (.int .i64 0)) .nil)) (.isb none (.bv 5) (.isb none (.cst (.bool false)) (.done [] (some (.op (.bin .neq) (.cons (.bv 6) (.cons (.cst (.int .i64 0)) .nil))))))))) (.isb none (.bv 5) (.isb none (.cst (.bool false)) (.done [] (some (.cst (.bool false))))))))))))
@[simp] theorem r17_75_wp : type_of% (@wpR r17_75 _ r17_75.eq_1) := wpR r17_75.eq_1
@[simp] theorem r17_75_wpq : type_of% (@wpRq r17_75 _ r17_75.eq_1) := wpRq r17_75.eq_1
@[simp] theorem r17_75_wpm : type_of% (@wpRm r17_75 _ r17_75.eq_1) := wpRm r17_75.eq_1
def r17_76 : RT := (.isb none (.bv 3) (.isb none (.cst (.bool false)) (.chk none (.un .not) (.cons (.inp 7) .nil) (.bnd (.op (.un .not) (.cons (.inp 7) .nil)) (.chk (some ((.bv 4), true)) (.fld 5) (.cons (.inp 1) .nil) (.ite (.bv 4) true r17_74 r17_75))))))
@[simp] theorem r17_76_wp : type_of% (@wpR r17_76 _ r17_76.eq_1) := wpR r17_76.eq_1
@[simp] theorem r17_76_wpq : type_of% (@wpRq r17_76 _ r17_76.eq_1) := wpRq r17_76.eq_1
@[simp] theorem r17_76_wpm : type_of% (@wpRm r17_76 _ r17_76.eq_1) := wpRm r17_76.eq_1
def r17_77 : RT := (.isb none (.bv 2) (.isb none (.cst (.bool false)) (.chk none (.un .not) (.cons (.inp 6) .nil) (.bnd (.op (.un .not) (.cons (.inp 6) .nil)) (.chk (some ((.bv 3), true)) (.fld 4) (.cons (.inp 1) .nil) (.ite (.bv 3) true r17_73 r17_76))))))
@[simp] theorem r17_77_wp : type_of% (@wpR r17_77 _ r17_77.eq_1) := wpR r17_77.eq_1
@[simp] theorem r17_77_wpq : type_of% (@wpRq r17_77 _ r17_77.eq_1) := wpRq r17_77.eq_1
@[simp] theorem r17_77_wpm : type_of% (@wpRm r17_77 _ r17_77.eq_1) := wpRm r17_77.eq_1
def r17_78 : RT := (.isb none (.bv 1) (.isb none (.cst (.bool false)) (.chk none (.un .not) (.cons (.inp 5) .nil) (.bnd (.op (.un .not) (.cons (.inp 5) .nil)) (.chk (some ((.bv 2), true)) (.fld 3) (.cons (.inp 1) .nil) (.ite (.bv 2) true r17_69 r17_77))))))
@[simp] theorem r17_78_wp : type_of% (@wpR r17_78 _ r17_78.eq_1) := wpR r17_78.eq_1
@[simp] theorem r17_78_wpq : type_of% (@wpRq r17_78 _ r17_78.eq_1) := wpRq r17_78.eq_1
@[simp] theorem r17_78_wpm : type_of% (@wpRm r17_78 _ r17_78.eq_1) := wpRm r17_78.eq_1
def r17_79 : RT := (.isb none (.bv 0) (.chk none (.un .not) (.cons (.inp 4) .nil) (.bnd (.op (.un .not) (.cons (.inp 4) .nil)) (.chk (some ((.bv 1), true)) (.fld 2) (.cons (.inp 1) .nil) (.ite (.bv 1) true r17_60 r17_78)))))
@[simp] theorem r17_79_wp : type_of% (@wpR r17_79 _ r17_79.eq_1) := wpR r17_79.eq_1
@[simp] theorem r17_79_wpq : type_of% (@wpRq r17_79 _ r17_79.eq_1) := wpRq r17_79.eq_1
@[simp] theorem r17_79_wpm : type_of% (@wpRm r17_79 _ r17_79.eq_1) := wpRm r17_79.eq_1
def h17_4 : HC := (.seq (.br (.chk none (.un .not) (.cons (.inp 3) .nil) (.bnd (.op (.un .not) (.cons (.inp 3) .nil)) (.chk (some ((.bv 0), true)) (.fld 1) (.cons (.inp 1) .nil) (.ite (.bv 0) true r17_41 r17_79)))) h17_3 .skip) h17_2)
@[simp] theorem h17_4_wp : type_of% (@wpH h17_4 _ h17_4.eq_1) := wpH h17_4.eq_1
def r17_80 : RT := (.chk none (.bin .eql) (.cons (.bv 0) (.cons (.cst (.int .i64 3)) .nil)) (.bnd (.op (.bin .eql) (.cons (.bv 0) (.cons (.cst (.int .i64 3)) .nil))) (.chk (some ((.bv 1), false)) (.fld 0) (.cons (.inp 1) .nil) (.ite (.bv 1) false (.eff (.ld false 1) (.cons (.ite (.bv 1) false (.op (.fld 0) (.cons (.inp 1) .nil)) (.cst (.tuple #[]))) .nil) (.chk none (.bin .eql) (.cons (.bv 2) (.cons (.cst (.int .i64 7)) .nil)) (.isb none (.bv 1) (.bnd (.op (.bin .eql) (.cons (.bv 2) (.cons (.cst (.int .i64 7)) .nil))) (.chk (some ((.bv 3), false)) (.fld 0) (.cons (.inp 1) .nil) (.ite (.bv 3) false (.eff (.ld false 1) (.cons (.ite (.bv 3) false (.op (.fld 0) (.cons (.inp 1) .nil)) (.cst (.tuple #[]))) .nil) (.chk none (.bin .eql) (.cons (.bv 4) (.cons (.cst (.int .i64 8)) .nil)) (.isb none (.bv 3) (.bnd (.op (.bin .eql) (.cons (.bv 4) (.cons (.cst (.int .i64 8)) .nil))) (.chk (some ((.bv 5), false)) (.fld 0) (.cons (.inp 1) .nil) (.ite (.bv 5) false (.eff (.ld false 1) (.cons (.ite (.bv 5) false (.op (.fld 0) (.cons (.inp 1) .nil)) (.cst (.tuple #[]))) .nil) (.chk none (.bin .eql) (.cons (.bv 6) (.cons (.cst (.int .i64 9)) .nil)) (.isb none (.bv 5) (.done [(8, (.op (.bin .eql) (.cons (.bv 6) (.cons (.cst (.int .i64 9)) .nil))))] none)))) (.isb none (.bv 5) (.done [(8, (.cst (.bool true)))] none)))))))) (.isb none (.bv 3) (.isb none (.cst (.bool true)) (.done [(8, (.cst (.bool true)))] none))))))))) (.isb none (.bv 1) (.isb none (.cst (.bool true)) (.isb none (.cst (.bool true)) (.done [(8, (.cst (.bool true)))] none))))))))
@[simp] theorem r17_80_wp : type_of% (@wpR r17_80 _ r17_80.eq_1) := wpR r17_80.eq_1
@[simp] theorem r17_80_wpq : type_of% (@wpRq r17_80 _ r17_80.eq_1) := wpRq r17_80.eq_1
@[simp] theorem r17_80_wpm : type_of% (@wpRm r17_80 _ r17_80.eq_1) := wpRm r17_80.eq_1
def h17_5 : HC := (.seq (.reg (.chk none (.fld 0) (.cons (.inp 1) .nil) (.eff (.ld false 1) (.cons (.op (.fld 0) (.cons (.inp 1) .nil)) .nil) r17_80))) h17_4)
@[simp] theorem h17_5_wp : type_of% (@wpH h17_5 _ h17_5.eq_1) := wpH h17_5.eq_1
def h17_6 : HC := (.seq (.reg (.chk none (.fld 0) (.cons (.inp 1) .nil) (.eff (.ld false 1) (.cons (.op (.fld 0) (.cons (.inp 1) .nil)) .nil) (.chk none (.bin .eql) (.cons (.bv 0) (.cons (.cst (.int .i64 5)) .nil)) (.done [(7, (.op (.bin .eql) (.cons (.bv 0) (.cons (.cst (.int .i64 5)) .nil))))] none))))) h17_5)
@[simp] theorem h17_6_wp : type_of% (@wpH h17_6 _ h17_6.eq_1) := wpH h17_6.eq_1
def h17_7 : HC := (.seq (.reg (.chk none (.fld 0) (.cons (.inp 1) .nil) (.eff (.ld false 1) (.cons (.op (.fld 0) (.cons (.inp 1) .nil)) .nil) (.chk none (.bin .eql) (.cons (.bv 0) (.cons (.cst (.int .i64 2)) .nil)) (.bnd (.op (.bin .eql) (.cons (.bv 0) (.cons (.cst (.int .i64 2)) .nil))) (.chk (some ((.bv 1), false)) (.fld 0) (.cons (.inp 1) .nil) (.ite (.bv 1) false (.eff (.ld false 1) (.cons (.ite (.bv 1) false (.op (.fld 0) (.cons (.inp 1) .nil)) (.cst (.tuple #[]))) .nil) (.chk none (.bin .eql) (.cons (.bv 2) (.cons (.cst (.int .i64 4)) .nil)) (.isb none (.bv 1) (.done [(6, (.op (.bin .eql) (.cons (.bv 2) (.cons (.cst (.int .i64 4)) .nil))))] none)))) (.isb none (.bv 1) (.done [(6, (.cst (.bool true)))] none))))))))) h17_6)
@[simp] theorem h17_7_wp : type_of% (@wpH h17_7 _ h17_7.eq_1) := wpH h17_7.eq_1
def r17_81 : RT := (.chk none (.bin .eql) (.cons (.bv 0) (.cons (.cst (.int .i64 2)) .nil)) (.bnd (.op (.bin .eql) (.cons (.bv 0) (.cons (.cst (.int .i64 2)) .nil))) (.chk (some ((.bv 1), false)) (.fld 0) (.cons (.inp 1) .nil) (.ite (.bv 1) false (.eff (.ld false 1) (.cons (.ite (.bv 1) false (.op (.fld 0) (.cons (.inp 1) .nil)) (.cst (.tuple #[]))) .nil) (.chk none (.bin .eql) (.cons (.bv 2) (.cons (.cst (.int .i64 3)) .nil)) (.isb none (.bv 1) (.bnd (.op (.bin .eql) (.cons (.bv 2) (.cons (.cst (.int .i64 3)) .nil))) (.chk (some ((.bv 3), false)) (.fld 0) (.cons (.inp 1) .nil) (.ite (.bv 3) false (.eff (.ld false 1) (.cons (.ite (.bv 3) false (.op (.fld 0) (.cons (.inp 1) .nil)) (.cst (.tuple #[]))) .nil) (.chk none (.bin .eql) (.cons (.bv 4) (.cons (.cst (.int .i64 4)) .nil)) (.isb none (.bv 3) (.bnd (.op (.bin .eql) (.cons (.bv 4) (.cons (.cst (.int .i64 4)) .nil))) (.chk (some ((.bv 5), false)) (.fld 0) (.cons (.inp 1) .nil) (.ite (.bv 5) false (.eff (.ld false 1) (.cons (.ite (.bv 5) false (.op (.fld 0) (.cons (.inp 1) .nil)) (.cst (.tuple #[]))) .nil) (.chk none (.bin .eql) (.cons (.bv 6) (.cons (.cst (.int .i64 5)) .nil)) (.isb none (.bv 5) (.done [(5, (.op (.bin .eql) (.cons (.bv 6) (.cons (.cst (.int .i64 5)) .nil))))] none)))) (.isb none (.bv 5) (.done [(5, (.cst (.bool true)))] none)))))))) (.isb none (.bv 3) (.isb none (.cst (.bool true)) (.done [(5, (.cst (.bool true)))] none))))))))) (.isb none (.bv 1) (.isb none (.cst (.bool true)) (.isb none (.cst (.bool true)) (.done [(5, (.cst (.bool true)))] none))))))))
@[simp] theorem r17_81_wp : type_of% (@wpR r17_81 _ r17_81.eq_1) := wpR r17_81.eq_1
@[simp] theorem r17_81_wpq : type_of% (@wpRq r17_81 _ r17_81.eq_1) := wpRq r17_81.eq_1
@[simp] theorem r17_81_wpm : type_of% (@wpRm r17_81 _ r17_81.eq_1) := wpRm r17_81.eq_1
def h17_8 : HC := (.seq (.reg (.chk none (.fld 0) (.cons (.inp 1) .nil) (.eff (.ld false 1) (.cons (.op (.fld 0) (.cons (.inp 1) .nil)) .nil) r17_81))) h17_7)
@[simp] theorem h17_8_wp : type_of% (@wpH h17_8 _ h17_8.eq_1) := wpH h17_8.eq_1
def h17_9 : HC := (.seq (.reg (.chk none (.fld 0) (.cons (.inp 1) .nil) (.eff (.ld false 1) (.cons (.op (.fld 0) (.cons (.inp 1) .nil)) .nil) (.chk none (.bin .eql) (.cons (.bv 0) (.cons (.cst (.int .i64 4)) .nil)) (.bnd (.op (.bin .eql) (.cons (.bv 0) (.cons (.cst (.int .i64 4)) .nil))) (.chk (some ((.bv 1), false)) (.fld 0) (.cons (.inp 1) .nil) (.ite (.bv 1) false (.eff (.ld false 1) (.cons (.ite (.bv 1) false (.op (.fld 0) (.cons (.inp 1) .nil)) (.cst (.tuple #[]))) .nil) (.chk none (.bin .eql) (.cons (.bv 2) (.cons (.cst (.int .i64 5)) .nil)) (.isb none (.bv 1) (.bnd (.op (.bin .eql) (.cons (.bv 2) (.cons (.cst (.int .i64 5)) .nil))) (.chk (some ((.bv 3), false)) (.fld 0) (.cons (.inp 1) .nil) (.ite (.bv 3) false (.eff (.ld false 1) (.cons (.ite (.bv 3) false (.op (.fld 0) (.cons (.inp 1) .nil)) (.cst (.tuple #[]))) .nil) (.chk none (.bin .eql) (.cons (.bv 4) (.cons (.cst (.int .i64 8)) .nil)) (.isb none (.bv 3) (.done [(4, (.op (.bin .eql) (.cons (.bv 4) (.cons (.cst (.int .i64 8)) .nil))))] none)))) (.isb none (.bv 3) (.done [(4, (.cst (.bool true)))] none)))))))) (.isb none (.bv 1) (.isb none (.cst (.bool true)) (.done [(4, (.cst (.bool true)))] none)))))))))) h17_8)
@[simp] theorem h17_9_wp : type_of% (@wpH h17_9 _ h17_9.eq_1) := wpH h17_9.eq_1
def h17_10 : HC := (.seq (.reg (.chk none (.fld 0) (.cons (.inp 1) .nil) (.eff (.ld false 1) (.cons (.op (.fld 0) (.cons (.inp 1) .nil)) .nil) (.chk none (.bin .eql) (.cons (.bv 0) (.cons (.cst (.int .i64 1)) .nil)) (.done [(3, (.op (.bin .eql) (.cons (.bv 0) (.cons (.cst (.int .i64 1)) .nil))))] none))))) h17_9)
@[simp] theorem h17_10_wp : type_of% (@wpH h17_10 _ h17_10.eq_1) := wpH h17_10.eq_1
def h17_11 : HC := (.seq (.reg (.done [(2, (.cst (.bool false)))] none)) .ret)
@[simp] theorem h17_11_wp : type_of% (@wpH h17_11 _ h17_11.eq_1) := wpH h17_11.eq_1
def h17_12 : HC := (.seq (.br (.chk none (.fld 0) (.cons (.inp 1) .nil) (.eff (.ld false 1) (.cons (.op (.fld 0) (.cons (.inp 1) .nil)) .nil) (.chk none (.bin .lss) (.cons (.bv 0) (.cons (.cst (.int .i64 1)) .nil)) (.bnd (.op (.bin .lss) (.cons (.bv 0) (.cons (.cst (.int .i64 1)) .nil))) (.chk (some ((.bv 1), false)) (.fld 0) (.cons (.inp 1) .nil) (.ite (.bv 1) false (.eff (.ld false 1) (.cons (.ite (.bv 1) false (.op (.fld 0) (.cons (.inp 1) .nil)) (.cst (.tuple #[]))) .nil) (.chk none (.bin .gtr) (.cons (.bv 2) (.cons (.cst (.int .i64 10)) .nil)) (.isb none (.bv 1) (.bnd (.op (.bin .gtr) (.cons (.bv 2) (.cons (.cst (.int .i64 10)) .nil))) (.chk (some ((.bv 3), false)) (.fld 12) (.cons (.inp 1) .nil) (.chk (some ((.bv 3), false)) (.fld 0) (.cons (.op (.fld 12) (.cons (.inp 1) .nil)) .nil) (.ite (.bv 3) false (.eff (.ld false 1) (.cons (.ite (.bv 3) false (.op (.fld 0) (.cons (.op (.fld 12) (.cons (.inp 1) .nil)) .nil)) (.cst (.tuple #[]))) .nil) (.chk none (.bin .neq) (.cons (.bv 4) (.cons (.cst (.int .i64 0)) .nil)) (.isb none (.bv 3) (.done [] (some (.op (.bin .neq) (.cons (.bv 4) (.cons (.cst (.int .i64 0)) .nil)))))))) (.isb none (.bv 3) (.done [] (some (.cst (.bool true)))))))))))) (.isb none (.bv 1) (.isb none (.cst (.bool true)) (.done [] (some (.cst (.bool true)))))))))))) h17_11 .skip) h17_10)
@[simp] theorem h17_12_wp : type_of% (@wpH h17_12 _ h17_12.eq_1) := wpH h17_12.eq_1
def l17 : Lifted := ⟨[0, 1, 2, 3, 4, 5, 6, 7, 8], 166, [.slot 2], (.seq (.reg (.eff (.box 30) (.cons (.inp 0) .nil) (.done [(1, (.bv 0)), (2, (.cst (.bool false)))] none))) h17_12)⟩
theorem l17_ok : liftFn T0 17 400 = some l17 := by kernel_rfl
theorem pr_entry {r : PR} {ev cv : Value} {j : Nat} {u : Value} (hu : (r.en.cs ev)[j]? = some u) : (r.cs ev cv)[7 + j]? = some u := by
  have hj : j < 5 := (List.getElem?_eq_some_iff.1 hu).1
  rcases j with _ | _ | _ | _ | _ | j
  all_goals first | exact hu | omega
theorem pr_contract {r : PR} {ev cv : Value} {j : Nat} {u : Value} (hu : (r.co.cs cv)[j]? = some u) : (r.cs ev cv)[12 + j]? = some u := by
  have hj : j < 11 := (List.getElem?_eq_some_iff.1 hu).1
  rcases j with _ | _ | _ | _ | _ | _ | _ | _ | _ | _ | _ | j
  all_goals first | exact hu | omega
@[simp] theorem iteR_tup {P : Program} {F : PF P} {env : List Value} {w : World} {Kr} (x : Array Value) (v : Bool) (a b : RT) (bvs : List Value) : IteR F (.tuple x) v a b env Kr bvs w = b.wp F env Kr bvs w := by cases v <;> rfl
set_option maxHeartbeats 4000000 in
theorem Plain_spec (r : PR) (ev cv : Value) (wvs : List Value) (w0 w : World) (A : Asn) (h1 : WR w0 A ev r.en.ws) (h2 : CV w0 A cv wvs r.co.es) (s : St w0 A w) :
    CallW Try.prog 17 [.agg (r.cs ev cv).toArray] (fun x w' => x = .bool (decide (plainP r)) ∧ St w0 A w') w := by
  have h2' := h2
  obtain ⟨ea, en, rfl⟩ := h1.val
  obtain ⟨ca, cn, rfl⟩ := h2.row.val
  refine callW_of_lift l17_ok (by simp [l17]) ?_
  simp -implicitDefEqProofs [l17, Instr.fill, Value.cells]
  refine eff_box s fun b w1 s1 => ?_
  simp -implicitDefEqProofs [Instr.fill, Value.cells]
  have s1 : St w0 (A * pt b (.cells (r.cs (.slice ea r.en.ws.length en) (.slice ca r.co.es.length cn)).toArray 30 (0, 0))) w1 := s1
  have fb : ∀ {w : World}, St w0 (A * pt b (.cells (r.cs (.slice ea r.en.ws.length en) (.slice ca r.co.es.length cn)).toArray 30 (0, 0))) w → ∀ j u, (r.cs (.slice ea r.en.ws.length en) (.slice ca r.co.es.length cn))[j]? = some u → w.cell? ⟨b, j, none⟩ = some u := fun h j u hu => by
    have := h.row_cells j u hu; simpa using this
  refine eff_ldc (v := .int .i64 r.kind) (fb s1 0 _ rfl) ?_
  by_cases kk : 1 ≤ r.kind ∧ r.kind ≤ 10
  case neg =>
    by_cases k0 : r.kind < 1
    · simp -implicitDefEqProofs [k0, plainP, kk]
      exact s1.drop
    · have k1 : 10 < r.kind := by omega
      simp -implicitDefEqProofs [k0]
      refine eff_ldc (v := .int .i64 r.kind) (fb s1 0 _ rfl) ?_
      simp -implicitDefEqProofs [k1, plainP, kk]
      exact s1.drop
  have k0 : ¬ r.kind < 1 := by omega
  have k1 : ¬ 10 < r.kind := by omega
  simp -implicitDefEqProofs [k0]
  refine eff_ldc (v := .int .i64 r.kind) (fb s1 0 _ rfl) ?_
  simp -implicitDefEqProofs [k1]
  refine eff_ldc (v := .int .i64 r.co.num) (fb s1 12 _ rfl) ?_
  by_cases hn : r.co.num = 0
  case neg =>
    simp -implicitDefEqProofs [hn, plainP]
    exact s1.drop
  simp -implicitDefEqProofs [hn]
  have kd : r.kind = 1 ∨ r.kind = 2 ∨ r.kind = 3 ∨ r.kind = 4 ∨ r.kind = 5 ∨ r.kind = 6 ∨ r.kind = 7 ∨ r.kind = 8 ∨ r.kind = 9 ∨ r.kind = 10 := by omega
  rcases kd with k | k | k | k | k | k | k | k | k | k
  · repeat (refine eff_ldc (v := .int .i64 r.kind) (fb s1 0 _ rfl) ?_; simp -implicitDefEqProofs [k])
    refine eff_ldc (v := .int .i64 r.fr) (fb s1 2 _ rfl) ?_
    by_cases c2 : r.fr = 0
    case neg =>
      simp -implicitDefEqProofs [c2, k, plainP]
      exact s1.drop
    simp -implicitDefEqProofs [c2, k]
    refine eff_ldc (v := .int .i64 r.to') (fb s1 3 _ rfl) ?_
    by_cases c3 : r.to' = 0
    case neg =>
      simp -implicitDefEqProofs [c3, k, plainP]
      exact s1.drop
    simp -implicitDefEqProofs [c3, k]
    refine eff_ldc (v := .int .u64 r.coins) (fb s1 4 _ rfl) ?_
    by_cases c4 : r.coins = 0
    case neg =>
      simp -implicitDefEqProofs [c4, k, plainP]
      exact s1.drop
    simp -implicitDefEqProofs [c4, k]
    refine eff_ldc (v := .int .i64 r.item) (fb s1 5 _ rfl) ?_
    by_cases c5 : r.item = 0
    case neg =>
      simp -implicitDefEqProofs [c5, k, plainP]
      exact s1.drop
    simp -implicitDefEqProofs [c5, k]
    refine eff_ldc (v := .int .i64 r.num) (fb s1 6 _ rfl) ?_
    by_cases c6 : r.num = 0
    case neg =>
      simp -implicitDefEqProofs [c6, k, plainP]
      exact s1.drop
    simp -implicitDefEqProofs [c6, k]
    refine eff_ldc (v := .int .i64 r.kind) (fb s1 0 _ rfl) ?_
    simp -implicitDefEqProofs [k]
    refine eff_ldcs (vs := r.en.cs (.slice ea r.en.ws.length en)) (fun j u hu => fb s1 _ _ (pr_entry hu)) rfl ?_
    simp -implicitDefEqProofs
    refine eff_call ((rnone_spec r.en _ w0 w1 _ (h1.mono fun w s => s.drop) s1).mono ?_)
    rintro _ w2 ⟨rfl, s2⟩
    by_cases d1 : noneP r.en
    case neg =>
      simp -implicitDefEqProofs [d1, k]
      refine ⟨?_, s2.drop⟩
      simp [plainP, k, d1]
    simp -implicitDefEqProofs [d1, k]
    refine eff_ldc (v := .int .i64 r.kind) (fb s2 0 _ rfl) ?_
    simp -implicitDefEqProofs [k]
    refine eff_ldcs (vs := r.co.cs (.slice ca r.co.es.length cn)) (fun j u hu => fb s2 _ _ (pr_contract hu)) rfl ?_
    simp -implicitDefEqProofs
    refine eff_call ((empty_spec r.co _ wvs w0 _ _ (h2'.mono fun w s => s.drop) s2).mono ?_)
    rintro _ w3 ⟨rfl, s3⟩
    by_cases d2 : emptyP r.co
    case neg =>
      simp -implicitDefEqProofs [d2, k]
      refine ⟨?_, s3.drop⟩
      simp [plainP, k, d2]
    simp -implicitDefEqProofs [d2, hn, k]
    refine eff_ldc (v := .int .i64 r.kind) (fb s3 0 _ rfl) ?_
    simp -implicitDefEqProofs [k]
    refine eff_ldc (v := .int .i64 r.ticks) (fb s3 23 _ rfl) ?_
    simp -implicitDefEqProofs
    refine ⟨?_, s3.drop⟩
    simp [plainP, k, hn, c2, c3, c4, c5, c6, d1, d2]
  · repeat (refine eff_ldc (v := .int .i64 r.kind) (fb s1 0 _ rfl) ?_; simp -implicitDefEqProofs [k])
    refine eff_ldc (v := .string (Go.HL.mk r.nm)) (fb s1 1 _ rfl) ?_
    by_cases c1 : r.nm = []
    case neg =>
      have e1 : r.nm.isEmpty = false := by rw [List.isEmpty_eq_false_iff]; exact c1
      simp -implicitDefEqProofs [e1, k]
      refine ⟨?_, s1.drop⟩
      simp [plainP, k, c1]
    simp -implicitDefEqProofs [c1, k]
    refine eff_ldc (v := .int .i64 r.fr) (fb s1 2 _ rfl) ?_
    by_cases c2 : r.fr = 0
    case neg =>
      simp -implicitDefEqProofs [c2, k, plainP]
      exact s1.drop
    simp -implicitDefEqProofs [c2, k]
    refine eff_ldc (v := .int .i64 r.item) (fb s1 5 _ rfl) ?_
    by_cases c5 : r.item = 0
    case neg =>
      simp -implicitDefEqProofs [c5, k, plainP]
      exact s1.drop
    simp -implicitDefEqProofs [c5, k]
    refine eff_ldc (v := .int .i64 r.num) (fb s1 6 _ rfl) ?_
    by_cases c6 : r.num = 0
    case neg =>
      simp -implicitDefEqProofs [c6, k, plainP]
      exact s1.drop
    simp -implicitDefEqProofs [c6, k]
    refine eff_ldc (v := .int .i64 r.kind) (fb s1 0 _ rfl) ?_
    simp -implicitDefEqProofs [k]
    refine eff_ldcs (vs := r.en.cs (.slice ea r.en.ws.length en)) (fun j u hu => fb s1 _ _ (pr_entry hu)) rfl ?_
    simp -implicitDefEqProofs
    refine eff_call ((rnone_spec r.en _ w0 w1 _ (h1.mono fun w s => s.drop) s1).mono ?_)
    rintro _ w2 ⟨rfl, s2⟩
    by_cases d1 : noneP r.en
    case neg =>
      simp -implicitDefEqProofs [d1, k]
      refine ⟨?_, s2.drop⟩
      simp [plainP, k, d1]
    simp -implicitDefEqProofs [d1, k]
    refine eff_ldc (v := .int .i64 r.kind) (fb s2 0 _ rfl) ?_
    simp -implicitDefEqProofs [k]
    refine eff_ldcs (vs := r.co.cs (.slice ca r.co.es.length cn)) (fun j u hu => fb s2 _ _ (pr_contract hu)) rfl ?_
    simp -implicitDefEqProofs
    refine eff_call ((empty_spec r.co _ wvs w0 _ _ (h2'.mono fun w s => s.drop) s2).mono ?_)
    rintro _ w3 ⟨rfl, s3⟩
    by_cases d2 : emptyP r.co
    case neg =>
      simp -implicitDefEqProofs [d2, k]
      refine ⟨?_, s3.drop⟩
      simp [plainP, k, d2]
    simp -implicitDefEqProofs [d2, hn, k]
    refine eff_ldc (v := .int .i64 r.kind) (fb s3 0 _ rfl) ?_
    simp -implicitDefEqProofs [k]
    refine eff_ldc (v := .int .i64 r.ticks) (fb s3 23 _ rfl) ?_
    simp -implicitDefEqProofs
    refine ⟨?_, s3.drop⟩
    simp [plainP, k, hn, c1, c2, c5, c6, d1, d2]
  · repeat (refine eff_ldc (v := .int .i64 r.kind) (fb s1 0 _ rfl) ?_; simp -implicitDefEqProofs [k])
    refine eff_ldc (v := .string (Go.HL.mk r.nm)) (fb s1 1 _ rfl) ?_
    by_cases c1 : r.nm = []
    case neg =>
      have e1 : r.nm.isEmpty = false := by rw [List.isEmpty_eq_false_iff]; exact c1
      simp -implicitDefEqProofs [e1, k]
      refine ⟨?_, s1.drop⟩
      simp [plainP, k, c1]
    simp -implicitDefEqProofs [c1, k]
    refine eff_ldc (v := .int .i64 r.fr) (fb s1 2 _ rfl) ?_
    by_cases c2 : r.fr = 0
    case neg =>
      simp -implicitDefEqProofs [c2, k, plainP]
      exact s1.drop
    simp -implicitDefEqProofs [c2, k]
    refine eff_ldc (v := .int .u64 r.coins) (fb s1 4 _ rfl) ?_
    by_cases c4 : r.coins = 0
    case neg =>
      simp -implicitDefEqProofs [c4, k, plainP]
      exact s1.drop
    simp -implicitDefEqProofs [c4, k]
    refine eff_ldc (v := .int .i64 r.item) (fb s1 5 _ rfl) ?_
    by_cases c5 : r.item = 0
    case neg =>
      simp -implicitDefEqProofs [c5, k, plainP]
      exact s1.drop
    simp -implicitDefEqProofs [c5, k]
    refine eff_ldc (v := .int .i64 r.kind) (fb s1 0 _ rfl) ?_
    simp -implicitDefEqProofs [k]
    refine eff_ldcs (vs := r.en.cs (.slice ea r.en.ws.length en)) (fun j u hu => fb s1 _ _ (pr_entry hu)) rfl ?_
    simp -implicitDefEqProofs
    refine eff_call ((rnone_spec r.en _ w0 w1 _ (h1.mono fun w s => s.drop) s1).mono ?_)
    rintro _ w2 ⟨rfl, s2⟩
    by_cases d1 : noneP r.en
    case neg =>
      simp -implicitDefEqProofs [d1, k]
      refine ⟨?_, s2.drop⟩
      simp [plainP, k, d1]
    simp -implicitDefEqProofs [d1, k]
    refine eff_ldc (v := .int .i64 r.kind) (fb s2 0 _ rfl) ?_
    simp -implicitDefEqProofs [k]
    refine eff_ldcs (vs := r.co.cs (.slice ca r.co.es.length cn)) (fun j u hu => fb s2 _ _ (pr_contract hu)) rfl ?_
    simp -implicitDefEqProofs
    refine eff_call ((empty_spec r.co _ wvs w0 _ _ (h2'.mono fun w s => s.drop) s2).mono ?_)
    rintro _ w3 ⟨rfl, s3⟩
    by_cases d2 : emptyP r.co
    case neg =>
      simp -implicitDefEqProofs [d2, k]
      refine ⟨?_, s3.drop⟩
      simp [plainP, k, d2]
    simp -implicitDefEqProofs [d2, hn, k]
    refine eff_ldc (v := .int .i64 r.kind) (fb s3 0 _ rfl) ?_
    simp -implicitDefEqProofs [k]
    refine eff_ldc (v := .int .i64 r.ticks) (fb s3 23 _ rfl) ?_
    simp -implicitDefEqProofs
    refine ⟨?_, s3.drop⟩
    simp [plainP, k, hn, c1, c2, c4, c5, d1, d2]
  · repeat (refine eff_ldc (v := .int .i64 r.kind) (fb s1 0 _ rfl) ?_; simp -implicitDefEqProofs [k])
    refine eff_ldc (v := .string (Go.HL.mk r.nm)) (fb s1 1 _ rfl) ?_
    by_cases c1 : r.nm = []
    case neg =>
      have e1 : r.nm.isEmpty = false := by rw [List.isEmpty_eq_false_iff]; exact c1
      simp -implicitDefEqProofs [e1, k]
      refine ⟨?_, s1.drop⟩
      simp [plainP, k, c1]
    simp -implicitDefEqProofs [c1, k]
    refine eff_ldc (v := .int .i64 r.item) (fb s1 5 _ rfl) ?_
    by_cases c5 : r.item = 0
    case neg =>
      simp -implicitDefEqProofs [c5, k, plainP]
      exact s1.drop
    simp -implicitDefEqProofs [c5, k]
    refine eff_ldc (v := .int .i64 r.num) (fb s1 6 _ rfl) ?_
    by_cases c6 : r.num = 0
    case neg =>
      simp -implicitDefEqProofs [c6, k, plainP]
      exact s1.drop
    simp -implicitDefEqProofs [c6, k]
    refine eff_ldc (v := .int .i64 r.kind) (fb s1 0 _ rfl) ?_
    simp -implicitDefEqProofs [k]
    refine eff_ldcs (vs := r.en.cs (.slice ea r.en.ws.length en)) (fun j u hu => fb s1 _ _ (pr_entry hu)) rfl ?_
    simp -implicitDefEqProofs
    refine eff_call ((rnone_spec r.en _ w0 w1 _ (h1.mono fun w s => s.drop) s1).mono ?_)
    rintro _ w2 ⟨rfl, s2⟩
    by_cases d1 : noneP r.en
    case neg =>
      simp -implicitDefEqProofs [d1, k]
      refine ⟨?_, s2.drop⟩
      simp [plainP, k, d1]
    simp -implicitDefEqProofs [d1, k]
    refine eff_ldc (v := .int .i64 r.kind) (fb s2 0 _ rfl) ?_
    simp -implicitDefEqProofs [k]
    refine eff_ldcs (vs := r.co.cs (.slice ca r.co.es.length cn)) (fun j u hu => fb s2 _ _ (pr_contract hu)) rfl ?_
    simp -implicitDefEqProofs
    refine eff_call ((empty_spec r.co _ wvs w0 _ _ (h2'.mono fun w s => s.drop) s2).mono ?_)
    rintro _ w3 ⟨rfl, s3⟩
    by_cases d2 : emptyP r.co
    case neg =>
      simp -implicitDefEqProofs [d2, k]
      refine ⟨?_, s3.drop⟩
      simp [plainP, k, d2]
    simp -implicitDefEqProofs [d2, hn, k]
    refine eff_ldc (v := .int .i64 r.kind) (fb s3 0 _ rfl) ?_
    simp -implicitDefEqProofs [k]
    refine eff_ldc (v := .int .i64 r.ticks) (fb s3 23 _ rfl) ?_
    simp -implicitDefEqProofs
    refine ⟨?_, s3.drop⟩
    simp [plainP, k, hn, c1, c5, c6, d1, d2]
  · repeat (refine eff_ldc (v := .int .i64 r.kind) (fb s1 0 _ rfl) ?_; simp -implicitDefEqProofs [k])
    refine eff_ldc (v := .string (Go.HL.mk r.nm)) (fb s1 1 _ rfl) ?_
    by_cases c1 : r.nm = []
    case neg =>
      have e1 : r.nm.isEmpty = false := by rw [List.isEmpty_eq_false_iff]; exact c1
      simp -implicitDefEqProofs [e1, k]
      refine ⟨?_, s1.drop⟩
      simp [plainP, k, c1]
    simp -implicitDefEqProofs [c1, k]
    refine eff_ldc (v := .int .u64 r.coins) (fb s1 4 _ rfl) ?_
    by_cases c4 : r.coins = 0
    case neg =>
      simp -implicitDefEqProofs [c4, k, plainP]
      exact s1.drop
    simp -implicitDefEqProofs [c4, k]
    refine eff_ldc (v := .int .i64 r.num) (fb s1 6 _ rfl) ?_
    by_cases c6 : r.num = 0
    case neg =>
      simp -implicitDefEqProofs [c6, k, plainP]
      exact s1.drop
    simp -implicitDefEqProofs [c6, k]
    refine eff_ldc (v := .int .i64 r.kind) (fb s1 0 _ rfl) ?_
    simp -implicitDefEqProofs [k]
    refine eff_ldcs (vs := r.en.cs (.slice ea r.en.ws.length en)) (fun j u hu => fb s1 _ _ (pr_entry hu)) rfl ?_
    simp -implicitDefEqProofs
    refine eff_call ((rnone_spec r.en _ w0 w1 _ (h1.mono fun w s => s.drop) s1).mono ?_)
    rintro _ w2 ⟨rfl, s2⟩
    by_cases d1 : noneP r.en
    case neg =>
      simp -implicitDefEqProofs [d1, k]
      refine ⟨?_, s2.drop⟩
      simp [plainP, k, d1]
    simp -implicitDefEqProofs [d1, k]
    refine eff_ldc (v := .int .i64 r.kind) (fb s2 0 _ rfl) ?_
    simp -implicitDefEqProofs [k]
    refine eff_ldcs (vs := r.co.cs (.slice ca r.co.es.length cn)) (fun j u hu => fb s2 _ _ (pr_contract hu)) rfl ?_
    simp -implicitDefEqProofs
    refine eff_call ((empty_spec r.co _ wvs w0 _ _ (h2'.mono fun w s => s.drop) s2).mono ?_)
    rintro _ w3 ⟨rfl, s3⟩
    by_cases d2 : emptyP r.co
    case neg =>
      simp -implicitDefEqProofs [d2, k]
      refine ⟨?_, s3.drop⟩
      simp [plainP, k, d2]
    simp -implicitDefEqProofs [d2, hn, k]
    refine eff_ldc (v := .int .i64 r.kind) (fb s3 0 _ rfl) ?_
    simp -implicitDefEqProofs [k]
    refine eff_ldc (v := .int .i64 r.ticks) (fb s3 23 _ rfl) ?_
    simp -implicitDefEqProofs
    refine ⟨?_, s3.drop⟩
    simp [plainP, k, hn, c1, c4, c6, d1, d2]
  · repeat (refine eff_ldc (v := .int .i64 r.kind) (fb s1 0 _ rfl) ?_; simp -implicitDefEqProofs [k])
    refine eff_ldc (v := .string (Go.HL.mk r.nm)) (fb s1 1 _ rfl) ?_
    by_cases c1 : r.nm = []
    case neg =>
      have e1 : r.nm.isEmpty = false := by rw [List.isEmpty_eq_false_iff]; exact c1
      simp -implicitDefEqProofs [e1, k]
      refine ⟨?_, s1.drop⟩
      simp [plainP, k, c1]
    simp -implicitDefEqProofs [c1, k]
    refine eff_ldc (v := .int .i64 r.fr) (fb s1 2 _ rfl) ?_
    by_cases c2 : r.fr = 0
    case neg =>
      simp -implicitDefEqProofs [c2, k, plainP]
      exact s1.drop
    simp -implicitDefEqProofs [c2, k]
    refine eff_ldc (v := .int .i64 r.to') (fb s1 3 _ rfl) ?_
    by_cases c3 : r.to' = 0
    case neg =>
      simp -implicitDefEqProofs [c3, k, plainP]
      exact s1.drop
    simp -implicitDefEqProofs [c3, k]
    refine eff_ldc (v := .int .u64 r.coins) (fb s1 4 _ rfl) ?_
    by_cases c4 : r.coins = 0
    case neg =>
      simp -implicitDefEqProofs [c4, k, plainP]
      exact s1.drop
    simp -implicitDefEqProofs [c4, k]
    refine eff_ldc (v := .int .i64 r.item) (fb s1 5 _ rfl) ?_
    by_cases c5 : r.item = 0
    case neg =>
      simp -implicitDefEqProofs [c5, k, plainP]
      exact s1.drop
    simp -implicitDefEqProofs [c5, k]
    refine eff_ldc (v := .int .i64 r.num) (fb s1 6 _ rfl) ?_
    by_cases c6 : r.num = 0
    case neg =>
      simp -implicitDefEqProofs [c6, k, plainP]
      exact s1.drop
    simp -implicitDefEqProofs [c6, k]
    refine eff_ldc (v := .int .i64 r.kind) (fb s1 0 _ rfl) ?_
    simp -implicitDefEqProofs [k]
    refine eff_ldcs (vs := r.en.cs (.slice ea r.en.ws.length en)) (fun j u hu => fb s1 _ _ (pr_entry hu)) rfl ?_
    simp -implicitDefEqProofs
    refine eff_call ((rnone_spec r.en _ w0 w1 _ (h1.mono fun w s => s.drop) s1).mono ?_)
    rintro _ w2 ⟨rfl, s2⟩
    by_cases d1 : noneP r.en
    case neg =>
      simp -implicitDefEqProofs [d1, k]
      refine ⟨?_, s2.drop⟩
      simp [plainP, k, d1]
    simp -implicitDefEqProofs [d1, k]
    refine eff_ldc (v := .int .i64 r.kind) (fb s2 0 _ rfl) ?_
    simp -implicitDefEqProofs [k]
    refine eff_ldc (v := .int .i64 r.kind) (fb s2 0 _ rfl) ?_
    simp -implicitDefEqProofs [k]
    refine eff_ldc (v := .int .i64 r.ticks) (fb s2 23 _ rfl) ?_
    simp -implicitDefEqProofs
    refine ⟨?_, s2.drop⟩
    simp [plainP, k, hn, c1, c2, c3, c4, c5, c6, d1]
  · repeat (refine eff_ldc (v := .int .i64 r.kind) (fb s1 0 _ rfl) ?_; simp -implicitDefEqProofs [k])
    refine eff_ldc (v := .string (Go.HL.mk r.nm)) (fb s1 1 _ rfl) ?_
    by_cases c1 : r.nm = []
    case neg =>
      have e1 : r.nm.isEmpty = false := by rw [List.isEmpty_eq_false_iff]; exact c1
      simp -implicitDefEqProofs [e1, k]
      refine ⟨?_, s1.drop⟩
      simp [plainP, k, c1]
    simp -implicitDefEqProofs [c1, k]
    refine eff_ldc (v := .int .i64 r.fr) (fb s1 2 _ rfl) ?_
    by_cases c2 : r.fr = 0
    case neg =>
      simp -implicitDefEqProofs [c2, k, plainP]
      exact s1.drop
    simp -implicitDefEqProofs [c2, k]
    refine eff_ldc (v := .int .i64 r.to') (fb s1 3 _ rfl) ?_
    by_cases c3 : r.to' = 0
    case neg =>
      simp -implicitDefEqProofs [c3, k, plainP]
      exact s1.drop
    simp -implicitDefEqProofs [c3, k]
    refine eff_ldc (v := .int .u64 r.coins) (fb s1 4 _ rfl) ?_
    by_cases c4 : r.coins = 0
    case neg =>
      simp -implicitDefEqProofs [c4, k, plainP]
      exact s1.drop
    simp -implicitDefEqProofs [c4, k]
    refine eff_ldc (v := .int .i64 r.item) (fb s1 5 _ rfl) ?_
    by_cases c5 : r.item = 0
    case neg =>
      simp -implicitDefEqProofs [c5, k, plainP]
      exact s1.drop
    simp -implicitDefEqProofs [c5, k]
    refine eff_ldc (v := .int .i64 r.kind) (fb s1 0 _ rfl) ?_
    simp -implicitDefEqProofs [k]
    refine eff_ldc (v := .int .i64 r.kind) (fb s1 0 _ rfl) ?_
    simp -implicitDefEqProofs [k]
    refine eff_ldcs (vs := r.co.cs (.slice ca r.co.es.length cn)) (fun j u hu => fb s1 _ _ (pr_contract hu)) rfl ?_
    simp -implicitDefEqProofs
    refine eff_call ((empty_spec r.co _ wvs w0 _ _ (h2'.mono fun w s => s.drop) s1).mono ?_)
    rintro _ w3 ⟨rfl, s3⟩
    by_cases d2 : emptyP r.co
    case neg =>
      simp -implicitDefEqProofs [d2, k]
      refine ⟨?_, s3.drop⟩
      simp [plainP, k, d2]
    simp -implicitDefEqProofs [d2, hn, k]
    refine eff_ldc (v := .int .i64 r.kind) (fb s3 0 _ rfl) ?_
    simp -implicitDefEqProofs [k]
    refine eff_ldc (v := .int .i64 r.ticks) (fb s3 23 _ rfl) ?_
    simp -implicitDefEqProofs
    refine ⟨?_, s3.drop⟩
    simp [plainP, k, hn, c1, c2, c3, c4, c5, d2]
  · repeat (refine eff_ldc (v := .int .i64 r.kind) (fb s1 0 _ rfl) ?_; simp -implicitDefEqProofs [k])
    refine eff_ldc (v := .string (Go.HL.mk r.nm)) (fb s1 1 _ rfl) ?_
    by_cases c1 : r.nm = []
    case neg =>
      have e1 : r.nm.isEmpty = false := by rw [List.isEmpty_eq_false_iff]; exact c1
      simp -implicitDefEqProofs [e1, k]
      refine ⟨?_, s1.drop⟩
      simp [plainP, k, c1]
    simp -implicitDefEqProofs [c1, k]
    refine eff_ldc (v := .int .i64 r.to') (fb s1 3 _ rfl) ?_
    by_cases c3 : r.to' = 0
    case neg =>
      simp -implicitDefEqProofs [c3, k, plainP]
      exact s1.drop
    simp -implicitDefEqProofs [c3, k]
    refine eff_ldc (v := .int .u64 r.coins) (fb s1 4 _ rfl) ?_
    by_cases c4 : r.coins = 0
    case neg =>
      simp -implicitDefEqProofs [c4, k, plainP]
      exact s1.drop
    simp -implicitDefEqProofs [c4, k]
    refine eff_ldc (v := .int .i64 r.item) (fb s1 5 _ rfl) ?_
    by_cases c5 : r.item = 0
    case neg =>
      simp -implicitDefEqProofs [c5, k, plainP]
      exact s1.drop
    simp -implicitDefEqProofs [c5, k]
    refine eff_ldc (v := .int .i64 r.kind) (fb s1 0 _ rfl) ?_
    simp -implicitDefEqProofs [k]
    refine eff_ldcs (vs := r.en.cs (.slice ea r.en.ws.length en)) (fun j u hu => fb s1 _ _ (pr_entry hu)) rfl ?_
    simp -implicitDefEqProofs
    refine eff_call ((rnone_spec r.en _ w0 w1 _ (h1.mono fun w s => s.drop) s1).mono ?_)
    rintro _ w2 ⟨rfl, s2⟩
    by_cases d1 : noneP r.en
    case neg =>
      simp -implicitDefEqProofs [d1, k]
      refine ⟨?_, s2.drop⟩
      simp [plainP, k, d1]
    simp -implicitDefEqProofs [d1, k]
    refine eff_ldc (v := .int .i64 r.kind) (fb s2 0 _ rfl) ?_
    simp -implicitDefEqProofs [k]
    refine eff_ldcs (vs := r.co.cs (.slice ca r.co.es.length cn)) (fun j u hu => fb s2 _ _ (pr_contract hu)) rfl ?_
    simp -implicitDefEqProofs
    refine eff_call ((empty_spec r.co _ wvs w0 _ _ (h2'.mono fun w s => s.drop) s2).mono ?_)
    rintro _ w3 ⟨rfl, s3⟩
    by_cases d2 : emptyP r.co
    case neg =>
      simp -implicitDefEqProofs [d2, k]
      refine ⟨?_, s3.drop⟩
      simp [plainP, k, d2]
    simp -implicitDefEqProofs [d2, hn, k]
    refine eff_ldc (v := .int .i64 r.kind) (fb s3 0 _ rfl) ?_
    simp -implicitDefEqProofs [k]
    refine eff_ldc (v := .int .i64 r.ticks) (fb s3 23 _ rfl) ?_
    simp -implicitDefEqProofs
    refine ⟨?_, s3.drop⟩
    simp [plainP, k, hn, c1, c3, c4, c5, d1, d2]
  · repeat (refine eff_ldc (v := .int .i64 r.kind) (fb s1 0 _ rfl) ?_; simp -implicitDefEqProofs [k])
    refine eff_ldc (v := .string (Go.HL.mk r.nm)) (fb s1 1 _ rfl) ?_
    by_cases c1 : r.nm = []
    case neg =>
      have e1 : r.nm.isEmpty = false := by rw [List.isEmpty_eq_false_iff]; exact c1
      simp -implicitDefEqProofs [e1, k]
      refine ⟨?_, s1.drop⟩
      simp [plainP, k, c1]
    simp -implicitDefEqProofs [c1, k]
    refine eff_ldc (v := .int .i64 r.fr) (fb s1 2 _ rfl) ?_
    by_cases c2 : r.fr = 0
    case neg =>
      simp -implicitDefEqProofs [c2, k, plainP]
      exact s1.drop
    simp -implicitDefEqProofs [c2, k]
    refine eff_ldc (v := .int .i64 r.to') (fb s1 3 _ rfl) ?_
    by_cases c3 : r.to' = 0
    case neg =>
      simp -implicitDefEqProofs [c3, k, plainP]
      exact s1.drop
    simp -implicitDefEqProofs [c3, k]
    refine eff_ldc (v := .int .u64 r.coins) (fb s1 4 _ rfl) ?_
    by_cases c4 : r.coins = 0
    case neg =>
      simp -implicitDefEqProofs [c4, k, plainP]
      exact s1.drop
    simp -implicitDefEqProofs [c4, k]
    refine eff_ldc (v := .int .i64 r.item) (fb s1 5 _ rfl) ?_
    by_cases c5 : r.item = 0
    case neg =>
      simp -implicitDefEqProofs [c5, k, plainP]
      exact s1.drop
    simp -implicitDefEqProofs [c5, k]
    refine eff_ldc (v := .int .i64 r.kind) (fb s1 0 _ rfl) ?_
    simp -implicitDefEqProofs [k]
    refine eff_ldcs (vs := r.en.cs (.slice ea r.en.ws.length en)) (fun j u hu => fb s1 _ _ (pr_entry hu)) rfl ?_
    simp -implicitDefEqProofs
    refine eff_call ((rnone_spec r.en _ w0 w1 _ (h1.mono fun w s => s.drop) s1).mono ?_)
    rintro _ w2 ⟨rfl, s2⟩
    by_cases d1 : noneP r.en
    case neg =>
      simp -implicitDefEqProofs [d1, k]
      refine ⟨?_, s2.drop⟩
      simp [plainP, k, d1]
    simp -implicitDefEqProofs [d1, k]
    refine eff_ldc (v := .int .i64 r.kind) (fb s2 0 _ rfl) ?_
    simp -implicitDefEqProofs [k]
    refine eff_ldcs (vs := r.co.cs (.slice ca r.co.es.length cn)) (fun j u hu => fb s2 _ _ (pr_contract hu)) rfl ?_
    simp -implicitDefEqProofs
    refine eff_call ((empty_spec r.co _ wvs w0 _ _ (h2'.mono fun w s => s.drop) s2).mono ?_)
    rintro _ w3 ⟨rfl, s3⟩
    by_cases d2 : emptyP r.co
    case neg =>
      simp -implicitDefEqProofs [d2, k]
      refine ⟨?_, s3.drop⟩
      simp [plainP, k, d2]
    simp -implicitDefEqProofs [d2, hn, k]
    refine eff_ldc (v := .int .i64 r.kind) (fb s3 0 _ rfl) ?_
    simp -implicitDefEqProofs [k]
    refine eff_ldc (v := .int .i64 r.ticks) (fb s3 23 _ rfl) ?_
    simp -implicitDefEqProofs
    refine ⟨?_, s3.drop⟩
    simp [plainP, k, hn, c1, c2, c3, c4, c5, d1, d2]
  · repeat (refine eff_ldc (v := .int .i64 r.kind) (fb s1 0 _ rfl) ?_; simp -implicitDefEqProofs [k])
    refine eff_ldc (v := .string (Go.HL.mk r.nm)) (fb s1 1 _ rfl) ?_
    by_cases c1 : r.nm = []
    case neg =>
      have e1 : r.nm.isEmpty = false := by rw [List.isEmpty_eq_false_iff]; exact c1
      simp -implicitDefEqProofs [e1, k]
      refine ⟨?_, s1.drop⟩
      simp [plainP, k, c1]
    simp -implicitDefEqProofs [c1, k]
    refine eff_ldc (v := .int .i64 r.fr) (fb s1 2 _ rfl) ?_
    by_cases c2 : r.fr = 0
    case neg =>
      simp -implicitDefEqProofs [c2, k, plainP]
      exact s1.drop
    simp -implicitDefEqProofs [c2, k]
    refine eff_ldc (v := .int .i64 r.to') (fb s1 3 _ rfl) ?_
    by_cases c3 : r.to' = 0
    case neg =>
      simp -implicitDefEqProofs [c3, k, plainP]
      exact s1.drop
    simp -implicitDefEqProofs [c3, k]
    refine eff_ldc (v := .int .u64 r.coins) (fb s1 4 _ rfl) ?_
    by_cases c4 : r.coins = 0
    case neg =>
      simp -implicitDefEqProofs [c4, k, plainP]
      exact s1.drop
    simp -implicitDefEqProofs [c4, k]
    refine eff_ldc (v := .int .i64 r.item) (fb s1 5 _ rfl) ?_
    by_cases c5 : r.item = 0
    case neg =>
      simp -implicitDefEqProofs [c5, k, plainP]
      exact s1.drop
    simp -implicitDefEqProofs [c5, k]
    refine eff_ldc (v := .int .i64 r.num) (fb s1 6 _ rfl) ?_
    by_cases c6 : r.num = 0
    case neg =>
      simp -implicitDefEqProofs [c6, k, plainP]
      exact s1.drop
    simp -implicitDefEqProofs [c6, k]
    refine eff_ldc (v := .int .i64 r.kind) (fb s1 0 _ rfl) ?_
    simp -implicitDefEqProofs [k]
    refine eff_ldcs (vs := r.en.cs (.slice ea r.en.ws.length en)) (fun j u hu => fb s1 _ _ (pr_entry hu)) rfl ?_
    simp -implicitDefEqProofs
    refine eff_call ((rnone_spec r.en _ w0 w1 _ (h1.mono fun w s => s.drop) s1).mono ?_)
    rintro _ w2 ⟨rfl, s2⟩
    by_cases d1 : noneP r.en
    case neg =>
      simp -implicitDefEqProofs [d1, k]
      refine ⟨?_, s2.drop⟩
      simp [plainP, k, d1]
    simp -implicitDefEqProofs [d1, k]
    refine eff_ldc (v := .int .i64 r.kind) (fb s2 0 _ rfl) ?_
    simp -implicitDefEqProofs [k]
    refine eff_ldcs (vs := r.co.cs (.slice ca r.co.es.length cn)) (fun j u hu => fb s2 _ _ (pr_contract hu)) rfl ?_
    simp -implicitDefEqProofs
    refine eff_call ((empty_spec r.co _ wvs w0 _ _ (h2'.mono fun w s => s.drop) s2).mono ?_)
    rintro _ w3 ⟨rfl, s3⟩
    by_cases d2 : emptyP r.co
    case neg =>
      simp -implicitDefEqProofs [d2, k]
      refine ⟨?_, s3.drop⟩
      simp [plainP, k, d2]
    simp -implicitDefEqProofs [d2, hn, k]
    refine eff_ldc (v := .int .i64 r.kind) (fb s3 0 _ rfl) ?_
    simp -implicitDefEqProofs [k]
    refine ⟨?_, s3.drop⟩
    simp [plainP, k, hn, c1, c2, c3, c4, c5, c6, d1, d2]
end Go.HL.Sr

namespace Go.HL.Sr
open Go.HL Go.HL.Tl Go.Proofs
set_option maxRecDepth 4000
set_option linter.unusedSimpArgs false
set_option linter.unusedVariables false
structure PR.ok (r : PR) : Prop where
  coins : 0 ≤ r.coins ∧ r.coins < 18446744073709551616
  nm : r.nm.length ≤ 1048576
  en : r.en.ok
  co : r.co.ok
def encW0 (r : PR) : Wr := putN (numW (putN (putF (putN Wr.new 1 [r.kind]) 2 r.nm) 3 [r.fr, r.to']) 5 r.coins) 6 [r.item, r.num]
def encW (r : PR) : Wr := putN (recW (recW (encW0 r) 8 (entW r.en)) 9 (conW r.co)) 10 [r.ticks]
def encE (r : PR) : Int := if ¬ plainP r then 238 else if ¬ conOK r.co ∨ (encW r).e ≠ 0 ∨ 4096 < (encW r).b.length then 3 else 0
def encB (r : PR) : List UInt8 := if encE r = 0 then (encW r).b else []
theorem encW0_ok (r : PR) : (encW0 r).ok := putN_ok _ _ (num_ok (putN_ok _ _ (put_ok (putN_ok _ _ Wr.new_ok) _ _)) _ _)
theorem encW1_ok (r : PR) (V : Wr) : (recW (recW (encW0 r) 8 (entW r.en)) 9 V).ok := rec_ok (rec_ok (encW0_ok r) _ _) _ _
theorem encW_ok (r : PR) : (encW r).ok := putN_ok _ _ (encW1_ok r _)
theorem numW_bad {W : Wr} (h : W.e ≠ 0) (t n : Int) : numW W t n = W := by
  unfold numW; split
  · rfl
  · exact if_pos (.inl h)
theorem recW_bad {W V : Wr} (t : Int) (h : V.e ≠ 0) : (recW W t V).e ≠ 0 := by
  unfold recW; split
  · assumption
  · simp [h]
theorem encE_plain {r : PR} (h : ¬ plainP r) : encE r = 238 ∧ encB r = [] := by
  have e : encE r = 238 := if_pos h
  exact ⟨e, if_neg (by rw [e]; decide)⟩
theorem encE_long {r : PR} (hp : plainP r) (h : ¬ conOK r.co ∨ (encW r).e ≠ 0 ∨ 4096 < (encW r).b.length) : encE r = 3 ∧ encB r = [] := by
  have e : encE r = 3 := by unfold encE; rw [if_neg (fun h => h hp), if_pos h]
  exact ⟨e, if_neg (by rw [e]; decide)⟩
theorem encE_good {r : PR} (hp : plainP r) (h1 : conOK r.co) (h2 : (encW r).e = 0) (h3 : ¬ 4096 < (encW r).b.length) : encE r = 0 ∧ encB r = (encW r).b := by
  have e : encE r = 0 := by unfold encE; rw [if_neg (fun h => h hp), if_neg (by rintro (h | h | h); exact h h1; exact h h2; exact h3 h)]
  exact ⟨e, if_pos e⟩

def h6_0 : HC := (.seq (.reg (.done [(2, (.inp 7)), (3, (.cst (.int .i64 0)))] none)) .ret)
@[simp] theorem h6_0_wp : type_of% (@wpH h6_0 _ h6_0.eq_1) := wpH h6_0.eq_1
def h6_1 : HC := (.seq (.reg (.done [(2, (.cst (.slice none 0 0))), (3, (.cst (.int .i64 3)))] none)) .ret)
@[simp] theorem h6_1_wp : type_of% (@wpH h6_1 _ h6_1.eq_1) := wpH h6_1.eq_1
def h6_2 : HC := (.seq (.br (.chk none (.bin .neq) (.cons (.inp 8) (.cons (.cst (.int .i64 0)) .nil)) (.bnd (.op (.bin .neq) (.cons (.inp 8) (.cons (.cst (.int .i64 0)) .nil))) (.chk (some ((.bv 0), false)) .lenL (.cons (.inp 7) .nil) (.chk (some ((.bv 0), false)) (.bin .gtr) (.cons (.op .lenL (.cons (.inp 7) .nil)) (.cons (.cst (.int .i64 4096)) .nil)) (.isb none (.bv 0) (.done [] (some (.ite (.bv 0) true (.cst (.bool true)) (.op (.bin .gtr) (.cons (.op .lenL (.cons (.inp 7) .nil)) (.cons (.cst (.int .i64 4096)) .nil))))))))))) h6_1 .skip) h6_0)
@[simp] theorem h6_2_wp : type_of% (@wpH h6_2 _ h6_2.eq_1) := wpH h6_2.eq_1
def h6_3 : HC := (.seq (.reg (.eff (.call 32) (.cons (.inp 6) .nil) (.chk none (.ext 0) (.cons (.bv 0) .nil) (.chk none (.ext 1) (.cons (.bv 0) .nil) (.done [(7, (.op (.ext 0) (.cons (.bv 0) .nil))), (8, (.op (.ext 1) (.cons (.bv 0) .nil)))] none))))) h6_2)
@[simp] theorem h6_3_wp : type_of% (@wpH h6_3 _ h6_3.eq_1) := wpH h6_3.eq_1
def h6_4 : HC := (.seq (.reg (.chk none (.fld 23) (.cons (.inp 1) .nil) (.eff (.ld false 1) (.cons (.op (.fld 23) (.cons (.inp 1) .nil)) .nil) (.eff (.bsl 3 1 1 #[(.int .i64 0)] [0]) (.cons (.bv 0) .nil) (.eff (.call 27) (.cons (.inp 6) (.cons (.cst (.int .i64 10)) (.cons (.bv 1) .nil))) (.done [] none)))))) h6_3)
@[simp] theorem h6_4_wp : type_of% (@wpH h6_4 _ h6_4.eq_1) := wpH h6_4.eq_1
def h6_5 : HC := (.seq (.reg (.eff (.call 30) (.cons (.inp 6) (.cons (.cst (.int .i64 9)) (.cons (.inp 4) .nil))) (.done [] none))) h6_4)
@[simp] theorem h6_5_wp : type_of% (@wpH h6_5 _ h6_5.eq_1) := wpH h6_5.eq_1
def h6_6 : HC := (.seq (.reg (.chk none (.fld 7) (.cons (.inp 1) .nil) (.eff (.ld true 5) (.cons (.op (.fld 7) (.cons (.inp 1) .nil)) .nil) (.eff (.call 31) (.cons (.bv 0) .nil) (.eff (.call 30) (.cons (.inp 6) (.cons (.cst (.int .i64 8)) (.cons (.bv 1) .nil))) (.done [] none)))))) h6_5)
@[simp] theorem h6_6_wp : type_of% (@wpH h6_6 _ h6_6.eq_1) := wpH h6_6.eq_1
def h6_7 : HC := (.seq (.reg (.chk none (.fld 5) (.cons (.inp 1) .nil) (.eff (.ld false 1) (.cons (.op (.fld 5) (.cons (.inp 1) .nil)) .nil) (.chk none (.fld 6) (.cons (.inp 1) .nil) (.eff (.ld false 1) (.cons (.op (.fld 6) (.cons (.inp 1) .nil)) .nil) (.eff (.bsl 3 2 1 #[(.int .i64 0)] [0, 1]) (.cons (.bv 0) (.cons (.bv 1) .nil)) (.eff (.call 27) (.cons (.inp 6) (.cons (.cst (.int .i64 6)) (.cons (.bv 2) .nil))) (.done [] none)))))))) h6_6)
@[simp] theorem h6_7_wp : type_of% (@wpH h6_7 _ h6_7.eq_1) := wpH h6_7.eq_1
def h6_8 : HC := (.seq (.reg (.chk none (.fld 4) (.cons (.inp 1) .nil) (.eff (.ld false 1) (.cons (.op (.fld 4) (.cons (.inp 1) .nil)) .nil) (.eff (.call 29) (.cons (.inp 6) (.cons (.cst (.int .i64 5)) (.cons (.bv 0) .nil))) (.done [] none))))) h6_7)
@[simp] theorem h6_8_wp : type_of% (@wpH h6_8 _ h6_8.eq_1) := wpH h6_8.eq_1
def h6_9 : HC := (.seq (.reg (.chk none (.fld 2) (.cons (.inp 1) .nil) (.eff (.ld false 1) (.cons (.op (.fld 2) (.cons (.inp 1) .nil)) .nil) (.chk none (.fld 3) (.cons (.inp 1) .nil) (.eff (.ld false 1) (.cons (.op (.fld 3) (.cons (.inp 1) .nil)) .nil) (.eff (.bsl 3 2 1 #[(.int .i64 0)] [0, 1]) (.cons (.bv 0) (.cons (.bv 1) .nil)) (.eff (.call 27) (.cons (.inp 6) (.cons (.cst (.int .i64 3)) (.cons (.bv 2) .nil))) (.done [] none)))))))) h6_8)
@[simp] theorem h6_9_wp : type_of% (@wpH h6_9 _ h6_9.eq_1) := wpH h6_9.eq_1
def h6_10 : HC := (.seq (.reg (.chk none (.fld 1) (.cons (.inp 1) .nil) (.eff (.ld false 1) (.cons (.op (.fld 1) (.cons (.inp 1) .nil)) .nil) (.eff (.call 28) (.cons (.inp 6) (.cons (.cst (.int .i64 2)) (.cons (.bv 0) .nil))) (.done [] none))))) h6_9)
@[simp] theorem h6_10_wp : type_of% (@wpH h6_10 _ h6_10.eq_1) := wpH h6_10.eq_1
def h6_11 : HC := (.seq (.reg (.chk none (.fld 0) (.cons (.inp 1) .nil) (.eff (.ld false 1) (.cons (.op (.fld 0) (.cons (.inp 1) .nil)) .nil) (.eff (.bsl 3 1 1 #[(.int .i64 0)] [0]) (.cons (.bv 0) .nil) (.eff (.call 27) (.cons (.inp 6) (.cons (.cst (.int .i64 1)) (.cons (.bv 1) .nil))) (.done [] none)))))) h6_10)
@[simp] theorem h6_11_wp : type_of% (@wpH h6_11 _ h6_11.eq_1) := wpH h6_11.eq_1
def h6_12 : HC := (.seq (.reg (.chk none (.build #[(.slice none 0 0), (.int .i64 0), (.int .i64 0)] [(0, 1), (1, 1), (2, 1)] []) .nil (.eff (.box 64) (.cons (.op (.build #[(.slice none 0 0), (.int .i64 0), (.int .i64 0)] [(0, 1), (1, 1), (2, 1)] []) .nil) .nil) (.done [(6, (.bv 0))] none)))) h6_11)
@[simp] theorem h6_12_wp : type_of% (@wpH h6_12 _ h6_12.eq_1) := wpH h6_12.eq_1
def h6_13 : HC := (.seq (.reg (.done [(2, (.cst (.slice none 0 0))), (3, (.cst (.int .i64 3)))] none)) .ret)
@[simp] theorem h6_13_wp : type_of% (@wpH h6_13 _ h6_13.eq_1) := wpH h6_13.eq_1
def h6_14 : HC := (.seq (.br (.chk none (.un .not) (.cons (.inp 5) .nil) (.done [] (some (.op (.un .not) (.cons (.inp 5) .nil))))) h6_13 .skip) h6_12)
@[simp] theorem h6_14_wp : type_of% (@wpH h6_14 _ h6_14.eq_1) := wpH h6_14.eq_1
def h6_15 : HC := (.seq (.reg (.chk none (.fld 12) (.cons (.inp 1) .nil) (.eff (.ld true 11) (.cons (.op (.fld 12) (.cons (.inp 1) .nil)) .nil) (.eff (.call 26) (.cons (.bv 0) .nil) (.chk none (.ext 0) (.cons (.bv 1) .nil) (.chk none (.ext 1) (.cons (.bv 1) .nil) (.done [(4, (.op (.ext 0) (.cons (.bv 1) .nil))), (5, (.op (.ext 1) (.cons (.bv 1) .nil)))] none))))))) h6_14)
@[simp] theorem h6_15_wp : type_of% (@wpH h6_15 _ h6_15.eq_1) := wpH h6_15.eq_1
def h6_16 : HC := (.seq (.reg (.done [(2, (.cst (.slice none 0 0))), (3, (.cst (.int .i64 238)))] none)) .ret)
@[simp] theorem h6_16_wp : type_of% (@wpH h6_16 _ h6_16.eq_1) := wpH h6_16.eq_1
def h6_17 : HC := (.seq (.br (.eff (.ld true 24) (.cons (.inp 1) .nil) (.eff (.call 25) (.cons (.bv 0) .nil) (.chk none (.un .not) (.cons (.bv 1) .nil) (.done [] (some (.op (.un .not) (.cons (.bv 1) .nil))))))) h6_16 .skip) h6_15)
@[simp] theorem h6_17_wp : type_of% (@wpH h6_17 _ h6_17.eq_1) := wpH h6_17.eq_1
def l6 : Lifted := ⟨[0, 1, 2, 3, 4, 5, 6, 7, 8], 75, [.slot 2, .slot 3], (.seq (.reg (.eff (.box 30) (.cons (.inp 0) .nil) (.done [(1, (.bv 0)), (2, (.cst (.slice none 0 0))), (3, (.cst (.int .i64 0)))] none))) h6_17)⟩
theorem l6_ok : liftFn T0 6 400 = some l6 := by kernel_rfl

def h5_0 : HC := (.seq (.reg (.done [(2, (.inp 5)), (3, (.cst (.int .i64 0)))] none)) .ret)
@[simp] theorem h5_0_wp : type_of% (@wpH h5_0 _ h5_0.eq_1) := wpH h5_0.eq_1
def h5_1 : HC := (.seq (.reg (.done [(2, (.cst (.slice none 0 0))), (3, (.cst (.int .i64 3)))] none)) .ret)
@[simp] theorem h5_1_wp : type_of% (@wpH h5_1 _ h5_1.eq_1) := wpH h5_1.eq_1
def h5_2 : HC := (.seq (.br (.chk none (.bin .neq) (.cons (.inp 6) (.cons (.cst (.int .i64 0)) .nil)) (.bnd (.op (.bin .neq) (.cons (.inp 6) (.cons (.cst (.int .i64 0)) .nil))) (.chk (some ((.bv 0), false)) .lenL (.cons (.inp 5) .nil) (.chk (some ((.bv 0), false)) (.bin .gtr) (.cons (.op .lenL (.cons (.inp 5) .nil)) (.cons (.cst (.int .i64 4096)) .nil)) (.isb none (.bv 0) (.done [] (some (.ite (.bv 0) true (.cst (.bool true)) (.op (.bin .gtr) (.cons (.op .lenL (.cons (.inp 5) .nil)) (.cons (.cst (.int .i64 4096)) .nil))))))))))) h5_1 .skip) h5_0)
@[simp] theorem h5_2_wp : type_of% (@wpH h5_2 _ h5_2.eq_1) := wpH h5_2.eq_1
def h5_3 : HC := (.seq (.reg (.eff (.call 24) (.cons (.inp 4) .nil) (.chk none (.ext 0) (.cons (.bv 0) .nil) (.chk none (.ext 1) (.cons (.bv 0) .nil) (.done [(5, (.op (.ext 0) (.cons (.bv 0) .nil))), (6, (.op (.ext 1) (.cons (.bv 0) .nil)))] none))))) h5_2)
@[simp] theorem h5_3_wp : type_of% (@wpH h5_3 _ h5_3.eq_1) := wpH h5_3.eq_1
def h5_4 : HC := (.seq (.reg (.chk none (.fld 23) (.cons (.inp 1) .nil) (.eff (.ld false 1) (.cons (.op (.fld 23) (.cons (.inp 1) .nil)) .nil) (.eff (.call 18) (.cons (.inp 4) (.cons (.cst (.int .i64 10)) (.cons (.bv 0) .nil))) (.done [] none))))) h5_3)
@[simp] theorem h5_4_wp : type_of% (@wpH h5_4 _ h5_4.eq_1) := wpH h5_4.eq_1
def h5_5 : HC := (.seq (.reg (.chk none (.fld 12) (.cons (.inp 1) .nil) (.eff (.ld true 11) (.cons (.op (.fld 12) (.cons (.inp 1) .nil)) .nil) (.eff (.call 23) (.cons (.bv 0) .nil) (.eff (.call 21) (.cons (.inp 4) (.cons (.cst (.int .i64 9)) (.cons (.bv 1) .nil))) (.done [] none)))))) h5_4)
@[simp] theorem h5_5_wp : type_of% (@wpH h5_5 _ h5_5.eq_1) := wpH h5_5.eq_1
def h5_6 : HC := (.seq (.reg (.chk none (.fld 7) (.cons (.inp 1) .nil) (.eff (.ld true 5) (.cons (.op (.fld 7) (.cons (.inp 1) .nil)) .nil) (.eff (.call 22) (.cons (.bv 0) .nil) (.eff (.call 21) (.cons (.inp 4) (.cons (.cst (.int .i64 8)) (.cons (.bv 1) .nil))) (.done [] none)))))) h5_5)
@[simp] theorem h5_6_wp : type_of% (@wpH h5_6 _ h5_6.eq_1) := wpH h5_6.eq_1
def h5_7 : HC := (.seq (.reg (.chk none (.fld 6) (.cons (.inp 1) .nil) (.eff (.ld false 1) (.cons (.op (.fld 6) (.cons (.inp 1) .nil)) .nil) (.eff (.call 18) (.cons (.inp 4) (.cons (.cst (.int .i64 7)) (.cons (.bv 0) .nil))) (.done [] none))))) h5_6)
@[simp] theorem h5_7_wp : type_of% (@wpH h5_7 _ h5_7.eq_1) := wpH h5_7.eq_1
def h5_8 : HC := (.seq (.reg (.chk none (.fld 5) (.cons (.inp 1) .nil) (.eff (.ld false 1) (.cons (.op (.fld 5) (.cons (.inp 1) .nil)) .nil) (.eff (.call 18) (.cons (.inp 4) (.cons (.cst (.int .i64 6)) (.cons (.bv 0) .nil))) (.done [] none))))) h5_7)
@[simp] theorem h5_8_wp : type_of% (@wpH h5_8 _ h5_8.eq_1) := wpH h5_8.eq_1
def h5_9 : HC := (.seq (.reg (.chk none (.fld 4) (.cons (.inp 1) .nil) (.eff (.ld false 1) (.cons (.op (.fld 4) (.cons (.inp 1) .nil)) .nil) (.eff (.call 20) (.cons (.inp 4) (.cons (.cst (.int .i64 5)) (.cons (.bv 0) .nil))) (.done [] none))))) h5_8)
@[simp] theorem h5_9_wp : type_of% (@wpH h5_9 _ h5_9.eq_1) := wpH h5_9.eq_1
def h5_10 : HC := (.seq (.reg (.chk none (.fld 3) (.cons (.inp 1) .nil) (.eff (.ld false 1) (.cons (.op (.fld 3) (.cons (.inp 1) .nil)) .nil) (.eff (.call 18) (.cons (.inp 4) (.cons (.cst (.int .i64 4)) (.cons (.bv 0) .nil))) (.done [] none))))) h5_9)
@[simp] theorem h5_10_wp : type_of% (@wpH h5_10 _ h5_10.eq_1) := wpH h5_10.eq_1
def h5_11 : HC := (.seq (.reg (.chk none (.fld 2) (.cons (.inp 1) .nil) (.eff (.ld false 1) (.cons (.op (.fld 2) (.cons (.inp 1) .nil)) .nil) (.eff (.call 18) (.cons (.inp 4) (.cons (.cst (.int .i64 3)) (.cons (.bv 0) .nil))) (.done [] none))))) h5_10)
@[simp] theorem h5_11_wp : type_of% (@wpH h5_11 _ h5_11.eq_1) := wpH h5_11.eq_1
def h5_12 : HC := (.seq (.reg (.chk none (.fld 1) (.cons (.inp 1) .nil) (.eff (.ld false 1) (.cons (.op (.fld 1) (.cons (.inp 1) .nil)) .nil) (.eff (.call 19) (.cons (.inp 4) (.cons (.cst (.int .i64 2)) (.cons (.bv 0) .nil))) (.done [] none))))) h5_11)
@[simp] theorem h5_12_wp : type_of% (@wpH h5_12 _ h5_12.eq_1) := wpH h5_12.eq_1
def h5_13 : HC := (.seq (.reg (.chk none (.fld 0) (.cons (.inp 1) .nil) (.eff (.ld false 1) (.cons (.op (.fld 0) (.cons (.inp 1) .nil)) .nil) (.eff (.call 18) (.cons (.inp 4) (.cons (.cst (.int .i64 1)) (.cons (.bv 0) .nil))) (.done [] none))))) h5_12)
@[simp] theorem h5_13_wp : type_of% (@wpH h5_13 _ h5_13.eq_1) := wpH h5_13.eq_1
def h5_14 : HC := (.seq (.reg (.chk none (.build #[(.slice none 0 0), (.int .i64 0), (.int .i64 0)] [(0, 1), (1, 1), (2, 1)] []) .nil (.eff (.box 52) (.cons (.op (.build #[(.slice none 0 0), (.int .i64 0), (.int .i64 0)] [(0, 1), (1, 1), (2, 1)] []) .nil) .nil) (.done [(4, (.bv 0))] none)))) h5_13)
@[simp] theorem h5_14_wp : type_of% (@wpH h5_14 _ h5_14.eq_1) := wpH h5_14.eq_1
def h5_15 : HC := (.seq (.reg (.done [(2, (.cst (.slice none 0 0))), (3, (.cst (.int .i64 238)))] none)) .ret)
@[simp] theorem h5_15_wp : type_of% (@wpH h5_15 _ h5_15.eq_1) := wpH h5_15.eq_1
def h5_16 : HC := (.seq (.br (.eff (.ld true 24) (.cons (.inp 1) .nil) (.eff (.call 17) (.cons (.bv 0) .nil) (.chk none (.un .not) (.cons (.bv 1) .nil) (.done [] (some (.op (.un .not) (.cons (.bv 1) .nil))))))) h5_15 .skip) h5_14)
@[simp] theorem h5_16_wp : type_of% (@wpH h5_16 _ h5_16.eq_1) := wpH h5_16.eq_1
def l5 : Lifted := ⟨[0, 1, 2, 3, 4, 5, 6], 67, [.slot 2, .slot 3], (.seq (.reg (.eff (.box 30) (.cons (.inp 0) .nil) (.done [(1, (.bv 0)), (2, (.cst (.slice none 0 0))), (3, (.cst (.int .i64 0)))] none))) h5_16)⟩
theorem l5_ok : liftFn T0 5 400 = some l5 := by kernel_rfl
set_option maxHeartbeats 2000000 in
theorem Encode_spec (r : PR) (ev cv : Value) (wvs : List Value) (w0 w : World) (A : Asn) (hr : r.ok) (h1 : WR w0 A ev r.en.ws) (h2 : CV w0 A cv wvs r.co.es) (s : St w0 A w) :
    CallW Try.prog 6 [.agg (r.cs ev cv).toArray] (fun x w' => ∃ v, x = .tuple #[v, .int .i64 (encE r)] ∧ St w0 (A * byA v (encB r)) w') w := by
  have h1' := h1
  have h2' := h2
  obtain ⟨ea, en, rfl⟩ := h1.val
  obtain ⟨ca, cn, rfl⟩ := h2.row.val
  refine callW_of_lift l6_ok (by simp [l6]) ?_
  simp -implicitDefEqProofs [l6, Instr.fill, Value.cells]
  refine eff_box s fun b w1 s1 => ?_
  simp -implicitDefEqProofs [Instr.fill, Value.cells]
  have s1 : St w0 (A * pt b (.cells (r.cs (.slice ea r.en.ws.length en) (.slice ca r.co.es.length cn)).toArray 30 (0, 0))) w1 := s1
  obtain ⟨D, hD⟩ : ∃ D, A * pt b (.cells (r.cs (.slice ea r.en.ws.length en) (.slice ca r.co.es.length cn)).toArray 30 (0, 0)) = D := ⟨_, rfl⟩
  have hDA : ∀ w, St w0 D w → St w0 A w := fun w h => by rw [← hD] at h; exact h.drop
  have f0 : ∀ {w : World}, St w0 D w → ∀ j u, (r.cs (.slice ea r.en.ws.length en) (.slice ca r.co.es.length cn))[j]? = some u → w.cell? ⟨b, j, none⟩ = some u := fun h j u hu => by
    rw [← hD] at h
    have := h.row_cells j u hu; simpa using this
  have out : ∀ {Z : Asn} {w : World}, St w0 (D * Z) w → St w0 (A * Z) w := fun h => by rw [← hD] at h; exact h.swap.drop
  rw [hD] at s1
  refine eff_ldcs (vs := r.cs (.slice ea r.en.ws.length en) (.slice ca r.co.es.length cn)) (fun j u hu => by simpa using f0 s1 j u hu) rfl ?_
  simp -implicitDefEqProofs
  refine eff_call ((plain_spec r _ _ w0 w1 D (h1'.mono hDA) ⟨_, _, rfl⟩ s1).mono ?_)
  rintro _ w2 ⟨rfl, s2⟩
  by_cases hp : plainP r
  case neg =>
    simp -implicitDefEqProofs [hp, (encE_plain hp).1, (encE_plain hp).2]
    simpa using byA_nil (hDA _ s2)
  simp -implicitDefEqProofs [hp]
  refine eff_ldcs (vs := r.co.cs (.slice ca r.co.es.length cn)) (fun j u hu => f0 s2 _ u (pr_contract hu)) rfl ?_
  simp -implicitDefEqProofs
  refine eff_call ((contract_spec r.co _ wvs w0 w2 D hr.co (h2'.mono hDA) s2).mono ?_)
  rintro _ w3 (⟨hc, p2, rfl, s3⟩ | ⟨hc, rfl, s3⟩)
  case inr =>
    simp -implicitDefEqProofs [(encE_long hp (.inl hc)).1, (encE_long hp (.inl hc)).2]
    simpa using byA_nil (hDA _ s3)
  simp -implicitDefEqProofs [Instr.fill, Value.cells]
  refine eff_box s3 fun p w4 s4 => ?_
  simp -implicitDefEqProofs
  have s4 := new_writer s4
  refine eff_ldc (v := .int .i64 r.kind) (f0 s4.drop.drop 0 _ rfl) ?_
  simp -implicitDefEqProofs
  refine eff_bslO (vs := ints [r.kind]) s4 (by simp [ints, Value.oneCell']) rfl rfl (by decide) fun sv w5 s5 => ?_
  simp -implicitDefEqProofs
  have s5 := s5.swap
  refine eff_call ((ints_spec p Wr.new 1 [r.kind] sv w0 w5 _ (by decide) (by simp) Wr.new_ok (row_own s5.drop) s5).mono fun _ w6 s6 => ?_)
  simp -implicitDefEqProofs
  have k0 := putN_ok [r.kind] 1 Wr.new_ok
  have s6 := s6.swap.drop
  refine eff_ldc (v := .string (mk r.nm)) (f0 s6.drop.drop 1 _ rfl) ?_
  simp -implicitDefEqProofs
  refine eff_call ((Text_spec p _ 2 r.nm w0 w6 _ k0 (by have := hr.nm; omega) s6).mono fun _ w7 s7 => ?_)
  simp -implicitDefEqProofs
  have k1 := put_ok k0 2 r.nm
  refine eff_ldc (v := .int .i64 r.fr) (f0 s7.drop.drop 2 _ rfl) ?_
  simp -implicitDefEqProofs
  refine eff_ldc (v := .int .i64 r.to') (f0 s7.drop.drop 3 _ rfl) ?_
  simp -implicitDefEqProofs
  refine eff_bslO (vs := ints [r.fr, r.to']) s7 (by simp [ints, Value.oneCell']) rfl rfl (by decide) fun sv2 w8 s8 => ?_
  simp -implicitDefEqProofs
  have s8 := s8.swap
  refine eff_call ((ints_spec p _ 3 [r.fr, r.to'] sv2 w0 w8 _ (by decide) (by simp) k1 (row_own s8.drop) s8).mono fun _ w9 s9 => ?_)
  simp -implicitDefEqProofs
  have k2 := putN_ok [r.fr, r.to'] 3 k1
  have s9 := s9.swap.drop
  refine eff_ldc (v := .int .u64 r.coins) (f0 s9.drop.drop 4 _ rfl) ?_
  simp -implicitDefEqProofs
  refine eff_call ((Number_spec p _ 5 r.coins w0 w9 _ k2 hr.coins s9).mono fun _ w10 s10 => ?_)
  simp -implicitDefEqProofs
  have k3 := num_ok k2 5 r.coins
  refine eff_ldc (v := .int .i64 r.item) (f0 s10.drop.drop 5 _ rfl) ?_
  simp -implicitDefEqProofs
  refine eff_ldc (v := .int .i64 r.num) (f0 s10.drop.drop 6 _ rfl) ?_
  simp -implicitDefEqProofs
  refine eff_bslO (vs := ints [r.item, r.num]) s10 (by simp [ints, Value.oneCell']) rfl rfl (by decide) fun sv3 w11 s11 => ?_
  simp -implicitDefEqProofs
  have s11 := s11.swap
  refine eff_call ((ints_spec p _ 6 [r.item, r.num] sv3 w0 w11 _ (by decide) (by simp) k3 (row_own s11.drop) s11).mono fun _ w12 s12 => ?_)
  simp -implicitDefEqProofs
  have s12 : St w0 (D * wrA 64 p2 (conW r.co) * wrA 64 p (encW0 r)) w12 := s12.swap.drop
  refine eff_ldcs (vs := r.en.cs (.slice ea r.en.ws.length en)) (fun j u hu => f0 s12.drop.drop _ u (pr_entry hu)) rfl ?_
  simp -implicitDefEqProofs
  refine eff_call ((entry_spec r.en _ w0 w12 _ hr.en (h1'.mono fun w s => hDA _ s.drop.drop) s12).mono ?_)
  rintro _ w13 ⟨p3, rfl, s13⟩
  simp -implicitDefEqProofs
  refine eff_call ((Record_spec p p3 (encW0 r) (entW r.en) 8 w0 w13 _ (encW0_ok r) (entW_ok _) s13.swap).mono fun _ w14 s14 => ?_)
  simp -implicitDefEqProofs
  have s14 : St w0 (D * wrA 64 p2 (conW r.co) * wrA 64 p (recW (encW0 r) 8 (entW r.en))) w14 := s14.swap.drop
  refine eff_call ((Record_spec p p2 _ (conW r.co) 9 w0 w14 _ (rec_ok (encW0_ok r) _ _) (conW_ok _) s14).mono fun _ w15 s15 => ?_)
  simp -implicitDefEqProofs
  refine eff_ldc (v := .int .i64 r.ticks) (f0 s15.drop.drop 23 _ rfl) ?_
  simp -implicitDefEqProofs
  refine eff_bslO (vs := ints [r.ticks]) s15 (by simp [ints, Value.oneCell']) rfl rfl (by decide) fun sv4 w16 s16 => ?_
  simp -implicitDefEqProofs
  have s16 := s16.swap
  refine eff_call ((ints_spec p _ 10 [r.ticks] sv4 w0 w16 _ (by decide) (by simp) (encW1_ok r _) (row_own s16.drop) s16).mono fun _ w17 s17 => ?_)
  simp -implicitDefEqProofs
  have s17 : St w0 (D * wrA 64 p2 (conW r.co) * wrA 64 p (encW r)) w17 := s17.swap.drop
  refine eff_call ((Form_spec p (encW r) w0 w17 _ (encW_ok r) s17).mono ?_)
  rintro _ w18 (⟨hbad, rfl, s18⟩ | ⟨hok, v, rfl, s18⟩)
  · simp -implicitDefEqProofs [hbad, (encE_long hp (.inr (.inl hbad))).1, (encE_long hp (.inr (.inl hbad))).2]
    simpa using byA_nil (hDA _ s18.drop.drop)
  · obtain ⟨va, vc, rfl, _, _⟩ := s18.own_val
    simp -implicitDefEqProofs
    refine cndI (fun hl => ?_) (fun hl => ?_)
    · have hl : 4096 < (encW r).b.length := by simp at hl; omega
      simp -implicitDefEqProofs [(encE_long hp (.inr (.inr hl))).1, (encE_long hp (.inr (.inr hl))).2]
      simpa using byA_nil (hDA _ s18.drop.drop.drop)
    · have hl : ¬ 4096 < (encW r).b.length := by simp at hl; omega
      simp -implicitDefEqProofs [(encE_good hp hc hok hl).1, (encE_good hp hc hok hl).2]
      exact out (s18.cut (wrA 64 p2 (conW r.co) * wrA 64 p (encW r)) (by ac_rfl))
set_option maxHeartbeats 2000000 in
theorem rEncode_spec (r : PR) (ev cv : Value) (wvs : List Value) (w0 w : World) (A : Asn) (hr : r.ok) (h1 : WR w0 A ev r.en.ws) (h2 : CV w0 A cv wvs r.co.es) (s : St w0 A w) :
    CallW Try.prog 5 [.agg (r.cs ev cv).toArray] (fun x w' => ∃ v, x = .tuple #[v, .int .i64 (encE r)] ∧ St w0 (A * byA v (encB r)) w') w := by
  have h1' := h1
  have h2' := h2
  obtain ⟨ea, en, rfl⟩ := h1.val
  obtain ⟨ca, cn, rfl⟩ := h2.row.val
  refine callW_of_lift l5_ok (by simp [l5]) ?_
  simp -implicitDefEqProofs [l5, Instr.fill, Value.cells]
  refine eff_box s fun b w1 s1 => ?_
  simp -implicitDefEqProofs [Instr.fill, Value.cells]
  have s1 : St w0 (A * pt b (.cells (r.cs (.slice ea r.en.ws.length en) (.slice ca r.co.es.length cn)).toArray 30 (0, 0))) w1 := s1
  obtain ⟨D, hD⟩ : ∃ D, A * pt b (.cells (r.cs (.slice ea r.en.ws.length en) (.slice ca r.co.es.length cn)).toArray 30 (0, 0)) = D := ⟨_, rfl⟩
  have hDA : ∀ w, St w0 D w → St w0 A w := fun w h => by rw [← hD] at h; exact h.drop
  have f0 : ∀ {w : World}, St w0 D w → ∀ j u, (r.cs (.slice ea r.en.ws.length en) (.slice ca r.co.es.length cn))[j]? = some u → w.cell? ⟨b, j, none⟩ = some u := fun h j u hu => by
    rw [← hD] at h
    have := h.row_cells j u hu; simpa using this
  have out : ∀ {Z : Asn} {w : World}, St w0 (D * Z) w → St w0 (A * Z) w := fun h => by rw [← hD] at h; exact h.swap.drop
  rw [hD] at s1
  refine eff_ldcs (vs := r.cs (.slice ea r.en.ws.length en) (.slice ca r.co.es.length cn)) (fun j u hu => by simpa using f0 s1 j u hu) rfl ?_
  simp -implicitDefEqProofs
  refine eff_call ((Plain_spec r _ _ wvs w0 w1 D (h1'.mono hDA) (h2'.mono hDA) s1).mono ?_)
  rintro _ w2 ⟨rfl, s2⟩
  by_cases hp : plainP r
  case neg =>
    simp -implicitDefEqProofs [hp, (encE_plain hp).1, (encE_plain hp).2]
    simpa using byA_nil (hDA _ s2)
  simp -implicitDefEqProofs [hp, Instr.fill, Value.cells]
  refine eff_box s2 fun p w4 s4 => ?_
  simp -implicitDefEqProofs
  have s4 := new_writer s4
  have k0 := Wr.new_ok
  refine eff_ldc (v := .int .i64 r.kind) (f0 s4.drop 0 _ rfl) ?_
  simp -implicitDefEqProofs
  refine eff_call ((put_rspec p Wr.new 1 r.kind w0 w4 D k0 s4).mono fun _ w5 s5 => ?_)
  simp -implicitDefEqProofs
  have k1 := num_ok k0 1 (toU r.kind)
  refine eff_ldc (v := .string (mk r.nm)) (f0 s5.drop 1 _ rfl) ?_
  simp -implicitDefEqProofs
  refine eff_call ((rText_spec p _ 2 r.nm w0 w5 _ k1 (by have := hr.nm; omega) s5).mono fun _ w6 s6 => ?_)
  simp -implicitDefEqProofs
  have k2 := put_ok k1 2 r.nm
  refine eff_ldc (v := .int .i64 r.fr) (f0 s6.drop 2 _ rfl) ?_
  simp -implicitDefEqProofs
  refine eff_call ((put_rspec p _ 3 r.fr w0 w6 D k2 s6).mono fun _ w7 s7 => ?_)
  simp -implicitDefEqProofs
  have k3 := num_ok k2 3 (toU r.fr)
  refine eff_ldc (v := .int .i64 r.to') (f0 s7.drop 3 _ rfl) ?_
  simp -implicitDefEqProofs
  refine eff_call ((put_rspec p _ 4 r.to' w0 w7 D k3 s7).mono fun _ w8 s8 => ?_)
  simp -implicitDefEqProofs
  have k4 := num_ok k3 4 (toU r.to')
  refine eff_ldc (v := .int .u64 r.coins) (f0 s8.drop 4 _ rfl) ?_
  simp -implicitDefEqProofs
  refine eff_call ((rNumber_spec p _ 5 r.coins w0 w8 _ k4 hr.coins s8).mono fun _ w9 s9 => ?_)
  simp -implicitDefEqProofs
  have k5 := num_ok k4 5 r.coins
  refine eff_ldc (v := .int .i64 r.item) (f0 s9.drop 5 _ rfl) ?_
  simp -implicitDefEqProofs
  refine eff_call ((put_rspec p _ 6 r.item w0 w9 D k5 s9).mono fun _ w10 s10 => ?_)
  simp -implicitDefEqProofs
  have k6 := num_ok k5 6 (toU r.item)
  refine eff_ldc (v := .int .i64 r.num) (f0 s10.drop 6 _ rfl) ?_
  simp -implicitDefEqProofs
  refine eff_call ((put_rspec p _ 7 r.num w0 w10 D k6 s10).mono fun _ w11 s11 => ?_)
  simp -implicitDefEqProofs
  have s11 : St w0 (D * wrA 52 p (encW0 r)) w11 := s11
  refine eff_ldcs (vs := r.en.cs (.slice ea r.en.ws.length en)) (fun j u hu => f0 s11.drop _ u (pr_entry hu)) rfl ?_
  simp -implicitDefEqProofs
  refine eff_call ((rentry_spec r.en _ w0 w11 _ hr.en (h1'.mono fun w s => hDA _ s.drop) s11).mono ?_)
  rintro _ w13 ⟨p3, rfl, s13⟩
  simp -implicitDefEqProofs
  refine eff_call ((rRecord_spec p p3 (encW0 r) (entW r.en) 8 w0 w13 _ (encW0_ok r) (entW_ok _) s13.swap).mono fun _ w14 s14 => ?_)
  simp -implicitDefEqProofs
  have s14 : St w0 (D * wrA 52 p (recW (encW0 r) 8 (entW r.en))) w14 := s14.swap.drop
  refine eff_ldcs (vs := r.co.cs (.slice ca r.co.es.length cn)) (fun j u hu => f0 s14.drop _ u (pr_contract hu)) rfl ?_
  simp -implicitDefEqProofs
  refine eff_call ((rcontract_spec r.co _ wvs w0 w14 _ hr.co (h2'.mono fun w s => hDA _ s.drop) s14).mono ?_)
  rintro _ w15 ⟨p2, V, rfl, hV, hVc, s15⟩
  simp -implicitDefEqProofs
  refine eff_call ((rRecord_spec p p2 _ V 9 w0 w15 _ (rec_ok (encW0_ok r) _ _) hV s15.swap).mono fun _ w16 s16 => ?_)
  simp -implicitDefEqProofs
  refine eff_ldc (v := .int .i64 r.ticks) (f0 s16.drop.drop 23 _ rfl) ?_
  simp -implicitDefEqProofs
  refine eff_call ((put_rspec p _ 10 r.ticks w0 w16 _ (encW1_ok r _) s16).mono fun _ w17 s17 => ?_)
  simp -implicitDefEqProofs
  rcases hVc with ⟨hc, rfl⟩ | ⟨hc, hVe⟩
  case inr =>
    have hb := recW_bad (W := recW (encW0 r) 8 (entW r.en)) 9 hVe
    rw [numW_bad hb] at s17
    refine eff_call ((rForm_spec p _ w0 w17 _ (encW1_ok r V) s17).mono ?_)
    rintro _ w18 (⟨hbad, rfl, s18⟩ | ⟨hok, v, rfl, s18⟩)
    · simp -implicitDefEqProofs [hbad, (encE_long hp (.inl hc)).1, (encE_long hp (.inl hc)).2]
      simpa using byA_nil (hDA _ s18.drop.drop)
    · exact absurd hok hb
  have s17 : St w0 (D * wrA 52 p2 (conW r.co) * wrA 52 p (encW r)) w17 := s17
  refine eff_call ((rForm_spec p (encW r) w0 w17 _ (encW_ok r) s17).mono ?_)
  rintro _ w18 (⟨hbad, rfl, s18⟩ | ⟨hok, v, rfl, s18⟩)
  · simp -implicitDefEqProofs [hbad, (encE_long hp (.inr (.inl hbad))).1, (encE_long hp (.inr (.inl hbad))).2]
    simpa using byA_nil (hDA _ s18.drop.drop)
  · obtain ⟨va, vc, rfl, _, _⟩ := s18.own_val
    simp -implicitDefEqProofs
    refine cndI (fun hl => ?_) (fun hl => ?_)
    · have hl : 4096 < (encW r).b.length := by simp at hl; omega
      simp -implicitDefEqProofs [(encE_long hp (.inr (.inr hl))).1, (encE_long hp (.inr (.inr hl))).2]
      simpa using byA_nil (hDA _ s18.drop.drop.drop)
    · have hl : ¬ 4096 < (encW r).b.length := by simp at hl; omega
      simp -implicitDefEqProofs [(encE_good hp hc hok hl).1, (encE_good hp hc hok hl).2]
      exact out (s18.cut (wrA 52 p2 (conW r.co) * wrA 52 p (encW r)) (by ac_rfl))
end Go.HL.Sr

namespace Go.HL.Sr
open Go.HL Go.HL.Tl Go.Proofs
set_option maxRecDepth 4000
set_option linter.unusedSimpArgs false
set_option linter.unusedVariables false
attribute [local irreducible] EffW
def whole : Int := 18446744073709551615
def takeR (bad : Bool) (F : Flds) (tag : Int) : Int × Bool := (IntKind.i64.wrap (numR bad F tag whole).1, (numR bad F tag whole).2)
def wishF (x : List UInt8) : Int := IntKind.i64.wrap (rs x 0).1
def recE (bad : Bool) (F : Flds) : PE × Bool :=
  (⟨(takeR bad F 1).1, (takeR (takeR bad F 1).2 F 2).1, (numR (takeR (takeR bad F 1).2 F 2).2 F 3 whole).1, (numR (numR (takeR (takeR bad F 1).2 F 2).2 F 3 whole).2 F 4 whole).1,
    (lstR (numR (numR (takeR (takeR bad F 1).2 F 2).2 F 3 whole).2 F 4 whole).2 F 5 1048576).1.map wishF⟩, (lstR (numR (numR (takeR (takeR bad F 1).2 F 2).2 F 3 whole).2 F 4 whole).2 F 5 1048576).2)
theorem numR_bd (bad : Bool) (F : Flds) (tag : Int) : 0 ≤ (numR bad F tag whole).1 ∧ (numR bad F tag whole).1 < 18446744073709551616 := by
  unfold numR
  split
  · exact ⟨Int.le_refl 0, by simp⟩
  · split
    · exact ⟨Int.le_refl 0, by simp⟩
    split
    · exact ⟨Int.le_refl 0, by simp⟩
    · rename_i h
      unfold whole at h
      simp only
      omega
theorem recE_ok {F : Flds} (hO : OKF F) (bad : Bool) : (recE bad F).1.ok := ⟨numR_bd _ _ _, numR_bd _ _ _, by simp only [recE, List.length_map]; exact (lstR_ok hO _ _).1⟩

def h43_0 : HC := (.seq (.reg (.eff (.call 45) (.cons (.inp 0) (.cons (.inp 1) (.cons (.cst (.int .u64 18446744073709551615)) .nil))) (.chk none (.convI .i64) (.cons (.bv 0) .nil) (.done [(2, (.op (.convI .i64) (.cons (.bv 0) .nil)))] none)))) .ret)
@[simp] theorem h43_0_wp : type_of% (@wpH h43_0 _ h43_0.eq_1) := wpH h43_0.eq_1
def l43 : Lifted := ⟨[0, 1, 4], 9, [.slot 2], (.seq (.reg (.done [(2, (.cst (.int .i64 0)))] none)) h43_0)⟩
theorem l43_ok : liftFn T0 43 400 = some l43 := by kernel_rfl

def h35_0 : HC := (.seq (.reg (.eff (.call 37) (.cons (.inp 0) (.cons (.inp 1) (.cons (.cst (.int .u64 18446744073709551615)) .nil))) (.chk none (.convI .i64) (.cons (.bv 0) .nil) (.done [(2, (.op (.convI .i64) (.cons (.bv 0) .nil)))] none)))) .ret)
@[simp] theorem h35_0_wp : type_of% (@wpH h35_0 _ h35_0.eq_1) := wpH h35_0.eq_1
def l35 : Lifted := ⟨[0, 1, 4], 9, [.slot 2], (.seq (.reg (.done [(2, (.cst (.int .i64 0)))] none)) h35_0)⟩
theorem l35_ok : liftFn T0 35 400 = some l35 := by kernel_rfl

def h46_0 : HC := (.seq (.reg (.eff (.ld true 5) (.cons (.inp 2) .nil) (.eff (.st 5) (.cons (.inp 1) (.cons (.bv 0) .nil)) (.done [] none)))) .ret)
@[simp] theorem h46_0_wp : type_of% (@wpH h46_0 _ h46_0.eq_1) := wpH h46_0.eq_1
def h46_1 : HC := (.reg (.chk none (.bin .add) (.cons (.inp 7) (.cons (.cst (.int .i64 1)) .nil)) (.done [(7, (.op (.bin .add) (.cons (.inp 7) (.cons (.cst (.int .i64 1)) .nil))))] none)))
@[simp] theorem h46_1_wp : type_of% (@wpH h46_1 _ h46_1.eq_1) := wpH h46_1.eq_1
def h46_2 : HC := (.reg (.chk none (.fld 4) (.cons (.inp 2) .nil) (.eff (.ld false 1) (.cons (.op (.fld 4) (.cons (.inp 2) .nil)) .nil) (.chk none (.convI .i64) (.cons (.inp 4) .nil) (.eff (.bsl 3 1 1 #[(.int .i64 0)] [0]) (.cons (.op (.convI .i64) (.cons (.inp 4) .nil)) .nil) (.eff (.app 23 23 3 1 8 (.int .i64 0)) (.cons (.bv 0) (.cons (.bv 1) .nil)) (.chk none (.fld 4) (.cons (.inp 2) .nil) (.eff (.st 1) (.cons (.op (.fld 4) (.cons (.inp 2) .nil)) (.cons (.bv 2) .nil)) (.done [] none)))))))))
@[simp] theorem h46_2_wp : type_of% (@wpH h46_2 _ h46_2.eq_1) := wpH h46_2.eq_1
def h46_3 : HC := (.seq (.reg (.eff (.call 74) (.cons (.inp 3) (.cons (.cst (.int .i64 0)) .nil)) (.chk none (.ext 0) (.cons (.bv 0) .nil) (.chk none (.ext 1) (.cons (.bv 0) .nil) (.chk none (.ext 2) (.cons (.bv 0) .nil) (.done [(4, (.op (.ext 0) (.cons (.bv 0) .nil)))] none)))))) h46_2)
@[simp] theorem h46_3_wp : type_of% (@wpH h46_3 _ h46_3.eq_1) := wpH h46_3.eq_1
def h46_4 : HC := (.seq (.reg (.chk none (.idxL 1) (.cons (.inp 5) (.cons (.inp 7) .nil)) (.eff (.ld false 1) (.cons (.op (.idxL 1) (.cons (.inp 5) (.cons (.inp 7) .nil))) .nil) (.done [(3, (.bv 0))] none)))) h46_3)
@[simp] theorem h46_4_wp : type_of% (@wpH h46_4 _ h46_4.eq_1) := wpH h46_4.eq_1
def h46_5 : HC := (.seq (.block 1 h46_4) h46_1)
@[simp] theorem h46_5_wp : type_of% (@wpH h46_5 _ h46_5.eq_1) := wpH h46_5.eq_1
def h46_6 : HC := (.seq (.br (.chk none (.bin .lss) (.cons (.inp 7) (.cons (.inp 6) .nil)) (.done [] (some (.op (.bin .lss) (.cons (.inp 7) (.cons (.inp 6) .nil)))))) .skip (.exit 0)) h46_5)
@[simp] theorem h46_6_wp : type_of% (@wpH h46_6 _ h46_6.eq_1) := wpH h46_6.eq_1
def h46_7 : HC := (.loop h46_6)
@[simp] theorem h46_7_wp : type_of% (@wpH h46_7 _ h46_7.eq_1) := wpH h46_7.eq_1
def h46_8 : HC := (.seq (.block 0 h46_7) h46_0)
@[simp] theorem h46_8_wp : type_of% (@wpH h46_8 _ h46_8.eq_1) := wpH h46_8.eq_1
def h46_9 : HC := (.seq (.reg (.eff (.call 76) (.cons (.inp 0) (.cons (.cst (.int .i64 5)) (.cons (.cst (.int .i64 1048576)) .nil))) (.chk none .lenL (.cons (.bv 0) .nil) (.done [(5, (.bv 0)), (6, (.op .lenL (.cons (.bv 0) .nil))), (7, (.cst (.int .i64 0)))] none)))) h46_8)
@[simp] theorem h46_9_wp : type_of% (@wpH h46_9 _ h46_9.eq_1) := wpH h46_9.eq_1
def h46_10 : HC := (.seq (.reg (.eff (.call 43) (.cons (.inp 0) (.cons (.cst (.int .i64 1)) .nil)) (.eff (.call 43) (.cons (.inp 0) (.cons (.cst (.int .i64 2)) .nil)) (.eff (.call 45) (.cons (.inp 0) (.cons (.cst (.int .i64 3)) (.cons (.cst (.int .u64 18446744073709551615)) .nil))) (.eff (.call 45) (.cons (.inp 0) (.cons (.cst (.int .i64 4)) (.cons (.cst (.int .u64 18446744073709551615)) .nil))) (.chk none (.build #[(.int .i64 0), (.int .i64 0), (.int .u64 0), (.int .u64 0), (.slice none 0 0)] [(0, 1), (1, 1), (2, 1), (3, 1), (4, 1)] [0, 1, 2, 3]) (.cons (.bv 0) (.cons (.bv 1) (.cons (.bv 2) (.cons (.bv 3) .nil)))) (.eff (.new 25 (.agg #[(.int .i64 0), (.int .i64 0), (.int .u64 0), (.int .u64 0), (.slice none 0 0)])) .nil (.eff (.st 5) (.cons (.bv 4) (.cons (.op (.build #[(.int .i64 0), (.int .i64 0), (.int .u64 0), (.int .u64 0), (.slice none 0 0)] [(0, 1), (1, 1), (2, 1), (3, 1), (4, 1)] [0, 1, 2, 3]) (.cons (.bv 0) (.cons (.bv 1) (.cons (.bv 2) (.cons (.bv 3) .nil))))) .nil)) (.done [(2, (.bv 4))] none))))))))) h46_9)
@[simp] theorem h46_10_wp : type_of% (@wpH h46_10 _ h46_10.eq_1) := wpH h46_10.eq_1
def l46 : Lifted := ⟨[0, 2, 3, 5, 6, 19, 20, 21], 40, [.cell 1 true 5], (.seq (.reg (.eff (.new 25 (.agg #[(.int .i64 0), (.int .i64 0), (.int .u64 0), (.int .u64 0), (.slice none 0 0)])) .nil (.done [(1, (.bv 0))] none))) h46_10)⟩
theorem l46_ok : liftFn T0 46 400 = some l46 := by kernel_rfl

def h38_0 : HC := (.seq (.reg (.eff (.ld true 5) (.cons (.inp 2) .nil) (.eff (.st 5) (.cons (.inp 1) (.cons (.bv 0) .nil)) (.done [] none)))) .ret)
@[simp] theorem h38_0_wp : type_of% (@wpH h38_0 _ h38_0.eq_1) := wpH h38_0.eq_1
def h38_1 : HC := (.reg (.chk none (.bin .add) (.cons (.inp 4) (.cons (.cst (.int .i64 1)) .nil)) (.done [(4, (.op (.bin .add) (.cons (.inp 4) (.cons (.cst (.int .i64 1)) .nil))))] none)))
@[simp] theorem h38_1_wp : type_of% (@wpH h38_1 _ h38_1.eq_1) := wpH h38_1.eq_1
def h38_2 : HC := (.reg (.chk none (.fld 4) (.cons (.inp 2) .nil) (.eff (.ld false 1) (.cons (.op (.fld 4) (.cons (.inp 2) .nil)) .nil) (.chk none (.convI .i64) (.cons (.inp 5) .nil) (.eff (.bsl 3 1 1 #[(.int .i64 0)] [0]) (.cons (.op (.convI .i64) (.cons (.inp 5) .nil)) .nil) (.eff (.app 23 23 3 1 8 (.int .i64 0)) (.cons (.bv 0) (.cons (.bv 1) .nil)) (.chk none (.fld 4) (.cons (.inp 2) .nil) (.eff (.st 1) (.cons (.op (.fld 4) (.cons (.inp 2) .nil)) (.cons (.bv 2) .nil)) (.done [] none)))))))))
@[simp] theorem h38_2_wp : type_of% (@wpH h38_2 _ h38_2.eq_1) := wpH h38_2.eq_1
def h38_3 : HC := (.seq (.reg (.chk none (.idxL 1) (.cons (.inp 3) (.cons (.inp 4) .nil)) (.eff (.ld false 1) (.cons (.op (.idxL 1) (.cons (.inp 3) (.cons (.inp 4) .nil))) .nil) (.eff (.call 67) (.cons (.bv 0) (.cons (.cst (.int .i64 0)) .nil)) (.chk none (.ext 0) (.cons (.bv 1) .nil) (.chk none (.ext 1) (.cons (.bv 1) .nil) (.chk none (.ext 2) (.cons (.bv 1) .nil) (.done [(5, (.op (.ext 0) (.cons (.bv 1) .nil)))] none)))))))) h38_2)
@[simp] theorem h38_3_wp : type_of% (@wpH h38_3 _ h38_3.eq_1) := wpH h38_3.eq_1
def h38_4 : HC := (.seq (.block 1 h38_3) h38_1)
@[simp] theorem h38_4_wp : type_of% (@wpH h38_4 _ h38_4.eq_1) := wpH h38_4.eq_1
def h38_5 : HC := (.seq (.br (.chk none .lenL (.cons (.inp 3) .nil) (.chk none (.bin .lss) (.cons (.inp 4) (.cons (.op .lenL (.cons (.inp 3) .nil)) .nil)) (.done [] (some (.op (.bin .lss) (.cons (.inp 4) (.cons (.op .lenL (.cons (.inp 3) .nil)) .nil))))))) .skip (.exit 0)) h38_4)
@[simp] theorem h38_5_wp : type_of% (@wpH h38_5 _ h38_5.eq_1) := wpH h38_5.eq_1
def h38_6 : HC := (.loop h38_5)
@[simp] theorem h38_6_wp : type_of% (@wpH h38_6 _ h38_6.eq_1) := wpH h38_6.eq_1
def h38_7 : HC := (.seq (.block 0 h38_6) h38_0)
@[simp] theorem h38_7_wp : type_of% (@wpH h38_7 _ h38_7.eq_1) := wpH h38_7.eq_1
def h38_8 : HC := (.seq (.reg (.done [(4, (.cst (.int .i64 0)))] none)) h38_7)
@[simp] theorem h38_8_wp : type_of% (@wpH h38_8 _ h38_8.eq_1) := wpH h38_8.eq_1
def h38_9 : HC := (.seq (.reg (.eff (.call 69) (.cons (.inp 0) (.cons (.cst (.int .i64 5)) (.cons (.cst (.int .i64 1048576)) .nil))) (.done [(3, (.bv 0))] none))) h38_8)
@[simp] theorem h38_9_wp : type_of% (@wpH h38_9 _ h38_9.eq_1) := wpH h38_9.eq_1
def h38_10 : HC := (.seq (.reg (.eff (.call 35) (.cons (.inp 0) (.cons (.cst (.int .i64 1)) .nil)) (.eff (.call 35) (.cons (.inp 0) (.cons (.cst (.int .i64 2)) .nil)) (.eff (.call 37) (.cons (.inp 0) (.cons (.cst (.int .i64 3)) (.cons (.cst (.int .u64 18446744073709551615)) .nil))) (.eff (.call 37) (.cons (.inp 0) (.cons (.cst (.int .i64 4)) (.cons (.cst (.int .u64 18446744073709551615)) .nil))) (.chk none (.build #[(.int .i64 0), (.int .i64 0), (.int .u64 0), (.int .u64 0), (.slice none 0 0)] [(0, 1), (1, 1), (2, 1), (3, 1), (4, 1)] [0, 1, 2, 3]) (.cons (.bv 0) (.cons (.bv 1) (.cons (.bv 2) (.cons (.bv 3) .nil)))) (.eff (.new 25 (.agg #[(.int .i64 0), (.int .i64 0), (.int .u64 0), (.int .u64 0), (.slice none 0 0)])) .nil (.eff (.st 5) (.cons (.bv 4) (.cons (.op (.build #[(.int .i64 0), (.int .i64 0), (.int .u64 0), (.int .u64 0), (.slice none 0 0)] [(0, 1), (1, 1), (2, 1), (3, 1), (4, 1)] [0, 1, 2, 3]) (.cons (.bv 0) (.cons (.bv 1) (.cons (.bv 2) (.cons (.bv 3) .nil))))) .nil)) (.done [(2, (.bv 4))] none))))))))) h38_9)
@[simp] theorem h38_10_wp : type_of% (@wpH h38_10 _ h38_10.eq_1) := wpH h38_10.eq_1
def l38 : Lifted := ⟨[0, 2, 3, 4, 5, 6], 43, [.cell 1 true 5], (.seq (.reg (.eff (.new 25 (.agg #[(.int .i64 0), (.int .i64 0), (.int .u64 0), (.int .u64 0), (.slice none 0 0)])) .nil (.done [(1, (.bv 0))] none))) h38_10)⟩
theorem l38_ok : liftFn T0 38 400 = some l38 := by kernel_rfl
theorem number_spec (r q : Nat) (bad : Bool) (F : Flds) (tag : Int) (w0 w : World) (A B : Asn) (hB : ∀ w, St w0 A w → St w0 B w) (hO : OKF F) (s : St w0 (A * flt q bad * rdP w0 B r q F) w) :
    CallW Try.prog 43 [.pointer (some ⟨r, 0, none⟩), .int .i64 tag] (fun v w' => v = .int .i64 (takeR bad F tag).1 ∧ St w0 (A * flt q (takeR bad F tag).2 * rdP w0 B r q F) w') w := by
  refine callW_of_lift l43_ok (by simp [l43]) ?_
  simp -implicitDefEqProofs [l43]
  refine eff_call ((Number_rspec r q bad F tag whole w0 w A B hB hO s).mono ?_)
  rintro _ w1 ⟨rfl, s1⟩
  simp -implicitDefEqProofs
  exact ⟨rfl, s1⟩
set_option maxHeartbeats 1000000 in
theorem readEntry_spec (r q : Nat) (bad : Bool) (F : Flds) (w0 w : World) (A B : Asn) (hB : ∀ w, St w0 A w → St w0 B w) (hO : OKF F) (s : St w0 (A * flt q bad * rdP w0 B r q F) w) :
    CallW Try.prog 46 [.pointer (some ⟨r, 0, none⟩)] (fun x w' => ∃ v, x = .agg ((recE bad F).1.cs v).toArray ∧ St w0 (A * flt q (recE bad F).2 * rdP w0 B r q F * own 3 1 v (recE bad F).1.ws.length (ints (recE bad F).1.ws)) w') w := by
  refine callW_of_lift l46_ok (by simp [l46]) ?_
  simp -implicitDefEqProofs [l46]
  refine eff_new s fun c w1 s1 => ?_
  simp -implicitDefEqProofs
  have s1 : St w0 (A * pt c (.cells #[.int .i64 0, .int .i64 0, .int .u64 0, .int .u64 0, .slice none 0 0] 25 (0, 0)) * flt q bad * rdP w0 B r q F) w1 := s1.to (by simp only [Value.cells]; ac_rfl)
  generalize hX : A * pt c (.cells #[.int .i64 0, .int .i64 0, .int .u64 0, .int .u64 0, .slice none 0 0] 25 (0, 0)) = D at s1
  have hD : ∀ w, St w0 D w → St w0 B w := fun w h => by rw [← hX] at h; exact hB _ h.drop
  refine eff_call ((number_spec r q bad F 1 w0 w1 D B hD hO s1).mono ?_)
  rintro _ w2 ⟨rfl, s2⟩
  simp -implicitDefEqProofs
  refine eff_call ((number_spec r q _ F 2 w0 w2 D B hD hO s2).mono ?_)
  rintro _ w3 ⟨rfl, s3⟩
  simp -implicitDefEqProofs
  refine eff_call ((Number_rspec r q _ F 3 whole w0 w3 D B hD hO s3).mono ?_)
  rintro _ w4 ⟨rfl, s4⟩
  simp -implicitDefEqProofs
  refine eff_call ((Number_rspec r q _ F 4 whole w0 w4 D B hD hO s4).mono ?_)
  rintro _ w5 ⟨rfl, s5⟩
  simp -implicitDefEqProofs [Instr.fill, Value.cells]
  refine eff_new s5 fun d w6 s6 => ?_
  simp -implicitDefEqProofs
  refine eff_stA (vs := ({ (recE bad F).1 with ws := [] } : PE).cs (.slice none 0 0)) s6 rfl rfl (pe_one _ _ rfl) (by simp) fun w7 s7 => ?_
  simp -implicitDefEqProofs
  obtain ⟨e, he⟩ : ∃ e, (recE bad F).1 = e := ⟨_, rfl⟩
  obtain ⟨b4, hb4⟩ : ∃ b4, (numR (numR (takeR (takeR bad F 1).2 F 2).2 F 3 whole).2 F 4 whole).2 = b4 := ⟨_, rfl⟩
  obtain ⟨L, hL⟩ : ∃ L, (lstR b4 F 5 1048576).1 = L := ⟨_, rfl⟩
  have hew : e.ws = L.map wishF := by rw [← he, ← hL, ← hb4]; rfl
  have hbe : (recE bad F).2 = (lstR b4 F 5 1048576).2 := by rw [← hb4]; rfl
  have hLo := lstR_ok (bad := b4) hO 5 1048576
  rw [he, hb4] at s7
  rw [he, hbe]
  rw [hL] at hLo
  have s7 : St w0 (D * pt d (.cells (e.cs (.slice none 0 0)).toArray 25 (0, 0)) * flt q b4 * rdP w0 B r q F) w7 := s7.to (by simp only [PE.cs, Value.cells]; ac_rfl)
  refine eff_call ((List_rspec r q b4 F 5 1048576 w0 w7 _ B (fun w s => hD w s.drop) hO s7).mono ?_)
  rintro lv w8 ⟨vs, hvs, s8⟩
  rw [hL] at hvs s8
  obtain ⟨b5, hb5⟩ : ∃ b5, (lstR b4 F 5 1048576).2 = b5 := ⟨_, rfl⟩
  rw [hb5] at s8 ⊢
  obtain ⟨la, lc, rfl, _, _⟩ := (s8.swap).own_val
  simp -implicitDefEqProofs
  obtain ⟨E, hE⟩ : ∃ E, D * flt q b5 * rdP w0 B r q F * own 31 1 (.slice la vs.length lc) vs.length vs * bss vs L = E := ⟨_, rfl⟩
  have row : ∀ {Z : Asn} {w : World} {i : Nat}, i < vs.length → St w0 (E * Z) w → ∃ g, la = some ⟨g, 0, none⟩ ∧ ∀ u, vs[i]? = some u → w.cell? ⟨g, i, none⟩ = some u := fun {Z w i} hi h => by
    rw [← hE] at h
    obtain ⟨g, cap, hv, _, hc⟩ := (h.to (B := D * flt q b5 * rdP w0 B r q F * bss vs L * Z * own 31 1 (.slice la vs.length lc) vs.length vs) (by ac_rfl)).own_at (by omega)
    cases hv
    exact ⟨g, rfl, fun u hu => by have := hc i u hu; simpa using this⟩
  have seen : ∀ {i : Nat} (h1 : i < vs.length) (h2 : i < L.length), ∀ w, St w0 E w → BR w0 E vs[i] L[i] := fun {i} h1 h2 w h => by
    rw [← hE] at h ⊢
    exact (bss_row h1 h2 h)
  refine loopI (fun env w' => ∃ (i : Nat) (o3 o4 sv : Value), env = [.pointer (some ⟨r, 0, none⟩), .pointer (some ⟨c, 0, none⟩), .pointer (some ⟨d, 0, none⟩), o3, o4, .slice la vs.length lc, .int .i64 vs.length, .int .i64 i] ∧ i ≤ L.length ∧ St w0 (E * pt d (.cells (e.cs sv).toArray 25 (0, 0)) * own 3 1 sv i (ints (e.ws.take i))) w')
    (fun env _ => L.length - slotN env 7) ⟨0, _, _, .slice none 0 0, rfl, by omega, ?_⟩ ?_
  · have h := (s8.to (B := E * pt d (.cells (e.cs (.slice none 0 0)).toArray 25 (0, 0))) (by rw [← hE]; ac_rfl)).own_nil 3 1
    simpa using h
  rintro LQ env w' ⟨i, o3, o4, sv, rfl, hi, t1⟩ hN hXX hR
  simp -implicitDefEqProofs
  refine cndI (fun h3 => ?_) (fun h3 => ?_)
  · simp at h3
    have hiL : i < L.length := by omega
    obtain ⟨g, rfl, hcell⟩ := row (i := i) (by omega) (t1.to (B := E * (pt d (.cells (e.cs sv).toArray 25 (0, 0)) * own 3 1 sv i (ints (e.ws.take i)))) (by ac_rfl))
    simp -implicitDefEqProofs [h3]
    refine eff_ldc (v := vs[i]) (hcell _ (by simp [h3])) ?_
    simp -implicitDefEqProofs
    have hbr : BR w0 (E * pt d (.cells (e.cs sv).toArray 25 (0, 0)) * own 3 1 sv i (ints (e.ws.take i))) vs[i] L[i] := (seen (i := i) (by omega) hiL w' t1.drop.drop).mono fun w s => s.drop.drop
    refine eff_call ((ReadShort_spec L[i] vs[i] 0 w0 w' _ (by omega) (by have := hLo.2 _ (List.getElem_mem hiL); omega) hbr t1).mono ?_)
    rintro _ w9 ⟨rfl, t2⟩
    simp -implicitDefEqProofs
    refine eff_ldc (v := sv) ((cell_of t2.drop.look).trans rfl) ?_
    simp -implicitDefEqProofs
    have hw : IntKind.i64.wrap ((rs L[i] 0).1 : Int) = wishF L[i] := rfl
    rw [hw]
    refine eff_bsl1 t2 rfl fun k w10 t3 => ?_
    simp -implicitDefEqProofs
    obtain ⟨sa, sc, rfl, _, _⟩ := t2.own_val
    refine eff_app (m := 1) (news := [.int .i64 (wishF L[i])]) t3.swap rfl (by simpa using t3.cells_look) (by simp [Value.oneCell']) (by decide) rfl (by unfold maxLen; omega) (by omega) fun v11 w11 t4 => ?_
    simp -implicitDefEqProofs
    have hv11 : v11.oneCell' = true := by obtain ⟨_, _, rfl, _⟩ := t4.own_val; rfl
    refine eff_st1 (t4.to (B := E * pt k (.cells #[.int .i64 (wishF L[i])] 3 (0, 0)) * own 3 1 v11 (i + 1) (ints (e.ws.take i) ++ [.int .i64 (wishF L[i])]) * pt d (.cells (e.cs (.slice sa i sc)).toArray 25 (0, 0))) (by ac_rfl)) hv11 (by simp [PE.cs]) fun w12 t5 => ?_
    simp -implicitDefEqProofs
    try simp (disch := omega) only [wrap64]
    refine hN _ _ ⟨i + 1, _, _, v11, by simp; exact ⟨rfl, rfl⟩, by omega, ?_⟩ (by simp [slotN]; omega)
    have hie : i < e.ws.length := by rw [hew]; simpa using hiL
    have hge : e.ws[i] = wishF L[i] := by simp [hew]
    rw [List.take_succ_eq_append_getElem hie, hge]
    refine t5.cut (pt k (.cells #[.int .i64 (wishF L[i])] 3 (0, 0))) ?_
    simp [PE.cs, ints]
    ac_rfl
  · simp at h3
    simp -implicitDefEqProofs
    refine hXX _ _ _ ?_
    obtain rfl : i = L.length := by omega
    have hle : e.ws.length = L.length := by rw [hew]; simp
    have htk : e.ws.take L.length = e.ws := by rw [← hle, List.take_length]
    rw [htk] at t1
    simp -implicitDefEqProofs
    obtain ⟨sa, sc, rfl, _, _⟩ := t1.own_val
    refine eff_ldcs (vs := e.cs (.slice sa L.length sc)) t1.drop.row_cells rfl ?_
    simp -implicitDefEqProofs
    rw [← hE, ← hX] at t1
    refine eff_stA (vs := e.cs (.slice sa L.length sc)) (t1.to (B := A * flt q b5 * rdP w0 B r q F * own 31 1 (.slice la vs.length lc) vs.length vs * bss vs L * pt d (.cells (e.cs (.slice sa L.length sc)).toArray 25 (0, 0)) * own 3 1 (.slice sa L.length sc) L.length (ints e.ws) * pt c (.cells #[.int .i64 0, .int .i64 0, .int .u64 0, .int .u64 0, .slice none 0 0] 25 (0, 0))) (by ac_rfl)) rfl rfl (pe_one _ _ rfl) (by simp) fun w13 t6 => ?_
    simp -implicitDefEqProofs
    have t6 : St w0 (A * flt q b5 * rdP w0 B r q F * own 31 1 (.slice la vs.length lc) vs.length vs * bss vs L * pt d (.cells (e.cs (.slice sa L.length sc)).toArray 25 (0, 0)) * own 3 1 (.slice sa L.length sc) L.length (ints e.ws) * pt c (.cells (e.cs (.slice sa L.length sc)).toArray 25 (0, 0))) w13 := by simpa [PE.cs] using t6
    refine rv_cellA rfl t6.row_cells rfl ?_
    simp -implicitDefEqProofs
    rw [hle]
    exact ⟨_, rfl, t6.drop.cut (own 31 1 (.slice la vs.length lc) vs.length vs * bss vs L * pt d (.cells (e.cs (.slice sa L.length sc)).toArray 25 (0, 0))) (by ac_rfl)⟩
theorem rnumber_spec (r q : Nat) (bad : Bool) (F : Flds) (tag : Int) (w0 w : World) (A : Asn) (hO : OKF F) (s : St w0 (A * rflt q bad * rrP r q F) w) :
    CallW Try.prog 35 [.pointer (some ⟨r, 0, none⟩), .int .i64 tag] (fun v w' => v = .int .i64 (takeR bad F tag).1 ∧ St w0 (A * rflt q (takeR bad F tag).2 * rrP r q F) w') w := by
  refine callW_of_lift l35_ok (by simp [l35]) ?_
  simp -implicitDefEqProofs [l35]
  refine eff_call ((rNumber_rspec r q bad F tag whole w0 w A hO s).mono ?_)
  rintro _ w1 ⟨rfl, s1⟩
  simp -implicitDefEqProofs
  exact ⟨rfl, s1⟩
set_option maxHeartbeats 1000000 in
theorem rreadEntry_spec (r q : Nat) (bad : Bool) (F : Flds) (w0 w : World) (A : Asn) (hO : OKF F) (s : St w0 (A * rflt q bad * rrP r q F) w) :
    CallW Try.prog 38 [.pointer (some ⟨r, 0, none⟩)] (fun x w' => ∃ v, x = .agg ((recE bad F).1.cs v).toArray ∧ St w0 (A * rflt q (recE bad F).2 * rrP r q F * own 3 1 v (recE bad F).1.ws.length (ints (recE bad F).1.ws)) w') w := by
  refine callW_of_lift l38_ok (by simp [l38]) ?_
  simp -implicitDefEqProofs [l38]
  refine eff_new s fun c w1 s1 => ?_
  simp -implicitDefEqProofs
  have s1 : St w0 (A * pt c (.cells #[.int .i64 0, .int .i64 0, .int .u64 0, .int .u64 0, .slice none 0 0] 25 (0, 0)) * rflt q bad * rrP r q F) w1 := s1.to (by simp only [Value.cells]; ac_rfl)
  generalize hX : A * pt c (.cells #[.int .i64 0, .int .i64 0, .int .u64 0, .int .u64 0, .slice none 0 0] 25 (0, 0)) = D at s1
  refine eff_call ((rnumber_spec r q bad F 1 w0 w1 D hO s1).mono ?_)
  rintro _ w2 ⟨rfl, s2⟩
  simp -implicitDefEqProofs
  refine eff_call ((rnumber_spec r q _ F 2 w0 w2 D hO s2).mono ?_)
  rintro _ w3 ⟨rfl, s3⟩
  simp -implicitDefEqProofs
  refine eff_call ((rNumber_rspec r q _ F 3 whole w0 w3 D hO s3).mono ?_)
  rintro _ w4 ⟨rfl, s4⟩
  simp -implicitDefEqProofs
  refine eff_call ((rNumber_rspec r q _ F 4 whole w0 w4 D hO s4).mono ?_)
  rintro _ w5 ⟨rfl, s5⟩
  simp -implicitDefEqProofs [Instr.fill, Value.cells]
  refine eff_new s5 fun d w6 s6 => ?_
  simp -implicitDefEqProofs
  refine eff_stA (vs := ({ (recE bad F).1 with ws := [] } : PE).cs (.slice none 0 0)) s6 rfl rfl (pe_one _ _ rfl) (by simp) fun w7 s7 => ?_
  simp -implicitDefEqProofs
  obtain ⟨e, he⟩ : ∃ e, (recE bad F).1 = e := ⟨_, rfl⟩
  obtain ⟨b4, hb4⟩ : ∃ b4, (numR (numR (takeR (takeR bad F 1).2 F 2).2 F 3 whole).2 F 4 whole).2 = b4 := ⟨_, rfl⟩
  obtain ⟨L, hL⟩ : ∃ L, (lstR b4 F 5 1048576).1 = L := ⟨_, rfl⟩
  have hew : e.ws = L.map wishF := by rw [← he, ← hL, ← hb4]; rfl
  have hbe : (recE bad F).2 = (lstR b4 F 5 1048576).2 := by rw [← hb4]; rfl
  have hLo := lstR_ok (bad := b4) hO 5 1048576
  rw [he, hb4] at s7
  rw [he, hbe]
  rw [hL] at hLo
  have s7 : St w0 (D * pt d (.cells (e.cs (.slice none 0 0)).toArray 25 (0, 0)) * rflt q b4 * rrP r q F) w7 := s7.to (by simp only [PE.cs, Value.cells]; ac_rfl)
  refine eff_call ((rList_rspec r q b4 F 5 1048576 w0 w7 _ hO s7).mono ?_)
  rintro lv w8 ⟨vs, hvs, s8⟩
  rw [hL] at hvs s8
  obtain ⟨b5, hb5⟩ : ∃ b5, (lstR b4 F 5 1048576).2 = b5 := ⟨_, rfl⟩
  rw [hb5] at s8 ⊢
  obtain ⟨la, lc, rfl, _, _⟩ := (s8.swap).own_val
  simp -implicitDefEqProofs
  obtain ⟨E, hE⟩ : ∃ E, D * rflt q b5 * rrP r q F * own 31 1 (.slice la vs.length lc) vs.length vs * bss vs L = E := ⟨_, rfl⟩
  have row : ∀ {Z : Asn} {w : World} {i : Nat}, i < vs.length → St w0 (E * Z) w → ∃ g, la = some ⟨g, 0, none⟩ ∧ ∀ u, vs[i]? = some u → w.cell? ⟨g, i, none⟩ = some u := fun {Z w i} hi h => by
    rw [← hE] at h
    obtain ⟨g, cap, hv, _, hc⟩ := (h.to (B := D * rflt q b5 * rrP r q F * bss vs L * Z * own 31 1 (.slice la vs.length lc) vs.length vs) (by ac_rfl)).own_at (by omega)
    cases hv
    exact ⟨g, rfl, fun u hu => by have := hc i u hu; simpa using this⟩
  have seen : ∀ {i : Nat} (h1 : i < vs.length) (h2 : i < L.length), ∀ w, St w0 E w → BR w0 E vs[i] L[i] := fun {i} h1 h2 w h => by
    rw [← hE] at h ⊢
    exact (bss_row h1 h2 h)
  refine loopI (fun env w' => ∃ (i : Nat) (o3 sv : Value), env = [.pointer (some ⟨r, 0, none⟩), .pointer (some ⟨c, 0, none⟩), .pointer (some ⟨d, 0, none⟩), .slice la vs.length lc, .int .i64 i, o3] ∧ i ≤ L.length ∧ St w0 (E * pt d (.cells (e.cs sv).toArray 25 (0, 0)) * own 3 1 sv i (ints (e.ws.take i))) w')
    (fun env _ => L.length - slotN env 4) ⟨0, _, .slice none 0 0, rfl, by omega, ?_⟩ ?_
  · have h := (s8.to (B := E * pt d (.cells (e.cs (.slice none 0 0)).toArray 25 (0, 0))) (by rw [← hE]; ac_rfl)).own_nil 3 1
    simpa using h
  rintro LQ env w' ⟨i, o3, sv, rfl, hi, t1⟩ hN hXX hR
  simp -implicitDefEqProofs
  refine cndI (fun h3 => ?_) (fun h3 => ?_)
  · simp at h3
    have hiL : i < L.length := by omega
    obtain ⟨g, rfl, hcell⟩ := row (i := i) (by omega) (t1.to (B := E * (pt d (.cells (e.cs sv).toArray 25 (0, 0)) * own 3 1 sv i (ints (e.ws.take i)))) (by ac_rfl))
    simp -implicitDefEqProofs [h3]
    refine eff_ldc (v := vs[i]) (hcell _ (by simp [h3])) ?_
    simp -implicitDefEqProofs
    have hbr : BR w0 (E * pt d (.cells (e.cs sv).toArray 25 (0, 0)) * own 3 1 sv i (ints (e.ws.take i))) vs[i] L[i] := (seen (i := i) (by omega) hiL w' t1.drop.drop).mono fun w s => s.drop.drop
    refine eff_call ((rReadShort_spec L[i] vs[i] 0 w0 w' _ (by omega) (by have := hLo.2 _ (List.getElem_mem hiL); omega) hbr t1).mono ?_)
    rintro _ w9 ⟨rfl, t2⟩
    simp -implicitDefEqProofs
    refine eff_ldc (v := sv) ((cell_of t2.drop.look).trans rfl) ?_
    simp -implicitDefEqProofs
    have hw : IntKind.i64.wrap ((rs L[i] 0).1 : Int) = wishF L[i] := rfl
    rw [hw]
    refine eff_bsl1 t2 rfl fun k w10 t3 => ?_
    simp -implicitDefEqProofs
    obtain ⟨sa, sc, rfl, _, _⟩ := t2.own_val
    refine eff_app (m := 1) (news := [.int .i64 (wishF L[i])]) t3.swap rfl (by simpa using t3.cells_look) (by simp [Value.oneCell']) (by decide) rfl (by unfold maxLen; omega) (by omega) fun v11 w11 t4 => ?_
    simp -implicitDefEqProofs
    have hv11 : v11.oneCell' = true := by obtain ⟨_, _, rfl, _⟩ := t4.own_val; rfl
    refine eff_st1 (t4.to (B := E * pt k (.cells #[.int .i64 (wishF L[i])] 3 (0, 0)) * own 3 1 v11 (i + 1) (ints (e.ws.take i) ++ [.int .i64 (wishF L[i])]) * pt d (.cells (e.cs (.slice sa i sc)).toArray 25 (0, 0))) (by ac_rfl)) hv11 (by simp [PE.cs]) fun w12 t5 => ?_
    simp -implicitDefEqProofs
    try simp (disch := omega) only [wrap64]
    refine hN _ _ ⟨i + 1, _, v11, by simp; exact rfl, by omega, ?_⟩ (by simp [slotN]; omega)
    have hie : i < e.ws.length := by rw [hew]; simpa using hiL
    have hge : e.ws[i] = wishF L[i] := by simp [hew]
    rw [List.take_succ_eq_append_getElem hie, hge]
    refine t5.cut (pt k (.cells #[.int .i64 (wishF L[i])] 3 (0, 0))) ?_
    simp [PE.cs, ints]
    ac_rfl
  · simp at h3
    simp -implicitDefEqProofs
    refine hXX _ _ _ ?_
    obtain rfl : i = L.length := by omega
    have hle : e.ws.length = L.length := by rw [hew]; simp
    have htk : e.ws.take L.length = e.ws := by rw [← hle, List.take_length]
    rw [htk] at t1
    simp -implicitDefEqProofs
    obtain ⟨sa, sc, rfl, _, _⟩ := t1.own_val
    refine eff_ldcs (vs := e.cs (.slice sa L.length sc)) t1.drop.row_cells rfl ?_
    simp -implicitDefEqProofs
    rw [← hE, ← hX] at t1
    refine eff_stA (vs := e.cs (.slice sa L.length sc)) (t1.to (B := A * rflt q b5 * rrP r q F * own 31 1 (.slice la vs.length lc) vs.length vs * bss vs L * pt d (.cells (e.cs (.slice sa L.length sc)).toArray 25 (0, 0)) * own 3 1 (.slice sa L.length sc) L.length (ints e.ws) * pt c (.cells #[.int .i64 0, .int .i64 0, .int .u64 0, .int .u64 0, .slice none 0 0] 25 (0, 0))) (by ac_rfl)) rfl rfl (pe_one _ _ rfl) (by simp) fun w13 t6 => ?_
    simp -implicitDefEqProofs
    have t6 : St w0 (A * rflt q b5 * rrP r q F * own 31 1 (.slice la vs.length lc) vs.length vs * bss vs L * pt d (.cells (e.cs (.slice sa L.length sc)).toArray 25 (0, 0)) * own 3 1 (.slice sa L.length sc) L.length (ints e.ws) * pt c (.cells (e.cs (.slice sa L.length sc)).toArray 25 (0, 0))) w13 := by simpa [PE.cs] using t6
    refine rv_cellA rfl t6.row_cells rfl ?_
    simp -implicitDefEqProofs
    rw [hle]
    exact ⟨_, rfl, t6.drop.cut (own 31 1 (.slice la vs.length lc) vs.length vs * bss vs L * pt d (.cells (e.cs (.slice sa L.length sc)).toArray 25 (0, 0))) (by ac_rfl)⟩
end Go.HL.Sr

namespace Go.HL.Sr
open Go.HL Go.HL.Tl Go.Proofs
set_option maxRecDepth 4000
set_option linter.unusedSimpArgs false
set_option linter.unusedVariables false
attribute [local irreducible] EffW
def esA : List (PE × Value) → Asn
  | [] => emp
  | x :: t => own 3 1 x.2 x.1.ws.length (ints x.1.ws) * esA t
theorem esA_snoc (y : PE × Value) (l : List (PE × Value)) : esA (l ++ [y]) = esA l * own 3 1 y.2 y.1.ws.length (ints y.1.ws) := by
  induction l with
  | nil => exact (sep_emp _).trans (emp_sep _).symm
  | cons x t ih =>
    have h1 : esA (x :: t ++ [y]) = own 3 1 x.2 x.1.ws.length (ints x.1.ws) * esA (t ++ [y]) := rfl
    have h2 : esA (x :: t) = own 3 1 x.2 x.1.ws.length (ints x.1.ws) * esA t := rfl
    rw [h1, h2, ih, sep_assoc]
theorem esA_at (l : List (PE × Value)) : ∀ (i : Nat) (h : i < l.length), ∃ R, esA l = R * own 3 1 l[i].2 l[i].1.ws.length (ints l[i].1.ws) := by
  induction l with
  | nil => intro i h; simp at h
  | cons x t ih =>
    intro i h
    cases i with
    | zero => exact ⟨esA t, by rw [sep_comm]; rfl⟩
    | succ i =>
      obtain ⟨R, hR⟩ := ih i (by simpa using h)
      have h3 : (x :: t)[i + 1] = t[i]'(by simpa using h) := rfl
      have h2 : esA (x :: t) = own 3 1 x.2 x.1.ws.length (ints x.1.ws) * esA t := rfl
      exact ⟨own 3 1 x.2 x.1.ws.length (ints x.1.ws) * R, by rw [h2, hR, h3, sep_assoc]⟩
theorem zip_parts {α β : Type} (l : List (α × β)) : (l.map (·.1)).zip (l.map (·.2)) = l := by
  induction l with
  | nil => rfl
  | cons x t ih => simp [ih]
abbrev esO (cv : Value) (l : List (PE × Value)) : Asn := own 25 5 cv l.length (eflat l) * esA l
theorem es_seen {w0 w : World} {A : Asn} {cv : Value} {l : List (PE × Value)} (s : St w0 (A * esO cv l) w) : CV w0 (A * esO cv l) cv (l.map (·.2)) (l.map (·.1)) := by
  refine ⟨by simp, ?_, fun i h1 h2 => ?_⟩
  · rw [zip_parts, List.length_map]
    exact row_in (e := 25) (B := A * esA l) s (by simp only [esO]; ac_rfl)
  · have hi : i < l.length := by simpa using h1
    obtain ⟨R, hR⟩ := esA_at l i hi
    have := row_in (e := 3) (B := A * own 25 5 cv l.length (eflat l) * R) (n := l[i].1.ws.length) (v := l[i].2) (xs := ints l[i].1.ws) s (by simp only [esO, hR]; ac_rfl)
    simpa using this
def rdEs (bad : Bool) (L : List Flds) : List PE × Bool := L.foldl (fun s G => (s.1 ++ [(recE s.2 G).1], (recE s.2 G).2)) ([], bad)
theorem rdEs_snoc (bad : Bool) (L : List Flds) (x : Flds) : rdEs bad (L ++ [x]) = ((rdEs bad L).1 ++ [(recE (rdEs bad L).2 x).1], (recE (rdEs bad L).2 x).2) := by
  simp [rdEs]
theorem rdEs_len (bad : Bool) (L : List Flds) : ∀ i, i ≤ L.length → (rdEs bad (L.take i)).1.length = i := by
  intro i
  induction i with
  | zero => intro _; simp [rdEs]
  | succ i ih =>
    intro h
    rw [List.take_succ_eq_append_getElem (by omega), rdEs_snoc]
    simp [ih (by omega)]
def recC (bad : Bool) (F : Flds) : PC × Bool :=
  let x1 := takeR bad F 1
  let x2 := takeR x1.2 F 2
  let x3 := takeR x2.2 F 3
  let x4 := takeR x3.2 F 4
  let x5 := takeR x4.2 F 5
  let x6 := takeR x5.2 F 6
  let x7 := numR x6.2 F 7 whole
  let x8 := numR x7.2 F 8 whole
  let x9 := numR x8.2 F 9 whole
  let y := takeR x9.2 F 10
  let z := rcsR y.2 F 11 1048576
  let u := rdEs z.1 z.2
  (⟨x1.1, x2.1, x3.1, x4.1, x5.1, x6.1, x7.1, x8.1, x9.1, y.1, u.1⟩, u.2)
def c4C (X : World → Prop) (Y : Value → World → Prop) (Z : Value → Value → World → Prop) (U : Value → Value → Value → World → Prop) (V : Value → Value → Value → World → Prop) : List Value → World → Prop
  | [], w => X w
  | [a], w => Y a w
  | [a, b], w => Z a b w
  | [a, b, c], w => U a b c w
  | a :: b :: c :: _ :: _, w => V a b c w
theorem c4_pre {X : World → Prop} {Y : Value → World → Prop} {Z : Value → Value → World → Prop} {U V : Value → Value → Value → World → Prop} {vs : List Value} {w : World} (he : era 3 vs = era 3 []) (h : c4C X Y Z U V vs w) : X w ∨ (∃ a, Y a w) ∨ ∃ a b, Z a b w := by
  match vs, h with
  | [], h => exact .inl h
  | [a], h => exact .inr (.inl ⟨a, h⟩)
  | [a, b], h => exact .inr (.inr ⟨a, b, h⟩)
  | [a, b, c], h => simp [era] at he
  | a :: b :: c :: d :: t, h => simp [era] at he
theorem pc_one (c : PC) (v : Value) (hv : v.oneCell' = true) : ∀ u ∈ c.cs v, u.oneCell' = true := by
  intro u hu
  simp only [PC.cs, List.mem_cons, List.not_mem_nil, or_false] at hu
  rcases hu with rfl | rfl | rfl | rfl | rfl | rfl | rfl | rfl | rfl | rfl | rfl
  all_goals first | rfl | exact hv
theorem recC_ok {F : Flds} (hO : OKF F) (bad : Bool) : (recC bad F).1.ok := by
  refine ⟨numR_bd _ _ _, numR_bd _ _ _, numR_bd _ _ _, ?_, ?_⟩
  all_goals (simp only [recC]; generalize (takeR _ F 10).2 = b)
  · have h1 := (rcsR_ok (bad := b) (F := F) 11 1048576).1
    have h2 := (lstR_ok (bad := b) hO 11 1048576).1
    have h3 := rdEs_len (rcsR b F 11 1048576).1 (rcsR b F 11 1048576).2 _ (Nat.le_refl _)
    rw [List.take_length] at h3
    omega
  · have h1 := (rcsR_ok (bad := b) (F := F) 11 1048576).2
    generalize (rcsR b F 11 1048576).2 = L at h1
    generalize (rcsR b F 11 1048576).1 = b1
    have : ∀ i, i ≤ L.length → ∀ e ∈ (rdEs b1 (L.take i)).1, e.ok := by
      intro i
      induction i with
      | zero => intro _ e he; simp [rdEs] at he
      | succ i ih =>
        intro hi e he
        rw [List.take_succ_eq_append_getElem (by omega), rdEs_snoc] at he
        rcases List.mem_append.1 he with he | he
        · exact ih (by omega) e he
        · obtain rfl : e = _ := by simpa using he
          exact recE_ok (h1 _ (List.getElem_mem _)) _
    have h2 := this L.length (Nat.le_refl _)
    rw [List.take_length] at h2
    exact h2

def h48_0 : HC := (.seq (.reg (.eff (.ld true 11) (.cons (.inp 2) .nil) (.eff (.st 11) (.cons (.inp 1) (.cons (.bv 0) .nil)) (.done [] none)))) .ret)
@[simp] theorem h48_0_wp : type_of% (@wpH h48_0 _ h48_0.eq_1) := wpH h48_0.eq_1
def h48_1 : HC := (.reg (.chk none (.bin .add) (.cons (.inp 6) (.cons (.cst (.int .i64 1)) .nil)) (.done [(6, (.op (.bin .add) (.cons (.inp 6) (.cons (.cst (.int .i64 1)) .nil))))] none)))
@[simp] theorem h48_1_wp : type_of% (@wpH h48_1 _ h48_1.eq_1) := wpH h48_1.eq_1
def h48_2 : HC := (.regq (some 3) (.chk none (.fld 10) (.cons (.inp 2) .nil) (.eff (.ld false 1) (.cons (.op (.fld 10) (.cons (.inp 2) .nil)) .nil) (.eff (.call 46) (.cons (.inp 3) .nil) (.eff (.bsl 25 1 5 #[(.int .i64 0), (.int .i64 0), (.int .u64 0), (.int .u64 0), (.slice none 0 0)] [0]) (.cons (.bv 1) .nil) (.eff (.app 26 26 25 5 56 (.agg #[(.int .i64 0), (.int .i64 0), (.int .u64 0), (.int .u64 0), (.slice none 0 0)])) (.cons (.bv 0) (.cons (.bv 2) .nil)) (.chk none (.fld 10) (.cons (.inp 2) .nil) (.eff (.st 1) (.cons (.op (.fld 10) (.cons (.inp 2) .nil)) (.cons (.bv 3) .nil)) (.done [] none)))))))))
@[simp] theorem h48_2_wp : type_of% (@wpH h48_2 _ h48_2.eq_1) := wpH h48_2.eq_1
def h48_3 : HC := (.seq (.reg (.chk none (.idxL 1) (.cons (.inp 4) (.cons (.inp 6) .nil)) (.eff (.ld false 1) (.cons (.op (.idxL 1) (.cons (.inp 4) (.cons (.inp 6) .nil))) .nil) (.done [(3, (.bv 0))] none)))) h48_2)
@[simp] theorem h48_3_wp : type_of% (@wpH h48_3 _ h48_3.eq_1) := wpH h48_3.eq_1
def h48_4 : HC := (.seq (.block 1 h48_3) h48_1)
@[simp] theorem h48_4_wp : type_of% (@wpH h48_4 _ h48_4.eq_1) := wpH h48_4.eq_1
def h48_5 : HC := (.seq (.br (.chk none (.bin .lss) (.cons (.inp 6) (.cons (.inp 5) .nil)) (.done [] (some (.op (.bin .lss) (.cons (.inp 6) (.cons (.inp 5) .nil)))))) .skip (.exit 0)) h48_4)
@[simp] theorem h48_5_wp : type_of% (@wpH h48_5 _ h48_5.eq_1) := wpH h48_5.eq_1
def h48_6 : HC := (.loop h48_5)
@[simp] theorem h48_6_wp : type_of% (@wpH h48_6 _ h48_6.eq_1) := wpH h48_6.eq_1
def h48_7 : HC := (.seq (.block 0 h48_6) h48_0)
@[simp] theorem h48_7_wp : type_of% (@wpH h48_7 _ h48_7.eq_1) := wpH h48_7.eq_1
def h48_8 : HC := (.seq (.reg (.eff (.call 78) (.cons (.inp 0) (.cons (.cst (.int .i64 11)) (.cons (.cst (.int .i64 1048576)) .nil))) (.chk none .lenL (.cons (.bv 0) .nil) (.done [(4, (.bv 0)), (5, (.op .lenL (.cons (.bv 0) .nil))), (6, (.cst (.int .i64 0)))] none)))) h48_7)
@[simp] theorem h48_8_wp : type_of% (@wpH h48_8 _ h48_8.eq_1) := wpH h48_8.eq_1
def r48_0 : RT := (.eff (.call 45) (.cons (.inp 0) (.cons (.cst (.int .i64 9)) (.cons (.cst (.int .u64 18446744073709551615)) .nil))) (.eff (.call 43) (.cons (.inp 0) (.cons (.cst (.int .i64 10)) .nil)) (.chk none (.build #[(.int .i64 0), (.int .i64 0), (.int .i64 0), (.int .i64 0), (.int .i64 0), (.int .i64 0), (.int .u64 0), (.int .u64 0), (.int .u64 0), (.int .i64 0), (.slice none 0 0)] [(0, 1), (1, 1), (2, 1), (3, 1), (4, 1), (5, 1), (6, 1), (7, 1), (8, 1), (9, 1), (10, 1)] [0, 1, 2, 3, 4, 5, 6, 7, 8, 9]) (.cons (.bv 0) (.cons (.bv 1) (.cons (.bv 2) (.cons (.bv 3) (.cons (.bv 4) (.cons (.bv 5) (.cons (.bv 6) (.cons (.bv 7) (.cons (.bv 8) (.cons (.bv 9) .nil)))))))))) (.eff (.new 28 (.agg #[(.int .i64 0), (.int .i64 0), (.int .i64 0), (.int .i64 0), (.int .i64 0), (.int .i64 0), (.int .u64 0), (.int .u64 0), (.int .u64 0), (.int .i64 0), (.slice none 0 0)])) .nil (.eff (.st 11) (.cons (.bv 10) (.cons (.op (.build #[(.int .i64 0), (.int .i64 0), (.int .i64 0), (.int .i64 0), (.int .i64 0), (.int .i64 0), (.int .u64 0), (.int .u64 0), (.int .u64 0), (.int .i64 0), (.slice none 0 0)] [(0, 1), (1, 1), (2, 1), (3, 1), (4, 1), (5, 1), (6, 1), (7, 1), (8, 1), (9, 1), (10, 1)] [0, 1, 2, 3, 4, 5, 6, 7, 8, 9]) (.cons (.bv 0) (.cons (.bv 1) (.cons (.bv 2) (.cons (.bv 3) (.cons (.bv 4) (.cons (.bv 5) (.cons (.bv 6) (.cons (.bv 7) (.cons (.bv 8) (.cons (.bv 9) .nil))))))))))) .nil)) (.done [(2, (.bv 10))] none))))))
@[simp] theorem r48_0_wp : type_of% (@wpR r48_0 _ r48_0.eq_1) := wpR r48_0.eq_1
@[simp] theorem r48_0_wpq : type_of% (@wpRq r48_0 _ r48_0.eq_1) := wpRq r48_0.eq_1
@[simp] theorem r48_0_wpm : type_of% (@wpRm r48_0 _ r48_0.eq_1) := wpRm r48_0.eq_1
def r48_1 : RT := (.eff (.call 45) (.cons (.inp 0) (.cons (.cst (.int .i64 8)) (.cons (.cst (.int .u64 18446744073709551615)) .nil))) r48_0)
@[simp] theorem r48_1_wp : type_of% (@wpR r48_1 _ r48_1.eq_1) := wpR r48_1.eq_1
@[simp] theorem r48_1_wpq : type_of% (@wpRq r48_1 _ r48_1.eq_1) := wpRq r48_1.eq_1
@[simp] theorem r48_1_wpm : type_of% (@wpRm r48_1 _ r48_1.eq_1) := wpRm r48_1.eq_1
def r48_2 : RT := (.eff (.call 45) (.cons (.inp 0) (.cons (.cst (.int .i64 7)) (.cons (.cst (.int .u64 18446744073709551615)) .nil))) r48_1)
@[simp] theorem r48_2_wp : type_of% (@wpR r48_2 _ r48_2.eq_1) := wpR r48_2.eq_1
@[simp] theorem r48_2_wpq : type_of% (@wpRq r48_2 _ r48_2.eq_1) := wpRq r48_2.eq_1
@[simp] theorem r48_2_wpm : type_of% (@wpRm r48_2 _ r48_2.eq_1) := wpRm r48_2.eq_1
def r48_3 : RT := (.eff (.call 43) (.cons (.inp 0) (.cons (.cst (.int .i64 6)) .nil)) r48_2)
@[simp] theorem r48_3_wp : type_of% (@wpR r48_3 _ r48_3.eq_1) := wpR r48_3.eq_1
@[simp] theorem r48_3_wpq : type_of% (@wpRq r48_3 _ r48_3.eq_1) := wpRq r48_3.eq_1
@[simp] theorem r48_3_wpm : type_of% (@wpRm r48_3 _ r48_3.eq_1) := wpRm r48_3.eq_1
def r48_4 : RT := (.eff (.call 43) (.cons (.inp 0) (.cons (.cst (.int .i64 5)) .nil)) r48_3)
@[simp] theorem r48_4_wp : type_of% (@wpR r48_4 _ r48_4.eq_1) := wpR r48_4.eq_1
@[simp] theorem r48_4_wpq : type_of% (@wpRq r48_4 _ r48_4.eq_1) := wpRq r48_4.eq_1
@[simp] theorem r48_4_wpm : type_of% (@wpRm r48_4 _ r48_4.eq_1) := wpRm r48_4.eq_1
def r48_5 : RT := (.eff (.call 43) (.cons (.inp 0) (.cons (.cst (.int .i64 4)) .nil)) r48_4)
@[simp] theorem r48_5_wp : type_of% (@wpR r48_5 _ r48_5.eq_1) := wpR r48_5.eq_1
@[simp] theorem r48_5_wpq : type_of% (@wpRq r48_5 _ r48_5.eq_1) := wpRq r48_5.eq_1
@[simp] theorem r48_5_wpm : type_of% (@wpRm r48_5 _ r48_5.eq_1) := wpRm r48_5.eq_1
def r48_6 : RT := (.eff (.call 43) (.cons (.inp 0) (.cons (.cst (.int .i64 3)) .nil)) r48_5)
@[simp] theorem r48_6_wp : type_of% (@wpR r48_6 _ r48_6.eq_1) := wpR r48_6.eq_1
@[simp] theorem r48_6_wpq : type_of% (@wpRq r48_6 _ r48_6.eq_1) := wpRq r48_6.eq_1
@[simp] theorem r48_6_wpm : type_of% (@wpRm r48_6 _ r48_6.eq_1) := wpRm r48_6.eq_1
def r48_7 : RT := (.eff (.call 43) (.cons (.inp 0) (.cons (.cst (.int .i64 2)) .nil)) r48_6)
@[simp] theorem r48_7_wp : type_of% (@wpR r48_7 _ r48_7.eq_1) := wpR r48_7.eq_1
@[simp] theorem r48_7_wpq : type_of% (@wpRq r48_7 _ r48_7.eq_1) := wpRq r48_7.eq_1
@[simp] theorem r48_7_wpm : type_of% (@wpRm r48_7 _ r48_7.eq_1) := wpRm r48_7.eq_1
def h48_9 : HC := (.seq (.reg (.eff (.call 43) (.cons (.inp 0) (.cons (.cst (.int .i64 1)) .nil)) r48_7)) h48_8)
@[simp] theorem h48_9_wp : type_of% (@wpH h48_9 _ h48_9.eq_1) := wpH h48_9.eq_1
def l48 : Lifted := ⟨[0, 2, 3, 5, 28, 29, 30], 43, [.cell 1 true 11], (.seq (.reg (.eff (.new 28 (.agg #[(.int .i64 0), (.int .i64 0), (.int .i64 0), (.int .i64 0), (.int .i64 0), (.int .i64 0), (.int .u64 0), (.int .u64 0), (.int .u64 0), (.int .i64 0), (.slice none 0 0)])) .nil (.done [(1, (.bv 0))] none))) h48_9)⟩
theorem l48_ok : liftFn T0 48 400 = some l48 := by kernel_rfl

def h40_0 : HC := (.seq (.reg (.eff (.ld true 11) (.cons (.inp 2) .nil) (.eff (.st 11) (.cons (.inp 1) (.cons (.bv 0) .nil)) (.done [] none)))) .ret)
@[simp] theorem h40_0_wp : type_of% (@wpH h40_0 _ h40_0.eq_1) := wpH h40_0.eq_1
def h40_1 : HC := (.reg (.chk none (.bin .add) (.cons (.inp 4) (.cons (.cst (.int .i64 1)) .nil)) (.done [(4, (.op (.bin .add) (.cons (.inp 4) (.cons (.cst (.int .i64 1)) .nil))))] none)))
@[simp] theorem h40_1_wp : type_of% (@wpH h40_1 _ h40_1.eq_1) := wpH h40_1.eq_1
def h40_2 : HC := (.reg (.chk none (.fld 10) (.cons (.inp 2) .nil) (.eff (.ld false 1) (.cons (.op (.fld 10) (.cons (.inp 2) .nil)) .nil) (.eff (.ld true 5) (.cons (.inp 5) .nil) (.eff (.bsl 25 1 5 #[(.int .i64 0), (.int .i64 0), (.int .u64 0), (.int .u64 0), (.slice none 0 0)] [0]) (.cons (.bv 1) .nil) (.eff (.app 26 26 25 5 56 (.agg #[(.int .i64 0), (.int .i64 0), (.int .u64 0), (.int .u64 0), (.slice none 0 0)])) (.cons (.bv 0) (.cons (.bv 2) .nil)) (.chk none (.fld 10) (.cons (.inp 2) .nil) (.eff (.st 1) (.cons (.op (.fld 10) (.cons (.inp 2) .nil)) (.cons (.bv 3) .nil)) (.done [] none)))))))))
@[simp] theorem h40_2_wp : type_of% (@wpH h40_2 _ h40_2.eq_1) := wpH h40_2.eq_1
def h40_3 : HC := (.seq (.reg (.chk none (.idxL 1) (.cons (.inp 3) (.cons (.inp 4) .nil)) (.eff (.ld false 1) (.cons (.op (.idxL 1) (.cons (.inp 3) (.cons (.inp 4) .nil))) .nil) (.eff (.call 38) (.cons (.bv 0) .nil) (.eff (.new 25 (.agg #[(.int .i64 0), (.int .i64 0), (.int .u64 0), (.int .u64 0), (.slice none 0 0)])) .nil (.eff (.st 5) (.cons (.bv 2) (.cons (.bv 1) .nil)) (.done [(5, (.bv 2))] none))))))) h40_2)
@[simp] theorem h40_3_wp : type_of% (@wpH h40_3 _ h40_3.eq_1) := wpH h40_3.eq_1
def h40_4 : HC := (.seq (.block 1 h40_3) h40_1)
@[simp] theorem h40_4_wp : type_of% (@wpH h40_4 _ h40_4.eq_1) := wpH h40_4.eq_1
def h40_5 : HC := (.seq (.br (.chk none .lenL (.cons (.inp 3) .nil) (.chk none (.bin .lss) (.cons (.inp 4) (.cons (.op .lenL (.cons (.inp 3) .nil)) .nil)) (.done [] (some (.op (.bin .lss) (.cons (.inp 4) (.cons (.op .lenL (.cons (.inp 3) .nil)) .nil))))))) .skip (.exit 0)) h40_4)
@[simp] theorem h40_5_wp : type_of% (@wpH h40_5 _ h40_5.eq_1) := wpH h40_5.eq_1
def h40_6 : HC := (.loop h40_5)
@[simp] theorem h40_6_wp : type_of% (@wpH h40_6 _ h40_6.eq_1) := wpH h40_6.eq_1
def h40_7 : HC := (.seq (.block 0 h40_6) h40_0)
@[simp] theorem h40_7_wp : type_of% (@wpH h40_7 _ h40_7.eq_1) := wpH h40_7.eq_1
def h40_8 : HC := (.seq (.reg (.done [(4, (.cst (.int .i64 0)))] none)) h40_7)
@[simp] theorem h40_8_wp : type_of% (@wpH h40_8 _ h40_8.eq_1) := wpH h40_8.eq_1
def h40_9 : HC := (.seq (.reg (.eff (.call 70) (.cons (.inp 0) (.cons (.cst (.int .i64 11)) (.cons (.cst (.int .i64 1048576)) .nil))) (.done [(3, (.bv 0))] none))) h40_8)
@[simp] theorem h40_9_wp : type_of% (@wpH h40_9 _ h40_9.eq_1) := wpH h40_9.eq_1
def r40_0 : RT := (.eff (.call 37) (.cons (.inp 0) (.cons (.cst (.int .i64 9)) (.cons (.cst (.int .u64 18446744073709551615)) .nil))) (.eff (.call 35) (.cons (.inp 0) (.cons (.cst (.int .i64 10)) .nil)) (.chk none (.build #[(.int .i64 0), (.int .i64 0), (.int .i64 0), (.int .i64 0), (.int .i64 0), (.int .i64 0), (.int .u64 0), (.int .u64 0), (.int .u64 0), (.int .i64 0), (.slice none 0 0)] [(0, 1), (1, 1), (2, 1), (3, 1), (4, 1), (5, 1), (6, 1), (7, 1), (8, 1), (9, 1), (10, 1)] [0, 1, 2, 3, 4, 5, 6, 7, 8, 9]) (.cons (.bv 0) (.cons (.bv 1) (.cons (.bv 2) (.cons (.bv 3) (.cons (.bv 4) (.cons (.bv 5) (.cons (.bv 6) (.cons (.bv 7) (.cons (.bv 8) (.cons (.bv 9) .nil)))))))))) (.eff (.new 28 (.agg #[(.int .i64 0), (.int .i64 0), (.int .i64 0), (.int .i64 0), (.int .i64 0), (.int .i64 0), (.int .u64 0), (.int .u64 0), (.int .u64 0), (.int .i64 0), (.slice none 0 0)])) .nil (.eff (.st 11) (.cons (.bv 10) (.cons (.op (.build #[(.int .i64 0), (.int .i64 0), (.int .i64 0), (.int .i64 0), (.int .i64 0), (.int .i64 0), (.int .u64 0), (.int .u64 0), (.int .u64 0), (.int .i64 0), (.slice none 0 0)] [(0, 1), (1, 1), (2, 1), (3, 1), (4, 1), (5, 1), (6, 1), (7, 1), (8, 1), (9, 1), (10, 1)] [0, 1, 2, 3, 4, 5, 6, 7, 8, 9]) (.cons (.bv 0) (.cons (.bv 1) (.cons (.bv 2) (.cons (.bv 3) (.cons (.bv 4) (.cons (.bv 5) (.cons (.bv 6) (.cons (.bv 7) (.cons (.bv 8) (.cons (.bv 9) .nil))))))))))) .nil)) (.done [(2, (.bv 10))] none))))))
@[simp] theorem r40_0_wp : type_of% (@wpR r40_0 _ r40_0.eq_1) := wpR r40_0.eq_1
@[simp] theorem r40_0_wpq : type_of% (@wpRq r40_0 _ r40_0.eq_1) := wpRq r40_0.eq_1
@[simp] theorem r40_0_wpm : type_of% (@wpRm r40_0 _ r40_0.eq_1) := wpRm r40_0.eq_1
def r40_1 : RT := (.eff (.call 37) (.cons (.inp 0) (.cons (.cst (.int .i64 8)) (.cons (.cst (.int .u64 18446744073709551615)) .nil))) r40_0)
@[simp] theorem r40_1_wp : type_of% (@wpR r40_1 _ r40_1.eq_1) := wpR r40_1.eq_1
@[simp] theorem r40_1_wpq : type_of% (@wpRq r40_1 _ r40_1.eq_1) := wpRq r40_1.eq_1
@[simp] theorem r40_1_wpm : type_of% (@wpRm r40_1 _ r40_1.eq_1) := wpRm r40_1.eq_1
def r40_2 : RT := (.eff (.call 37) (.cons (.inp 0) (.cons (.cst (.int .i64 7)) (.cons (.cst (.int .u64 18446744073709551615)) .nil))) r40_1)
@[simp] theorem r40_2_wp : type_of% (@wpR r40_2 _ r40_2.eq_1) := wpR r40_2.eq_1
@[simp] theorem r40_2_wpq : type_of% (@wpRq r40_2 _ r40_2.eq_1) := wpRq r40_2.eq_1
@[simp] theorem r40_2_wpm : type_of% (@wpRm r40_2 _ r40_2.eq_1) := wpRm r40_2.eq_1
def r40_3 : RT := (.eff (.call 35) (.cons (.inp 0) (.cons (.cst (.int .i64 6)) .nil)) r40_2)
@[simp] theorem r40_3_wp : type_of% (@wpR r40_3 _ r40_3.eq_1) := wpR r40_3.eq_1
@[simp] theorem r40_3_wpq : type_of% (@wpRq r40_3 _ r40_3.eq_1) := wpRq r40_3.eq_1
@[simp] theorem r40_3_wpm : type_of% (@wpRm r40_3 _ r40_3.eq_1) := wpRm r40_3.eq_1
def r40_4 : RT := (.eff (.call 35) (.cons (.inp 0) (.cons (.cst (.int .i64 5)) .nil)) r40_3)
@[simp] theorem r40_4_wp : type_of% (@wpR r40_4 _ r40_4.eq_1) := wpR r40_4.eq_1
@[simp] theorem r40_4_wpq : type_of% (@wpRq r40_4 _ r40_4.eq_1) := wpRq r40_4.eq_1
@[simp] theorem r40_4_wpm : type_of% (@wpRm r40_4 _ r40_4.eq_1) := wpRm r40_4.eq_1
def r40_5 : RT := (.eff (.call 35) (.cons (.inp 0) (.cons (.cst (.int .i64 4)) .nil)) r40_4)
@[simp] theorem r40_5_wp : type_of% (@wpR r40_5 _ r40_5.eq_1) := wpR r40_5.eq_1
@[simp] theorem r40_5_wpq : type_of% (@wpRq r40_5 _ r40_5.eq_1) := wpRq r40_5.eq_1
@[simp] theorem r40_5_wpm : type_of% (@wpRm r40_5 _ r40_5.eq_1) := wpRm r40_5.eq_1
def r40_6 : RT := (.eff (.call 35) (.cons (.inp 0) (.cons (.cst (.int .i64 3)) .nil)) r40_5)
@[simp] theorem r40_6_wp : type_of% (@wpR r40_6 _ r40_6.eq_1) := wpR r40_6.eq_1
@[simp] theorem r40_6_wpq : type_of% (@wpRq r40_6 _ r40_6.eq_1) := wpRq r40_6.eq_1
@[simp] theorem r40_6_wpm : type_of% (@wpRm r40_6 _ r40_6.eq_1) := wpRm r40_6.eq_1
def r40_7 : RT := (.eff (.call 35) (.cons (.inp 0) (.cons (.cst (.int .i64 2)) .nil)) r40_6)
@[simp] theorem r40_7_wp : type_of% (@wpR r40_7 _ r40_7.eq_1) := wpR r40_7.eq_1
@[simp] theorem r40_7_wpq : type_of% (@wpRq r40_7 _ r40_7.eq_1) := wpRq r40_7.eq_1
@[simp] theorem r40_7_wpm : type_of% (@wpRm r40_7 _ r40_7.eq_1) := wpRm r40_7.eq_1
def h40_10 : HC := (.seq (.reg (.eff (.call 35) (.cons (.inp 0) (.cons (.cst (.int .i64 1)) .nil)) r40_7)) h40_9)
@[simp] theorem h40_10_wp : type_of% (@wpH h40_10 _ h40_10.eq_1) := wpH h40_10.eq_1
def l40 : Lifted := ⟨[0, 2, 3, 4, 5, 6], 48, [.cell 1 true 11], (.seq (.reg (.eff (.new 28 (.agg #[(.int .i64 0), (.int .i64 0), (.int .i64 0), (.int .i64 0), (.int .i64 0), (.int .i64 0), (.int .u64 0), (.int .u64 0), (.int .u64 0), (.int .i64 0), (.slice none 0 0)])) .nil (.done [(1, (.bv 0))] none))) h40_10)⟩
theorem l40_ok : liftFn T0 40 400 = some l40 := by kernel_rfl
set_option maxHeartbeats 2000000 in
theorem readContract_spec (r q : Nat) (bad : Bool) (F : Flds) (w0 w : World) (A B : Asn) (hB : ∀ w, St w0 A w → St w0 B w) (hO : OKF F) (s : St w0 (A * flt q bad * rdP w0 B r q F) w) :
    CallW Try.prog 48 [.pointer (some ⟨r, 0, none⟩)] (fun x w' => ∃ cv l, x = .agg ((recC bad F).1.cs cv).toArray ∧ l.map (·.1) = (recC bad F).1.es ∧ St w0 (A * flt q (recC bad F).2 * rdP w0 B r q F * esO cv l) w') w := by
  refine callW_of_lift l48_ok (by simp [l48]) ?_
  simp -implicitDefEqProofs [l48]
  refine eff_new s fun c w1 s1 => ?_
  simp -implicitDefEqProofs
  have s1 : St w0 (A * pt c (.cells (PC.zero.cs (.slice none 0 0)).toArray 28 (0, 0)) * flt q bad * rdP w0 B r q F) w1 := s1.to (by simp only [PC.cs, PC.zero, Value.cells]; ac_rfl)
  generalize hX : A * pt c (.cells (PC.zero.cs (.slice none 0 0)).toArray 28 (0, 0)) = D at s1
  have hD : ∀ w, St w0 D w → St w0 B w := fun w h => by rw [← hX] at h; exact hB _ h.drop
  obtain ⟨x1, hx1⟩ : ∃ x, takeR bad F 1 = x := ⟨_, rfl⟩
  refine eff_call ((number_spec r q bad F 1 w0 w1 D B hD hO s1).mono ?_)
  rintro _ w2 ⟨rfl, s2⟩
  rw [hx1] at s2 ⊢
  simp -implicitDefEqProofs
  obtain ⟨x2, hx2⟩ : ∃ x, takeR x1.2 F 2 = x := ⟨_, rfl⟩
  refine eff_call ((number_spec r q x1.2 F 2 w0 w2 D B hD hO s2).mono ?_)
  rintro _ w3 ⟨rfl, s3⟩
  rw [hx2] at s3 ⊢
  simp -implicitDefEqProofs
  obtain ⟨x3, hx3⟩ : ∃ x, takeR x2.2 F 3 = x := ⟨_, rfl⟩
  refine eff_call ((number_spec r q x2.2 F 3 w0 w3 D B hD hO s3).mono ?_)
  rintro _ w4 ⟨rfl, s4⟩
  rw [hx3] at s4 ⊢
  simp -implicitDefEqProofs
  obtain ⟨x4, hx4⟩ : ∃ x, takeR x3.2 F 4 = x := ⟨_, rfl⟩
  refine eff_call ((number_spec r q x3.2 F 4 w0 w4 D B hD hO s4).mono ?_)
  rintro _ w5 ⟨rfl, s5⟩
  rw [hx4] at s5 ⊢
  simp -implicitDefEqProofs
  obtain ⟨x5, hx5⟩ : ∃ x, takeR x4.2 F 5 = x := ⟨_, rfl⟩
  refine eff_call ((number_spec r q x4.2 F 5 w0 w5 D B hD hO s5).mono ?_)
  rintro _ w6 ⟨rfl, s6⟩
  rw [hx5] at s6 ⊢
  simp -implicitDefEqProofs
  obtain ⟨x6, hx6⟩ : ∃ x, takeR x5.2 F 6 = x := ⟨_, rfl⟩
  refine eff_call ((number_spec r q x5.2 F 6 w0 w6 D B hD hO s6).mono ?_)
  rintro _ w7 ⟨rfl, s7⟩
  rw [hx6] at s7 ⊢
  simp -implicitDefEqProofs
  obtain ⟨x7, hx7⟩ : ∃ x, numR x6.2 F 7 whole = x := ⟨_, rfl⟩
  refine eff_call ((Number_rspec r q x6.2 F 7 whole w0 w7 D B hD hO s7).mono ?_)
  rintro _ w8 ⟨rfl, s8⟩
  rw [hx7] at s8 ⊢
  simp -implicitDefEqProofs
  obtain ⟨x8, hx8⟩ : ∃ x, numR x7.2 F 8 whole = x := ⟨_, rfl⟩
  refine eff_call ((Number_rspec r q x7.2 F 8 whole w0 w8 D B hD hO s8).mono ?_)
  rintro _ w9 ⟨rfl, s9⟩
  rw [hx8] at s9 ⊢
  simp -implicitDefEqProofs
  obtain ⟨x9, hx9⟩ : ∃ x, numR x8.2 F 9 whole = x := ⟨_, rfl⟩
  refine eff_call ((Number_rspec r q x8.2 F 9 whole w0 w9 D B hD hO s9).mono ?_)
  rintro _ w10 ⟨rfl, s10⟩
  rw [hx9] at s10 ⊢
  simp -implicitDefEqProofs
  obtain ⟨x10, hx10⟩ : ∃ x, takeR x9.2 F 10 = x := ⟨_, rfl⟩
  refine eff_call ((number_spec r q x9.2 F 10 w0 w10 D B hD hO s10).mono ?_)
  rintro _ w11 ⟨rfl, s11⟩
  rw [hx10] at s11 ⊢
  simp -implicitDefEqProofs [Instr.fill, Value.cells]
  refine eff_new s11 fun d w12 s12 => ?_
  simp -implicitDefEqProofs [Instr.fill, Value.cells]
  have hC : recC bad F = (⟨x1.1, x2.1, x3.1, x4.1, x5.1, x6.1, x7.1, x8.1, x9.1, x10.1, (rdEs (rcsR x10.2 F 11 1048576).1 (rcsR x10.2 F 11 1048576).2).1⟩, (rdEs (rcsR x10.2 F 11 1048576).1 (rcsR x10.2 F 11 1048576).2).2) := by simp only [recC, hx1, hx2, hx3, hx4, hx5, hx6, hx7, hx8, hx9, hx10]
  refine eff_stA (vs := (⟨x1.1, x2.1, x3.1, x4.1, x5.1, x6.1, x7.1, x8.1, x9.1, x10.1, []⟩ : PC).cs (.slice none 0 0)) s12 rfl rfl (pc_one _ _ rfl) (by simp) fun w13 s13 => ?_
  simp -implicitDefEqProofs
  have s13 : St w0 (D * flt q x10.2 * rdP w0 B r q F * pt d (.cells ((recC bad F).1.cs (.slice none 0 0)).toArray 28 (0, 0))) w13 := by rw [hC]; simpa [PC.cs] using s13
  obtain ⟨e, he⟩ : ∃ e, (recC bad F).1 = e := ⟨_, rfl⟩
  have hee : e.es = (rdEs (rcsR x10.2 F 11 1048576).1 (rcsR x10.2 F 11 1048576).2).1 := by rw [← he, hC]
  have hbe : (recC bad F).2 = (rdEs (rcsR x10.2 F 11 1048576).1 (rcsR x10.2 F 11 1048576).2).2 := by rw [hC]
  obtain ⟨b9, hb9⟩ : ∃ b9, x10.2 = b9 := ⟨_, rfl⟩
  rw [he, hb9] at s13
  rw [hb9] at hee hbe
  rw [he, hbe]
  have hL1 := rcsR_ok (bad := b9) (F := F) 11 1048576
  have hL2 := (lstR_ok (bad := b9) hO 11 1048576).1
  clear hC hx1 hx2 hx3 hx4 hx5 hx6 hx7 hx8 hx9 hx10
  have s13 : St w0 (D * pt d (.cells (e.cs (.slice none 0 0)).toArray 28 (0, 0)) * flt q b9 * rdP w0 B r q F) w13 := s13.to (by simp only [PC.cs, Value.cells]; ac_rfl)
  refine eff_call ((Records_rspec r q b9 F 11 1048576 w0 w13 _ B (fun w s => hD w s.drop) hO s13).mono ?_)
  rintro lv w14 ⟨ps, hps, s14⟩
  obtain ⟨b1, hb1⟩ : ∃ b1, (rcsR b9 F 11 1048576).1 = b1 := ⟨_, rfl⟩
  rw [← hps, hb1] at hee hbe ⊢
  rw [hb1] at s14
  rw [← hps] at hL1
  obtain ⟨L, hL⟩ : ∃ L, ps.map (·.2) = L := ⟨_, rfl⟩
  rw [hL] at hee hbe hL1 ⊢
  have hpL : L.length = ps.length := by rw [← hL]; simp
  obtain ⟨la, lc, rfl, _, _⟩ := (s14.swap).own_val
  simp -implicitDefEqProofs
  obtain ⟨E, hE⟩ : ∃ E, D * rdP w0 B r q F * own 78 1 (.slice la ps.length lc) ps.length (rptrs ps) = E := ⟨_, rfl⟩
  have row : ∀ {Z : Asn} {w : World} {i : Nat}, i < ps.length → St w0 (E * Z) w → ∃ g, la = some ⟨g, 0, none⟩ ∧ ∀ u, (rptrs ps)[i]? = some u → w.cell? ⟨g, i, none⟩ = some u := fun {Z w i} hi h => by
    rw [← hE] at h
    obtain ⟨g, cap, hv, _, hc⟩ := (h.to (B := D * rdP w0 B r q F * Z * own 78 1 (.slice la ps.length lc) ps.length (rptrs ps)) (by ac_rfl)).own_at (by omega)
    cases hv
    exact ⟨g, rfl, fun u hu => by have := hc i u hu; simpa using this⟩
  refine loopI (fun env w' => ∃ (i : Nat) (o3 sv : Value) (l : List (PE × Value)), env = [.pointer (some ⟨r, 0, none⟩), .pointer (some ⟨c, 0, none⟩), .pointer (some ⟨d, 0, none⟩), o3, .slice la ps.length lc, .int .i64 ps.length, .int .i64 i] ∧ i ≤ L.length ∧ l.map (·.1) = (rdEs b1 (L.take i)).1 ∧ St w0 (E * flt q (rdEs b1 (L.take i)).2 * rdsA w0 B q ps * pt d (.cells (e.cs sv).toArray 28 (0, 0)) * esA l * own 25 5 sv l.length (eflat l)) w')
    (fun env _ => L.length - slotN env 6) ⟨0, _, .slice none 0 0, [], rfl, by omega, rfl, ?_⟩ ?_
  · have h := (s14.to (B := E * flt q b1 * rdsA w0 B q ps * pt d (.cells (e.cs (.slice none 0 0)).toArray 28 (0, 0))) (by rw [← hE]; ac_rfl)).own_nil 25 5
    have e1 : esA [] = emp := rfl
    have e2 : (rdEs b1 (L.take 0)).2 = b1 := by simp [rdEs]
    rw [e1, sep_emp, e2]
    exact h
  rintro LQ env w' ⟨i, o3, sv, l, rfl, hi, hl, t1⟩ hN hXX hR
  have hll : l.length = i := by
    have := congrArg List.length hl
    rw [rdEs_len b1 L i (by omega)] at this
    simpa using this
  obtain ⟨bi, hbi⟩ : ∃ bi, (rdEs b1 (L.take i)).2 = bi := ⟨_, rfl⟩
  rw [hbi] at t1
  simp -implicitDefEqProofs
  refine cndI (fun h3 => ?_) (fun h3 => ?_)
  · simp at h3
    have hiL : i < L.length := by omega
    have hip : i < ps.length := by omega
    obtain ⟨g, rfl, hcell⟩ := row hip (t1.to (B := E * (flt q bi * rdsA w0 B q ps * pt d (.cells (e.cs sv).toArray 28 (0, 0)) * esA l * own 25 5 sv l.length (eflat l))) (by ac_rfl))
    simp -implicitDefEqProofs [h3]
    refine eff_ldc (v := .pointer (some ⟨ps[i].1, 0, none⟩)) (hcell _ (by simp [rptrs, hip])) ?_
    simp -implicitDefEqProofs
    obtain ⟨M, hM⟩ := rdsA_at w0 B q ps i hip
    have hLi : L[i] = ps[i].2 := by simp [← hL]
    have hOi : OKF ps[i].2 := by rw [← hLi]; exact hL1.2 _ (List.getElem_mem hiL)
    obtain ⟨p, hp⟩ : ∃ p, ps[i].1 = p := ⟨_, rfl⟩
    rw [hp]
    rw [← hLi, hp] at hM
    rw [← hLi] at hOi
    obtain ⟨G, hG⟩ : ∃ G, L[i] = G := ⟨_, rfl⟩
    rw [hG] at hM hOi
    obtain ⟨x, hx⟩ : ∃ x, recE bi G = x := ⟨_, rfl⟩
    have hnext : rdEs b1 (L.take (i + 1)) = ((rdEs b1 (L.take i)).1 ++ [x.1], x.2) := by
      rw [List.take_succ_eq_append_getElem hiL, rdEs_snoc, hbi, hG, hx]
    obtain ⟨Hh, hH⟩ : ∃ Hh, E * M * esA l = Hh := ⟨_, rfl⟩
    rw [hM] at t1
    have t2 : St w0 (Hh * pt d (.cells (e.cs sv).toArray 28 (0, 0)) * own 25 5 sv l.length (eflat l) * flt q bi * rdP w0 B p q G) w' := t1.to (by rw [← hH]; ac_rfl)
    have hBH : ∀ w, St w0 (Hh * pt d (.cells (e.cs sv).toArray 28 (0, 0)) * own 25 5 sv l.length (eflat l)) w → St w0 B w := fun w h => by
      have h := h.drop.drop
      rw [← hH, ← hE] at h
      exact hD _ h.drop.drop.drop.drop
    refine regmI (c4C (St w0 (Hh * pt d (.cells (e.cs sv).toArray 28 (0, 0)) * own 25 5 sv l.length (eflat l) * flt q bi * rdP w0 B p q G))
      (fun a w => ∃ v, a = .agg (x.1.cs v).toArray ∧ St w0 (Hh * pt d (.cells (e.cs sv).toArray 28 (0, 0)) * own 25 5 sv l.length (eflat l) * flt q x.2 * rdP w0 B p q G * own 3 1 v x.1.ws.length (ints x.1.ws)) w)
      (fun a b w => ∃ v, a = .agg (x.1.cs v).toArray ∧ v.oneCell' = true ∧ ∃ k, b = .slice (some ⟨k, 0, none⟩) 1 1 ∧ St w0 (Hh * pt d (.cells (e.cs sv).toArray 28 (0, 0)) * own 25 5 sv l.length (eflat l) * flt q x.2 * rdP w0 B p q G * own 3 1 v x.1.ws.length (ints x.1.ws) * pt k (.cells (x.1.cs v).toArray 25 (0, 0))) w)
      (fun _ _ u w => u.oneCell' = true ∧ ∃ v, St w0 (Hh * flt q x.2 * rdP w0 B p q G * own 3 1 v x.1.ws.length (ints x.1.ws) * own 25 5 u (l.length + 1) (eflat l ++ x.1.cs v) * pt d (.cells (e.cs sv).toArray 28 (0, 0))) w)
      (fun _ _ u w => ∃ v, St w0 (Hh * flt q x.2 * rdP w0 B p q G * own 3 1 v x.1.ws.length (ints x.1.ws) * own 25 5 u (l.length + 1) (eflat l ++ x.1.cs v) * pt d (.cells (e.cs u).toArray 28 (0, 0))) w)) t2.drew ?_
    simp -implicitDefEqProofs
    refine effm_ldc (v := sv) (fun vs' w he hw => ?_) ?_
    · have : ∃ Z : Asn, St w0 (Hh * Z * pt d (.cells (e.cs sv).toArray 28 (0, 0))) w := by
        rcases c4_pre he hw with h | ⟨a, v, _, h⟩ | ⟨a, b, v, _, _, k, _, h⟩
        · exact ⟨own 25 5 sv l.length (eflat l) * flt q bi * rdP w0 B p q G, h.to (by ac_rfl)⟩
        · exact ⟨own 25 5 sv l.length (eflat l) * flt q x.2 * rdP w0 B p q G * own 3 1 v x.1.ws.length (ints x.1.ws), h.to (by ac_rfl)⟩
        · exact ⟨own 25 5 sv l.length (eflat l) * flt q x.2 * rdP w0 B p q G * own 3 1 v x.1.ws.length (ints x.1.ws) * pt k (.cells (x.1.cs v).toArray 25 (0, 0)), h.to (by ac_rfl)⟩
      obtain ⟨Z, h⟩ := this
      exact (cell_of h.look).trans rfl
    simp -implicitDefEqProofs
    refine effm_mv rfl (fun w hw => eff_call ((readEntry_spec p q bi G w0 w _ B hBH hOi hw).mono ?_)) (fun a ha => ?_)
    · rintro _ w9 ⟨v, rfl, h⟩
      rw [hx] at h ⊢
      exact ⟨v, rfl, h⟩
    obtain ⟨_, v, rfl, _⟩ := ha
    simp -implicitDefEqProofs
    refine effm_mv rfl (fun w hw => ?_) (fun b hb => ?_)
    · obtain ⟨v', e1, hw⟩ := hw
      obtain ⟨_, _, hv1, _⟩ := hw.own_val
      exact eff_bslV (v := .agg (x.1.cs v).toArray) hw rfl fun k w' h => ⟨v', e1, by rw [hv1]; rfl, k, rfl, by rw [e1] at h; exact h⟩
    obtain ⟨_, v', _, _, k, rfl, _⟩ := hb
    simp -implicitDefEqProofs
    refine effm_mv rfl (fun w hw => ?_) (fun u hu => ?_)
    · obtain ⟨v2, _, hone, k2, e2, hw⟩ := hw
      cases e2
      refine eff_app (m := 1) (news := x.1.cs v2) (hw.to (B := Hh * pt d (.cells (e.cs sv).toArray 28 (0, 0)) * flt q x.2 * rdP w0 B p q G * own 3 1 v2 x.1.ws.length (ints x.1.ws) * pt k (.cells (x.1.cs v2).toArray 25 (0, 0)) * own 25 5 sv l.length (eflat l)) (by ac_rfl)) rfl (by simpa using hw.cells_look) (pe_one _ _ hone) (by decide) rfl (by unfold maxLen; omega) (by omega) fun u w' h => ?_
      have hu1 : u.oneCell' = true := by obtain ⟨_, _, rfl, _⟩ := h.own_val; rfl
      exact ⟨hu1, v2, h.cut (pt k (.cells (x.1.cs v2).toArray 25 (0, 0))) (by ac_rfl)⟩
    obtain ⟨_, hu1, v3, _⟩ := hu
    simp -implicitDefEqProofs
    refine effm_mv rfl (fun w hw => ?_) (fun z hz => ?_)
    · obtain ⟨_, v4, hw⟩ := hw
      refine eff_st1 hw hu1 (by simp [PC.cs]) fun w' h => ⟨v4, ?_⟩
      refine h.to ?_
      simp [PC.cs]
    simp -implicitDefEqProofs
    rintro w9 ⟨v5, t9⟩
    try simp (disch := omega) only [wrap64]
    refine hN _ _ ⟨i + 1, _, u, l ++ [(x.1, v5)], by simp; rfl, by omega, by rw [hnext, ← hl]; simp, ?_⟩ (by simp [slotN]; omega)
    have ef : eflat (l ++ [(x.1, v5)]) = eflat l ++ x.1.cs v5 := by simp [eflat]
    rw [hnext, hM, esA_snoc, ef, List.length_append]
    refine t9.to ?_
    rw [← hH]
    simp only [List.length_singleton]
    ac_rfl
  · simp at h3
    simp -implicitDefEqProofs
    refine hXX _ _ _ ?_
    obtain rfl : i = L.length := by omega
    rw [List.take_length] at hl hbi
    simp -implicitDefEqProofs
    obtain ⟨sa, sc, rfl, _, _⟩ := t1.own_val
    refine eff_ldcs (vs := e.cs (.slice sa l.length sc)) (St.row_cells (F := E * flt q bi * rdsA w0 B q ps * esA l * own 25 5 (.slice sa l.length sc) l.length (eflat l)) (t1.to (by ac_rfl))) rfl ?_
    simp -implicitDefEqProofs
    rw [← hE, ← hX] at t1
    refine eff_stA (vs := e.cs (.slice sa l.length sc)) (t1.to (B := A * rdP w0 B r q F * own 78 1 (.slice la ps.length lc) ps.length (rptrs ps) * flt q bi * rdsA w0 B q ps * esA l * own 25 5 (.slice sa l.length sc) l.length (eflat l) * pt d (.cells (e.cs (.slice sa l.length sc)).toArray 28 (0, 0)) * pt c (.cells (PC.zero.cs (.slice none 0 0)).toArray 28 (0, 0))) (by ac_rfl)) rfl rfl (pc_one _ _ rfl) (by simp [PC.cs]) fun w15 t6 => ?_
    simp -implicitDefEqProofs
    have t6 : St w0 (A * rdP w0 B r q F * own 78 1 (.slice la ps.length lc) ps.length (rptrs ps) * flt q bi * rdsA w0 B q ps * esA l * own 25 5 (.slice sa l.length sc) l.length (eflat l) * pt d (.cells (e.cs (.slice sa l.length sc)).toArray 28 (0, 0)) * pt c (.cells (e.cs (.slice sa l.length sc)).toArray 28 (0, 0))) w15 := by simpa [PC.cs] using t6
    refine rv_cellA rfl t6.row_cells rfl ?_
    simp -implicitDefEqProofs
    refine ⟨_, rfl, l, by rw [hl, hee], ?_⟩
    rw [hbi]
    exact t6.drop.cut (own 78 1 (.slice la ps.length lc) ps.length (rptrs ps) * rdsA w0 B q ps * pt d (.cells (e.cs (.slice sa l.length sc)).toArray 28 (0, 0))) (by simp only [esO]; ac_rfl)
set_option maxHeartbeats 2000000 in
theorem rreadContract_spec (r q : Nat) (bad : Bool) (F : Flds) (w0 w : World) (A : Asn) (hO : OKF F) (s : St w0 (A * rflt q bad * rrP r q F) w) :
    CallW Try.prog 40 [.pointer (some ⟨r, 0, none⟩)] (fun x w' => ∃ cv l, x = .agg ((recC bad F).1.cs cv).toArray ∧ l.map (·.1) = (recC bad F).1.es ∧ St w0 (A * rflt q (recC bad F).2 * rrP r q F * esO cv l) w') w := by
  refine callW_of_lift l40_ok (by simp [l40]) ?_
  simp -implicitDefEqProofs [l40]
  refine eff_new s fun c w1 s1 => ?_
  simp -implicitDefEqProofs
  have s1 : St w0 (A * pt c (.cells (PC.zero.cs (.slice none 0 0)).toArray 28 (0, 0)) * rflt q bad * rrP r q F) w1 := s1.to (by simp only [PC.cs, PC.zero, Value.cells]; ac_rfl)
  generalize hX : A * pt c (.cells (PC.zero.cs (.slice none 0 0)).toArray 28 (0, 0)) = D at s1
  obtain ⟨x1, hx1⟩ : ∃ x, takeR bad F 1 = x := ⟨_, rfl⟩
  refine eff_call ((rnumber_spec r q bad F 1 w0 w1 D hO s1).mono ?_)
  rintro _ w2 ⟨rfl, s2⟩
  rw [hx1] at s2 ⊢
  simp -implicitDefEqProofs
  obtain ⟨x2, hx2⟩ : ∃ x, takeR x1.2 F 2 = x := ⟨_, rfl⟩
  refine eff_call ((rnumber_spec r q x1.2 F 2 w0 w2 D hO s2).mono ?_)
  rintro _ w3 ⟨rfl, s3⟩
  rw [hx2] at s3 ⊢
  simp -implicitDefEqProofs
  obtain ⟨x3, hx3⟩ : ∃ x, takeR x2.2 F 3 = x := ⟨_, rfl⟩
  refine eff_call ((rnumber_spec r q x2.2 F 3 w0 w3 D hO s3).mono ?_)
  rintro _ w4 ⟨rfl, s4⟩
  rw [hx3] at s4 ⊢
  simp -implicitDefEqProofs
  obtain ⟨x4, hx4⟩ : ∃ x, takeR x3.2 F 4 = x := ⟨_, rfl⟩
  refine eff_call ((rnumber_spec r q x3.2 F 4 w0 w4 D hO s4).mono ?_)
  rintro _ w5 ⟨rfl, s5⟩
  rw [hx4] at s5 ⊢
  simp -implicitDefEqProofs
  obtain ⟨x5, hx5⟩ : ∃ x, takeR x4.2 F 5 = x := ⟨_, rfl⟩
  refine eff_call ((rnumber_spec r q x4.2 F 5 w0 w5 D hO s5).mono ?_)
  rintro _ w6 ⟨rfl, s6⟩
  rw [hx5] at s6 ⊢
  simp -implicitDefEqProofs
  obtain ⟨x6, hx6⟩ : ∃ x, takeR x5.2 F 6 = x := ⟨_, rfl⟩
  refine eff_call ((rnumber_spec r q x5.2 F 6 w0 w6 D hO s6).mono ?_)
  rintro _ w7 ⟨rfl, s7⟩
  rw [hx6] at s7 ⊢
  simp -implicitDefEqProofs
  obtain ⟨x7, hx7⟩ : ∃ x, numR x6.2 F 7 whole = x := ⟨_, rfl⟩
  refine eff_call ((rNumber_rspec r q x6.2 F 7 whole w0 w7 D hO s7).mono ?_)
  rintro _ w8 ⟨rfl, s8⟩
  rw [hx7] at s8 ⊢
  simp -implicitDefEqProofs
  obtain ⟨x8, hx8⟩ : ∃ x, numR x7.2 F 8 whole = x := ⟨_, rfl⟩
  refine eff_call ((rNumber_rspec r q x7.2 F 8 whole w0 w8 D hO s8).mono ?_)
  rintro _ w9 ⟨rfl, s9⟩
  rw [hx8] at s9 ⊢
  simp -implicitDefEqProofs
  obtain ⟨x9, hx9⟩ : ∃ x, numR x8.2 F 9 whole = x := ⟨_, rfl⟩
  refine eff_call ((rNumber_rspec r q x8.2 F 9 whole w0 w9 D hO s9).mono ?_)
  rintro _ w10 ⟨rfl, s10⟩
  rw [hx9] at s10 ⊢
  simp -implicitDefEqProofs
  obtain ⟨x10, hx10⟩ : ∃ x, takeR x9.2 F 10 = x := ⟨_, rfl⟩
  refine eff_call ((rnumber_spec r q x9.2 F 10 w0 w10 D hO s10).mono ?_)
  rintro _ w11 ⟨rfl, s11⟩
  rw [hx10] at s11 ⊢
  simp -implicitDefEqProofs [Instr.fill, Value.cells]
  refine eff_new s11 fun d w12 s12 => ?_
  simp -implicitDefEqProofs [Instr.fill, Value.cells]
  have hC : recC bad F = (⟨x1.1, x2.1, x3.1, x4.1, x5.1, x6.1, x7.1, x8.1, x9.1, x10.1, (rdEs (rcsR x10.2 F 11 1048576).1 (rcsR x10.2 F 11 1048576).2).1⟩, (rdEs (rcsR x10.2 F 11 1048576).1 (rcsR x10.2 F 11 1048576).2).2) := by simp only [recC, hx1, hx2, hx3, hx4, hx5, hx6, hx7, hx8, hx9, hx10]
  refine eff_stA (vs := (⟨x1.1, x2.1, x3.1, x4.1, x5.1, x6.1, x7.1, x8.1, x9.1, x10.1, []⟩ : PC).cs (.slice none 0 0)) s12 rfl rfl (pc_one _ _ rfl) (by simp) fun w13 s13 => ?_
  simp -implicitDefEqProofs
  have s13 : St w0 (D * rflt q x10.2 * rrP r q F * pt d (.cells ((recC bad F).1.cs (.slice none 0 0)).toArray 28 (0, 0))) w13 := by rw [hC]; simpa [PC.cs] using s13
  obtain ⟨e, he⟩ : ∃ e, (recC bad F).1 = e := ⟨_, rfl⟩
  have hee : e.es = (rdEs (rcsR x10.2 F 11 1048576).1 (rcsR x10.2 F 11 1048576).2).1 := by rw [← he, hC]
  have hbe : (recC bad F).2 = (rdEs (rcsR x10.2 F 11 1048576).1 (rcsR x10.2 F 11 1048576).2).2 := by rw [hC]
  obtain ⟨b9, hb9⟩ : ∃ b9, x10.2 = b9 := ⟨_, rfl⟩
  rw [he, hb9] at s13
  rw [hb9] at hee hbe
  rw [he, hbe]
  have hL1 := rcsR_ok (bad := b9) (F := F) 11 1048576
  have hL2 := (lstR_ok (bad := b9) hO 11 1048576).1
  clear hC hx1 hx2 hx3 hx4 hx5 hx6 hx7 hx8 hx9 hx10
  have s13 : St w0 (D * pt d (.cells (e.cs (.slice none 0 0)).toArray 28 (0, 0)) * rflt q b9 * rrP r q F) w13 := s13.to (by simp only [PC.cs, Value.cells]; ac_rfl)
  refine eff_call ((rRecords_rspec r q b9 F 11 1048576 w0 w13 _ hO s13).mono ?_)
  rintro lv w14 ⟨ps, hps, s14⟩
  obtain ⟨b1, hb1⟩ : ∃ b1, (rcsR b9 F 11 1048576).1 = b1 := ⟨_, rfl⟩
  rw [← hps, hb1] at hee hbe ⊢
  rw [hb1] at s14
  rw [← hps] at hL1
  obtain ⟨L, hL⟩ : ∃ L, ps.map (·.2) = L := ⟨_, rfl⟩
  rw [hL] at hee hbe hL1 ⊢
  have hpL : L.length = ps.length := by rw [← hL]; simp
  obtain ⟨la, lc, rfl, _, _⟩ := (s14.swap).own_val
  simp -implicitDefEqProofs
  obtain ⟨E, hE⟩ : ∃ E, D * rrP r q F * own 70 1 (.slice la ps.length lc) ps.length (rptrs ps) = E := ⟨_, rfl⟩
  have row : ∀ {Z : Asn} {w : World} {i : Nat}, i < ps.length → St w0 (E * Z) w → ∃ g, la = some ⟨g, 0, none⟩ ∧ ∀ u, (rptrs ps)[i]? = some u → w.cell? ⟨g, i, none⟩ = some u := fun {Z w i} hi h => by
    rw [← hE] at h
    obtain ⟨g, cap, hv, _, hc⟩ := (h.to (B := D * rrP r q F * Z * own 70 1 (.slice la ps.length lc) ps.length (rptrs ps)) (by ac_rfl)).own_at (by omega)
    cases hv
    exact ⟨g, rfl, fun u hu => by have := hc i u hu; simpa using this⟩
  refine loopI (fun env w' => ∃ (i : Nat) (o3 sv : Value) (l : List (PE × Value)), env = [.pointer (some ⟨r, 0, none⟩), .pointer (some ⟨c, 0, none⟩), .pointer (some ⟨d, 0, none⟩), .slice la ps.length lc, .int .i64 i, o3] ∧ i ≤ L.length ∧ l.map (·.1) = (rdEs b1 (L.take i)).1 ∧ St w0 (E * rflt q (rdEs b1 (L.take i)).2 * rrsA q ps * pt d (.cells (e.cs sv).toArray 28 (0, 0)) * esA l * own 25 5 sv l.length (eflat l)) w')
    (fun env _ => L.length - slotN env 4) ⟨0, _, .slice none 0 0, [], rfl, by omega, rfl, ?_⟩ ?_
  · have h := (s14.to (B := E * rflt q b1 * rrsA q ps * pt d (.cells (e.cs (.slice none 0 0)).toArray 28 (0, 0))) (by rw [← hE]; ac_rfl)).own_nil 25 5
    have e1 : esA [] = emp := rfl
    have e2 : (rdEs b1 (L.take 0)).2 = b1 := by simp [rdEs]
    rw [e1, sep_emp, e2]
    exact h
  rintro LQ env w' ⟨i, o3, sv, l, rfl, hi, hl, t1⟩ hN hXX hR
  have hll : l.length = i := by
    have := congrArg List.length hl
    rw [rdEs_len b1 L i (by omega)] at this
    simpa using this
  obtain ⟨bi, hbi⟩ : ∃ bi, (rdEs b1 (L.take i)).2 = bi := ⟨_, rfl⟩
  rw [hbi] at t1
  simp -implicitDefEqProofs
  refine cndI (fun h3 => ?_) (fun h3 => ?_)
  · simp at h3
    have hiL : i < L.length := by omega
    have hip : i < ps.length := by omega
    obtain ⟨g, rfl, hcell⟩ := row hip (t1.to (B := E * (rflt q bi * rrsA q ps * pt d (.cells (e.cs sv).toArray 28 (0, 0)) * esA l * own 25 5 sv l.length (eflat l))) (by ac_rfl))
    simp -implicitDefEqProofs [h3]
    refine eff_ldc (v := .pointer (some ⟨ps[i].1, 0, none⟩)) (hcell _ (by simp [rptrs, hip])) ?_
    simp -implicitDefEqProofs
    obtain ⟨M, hM⟩ := rrsA_at q ps i hip
    have hLi : L[i] = ps[i].2 := by simp [← hL]
    have hOi : OKF ps[i].2 := by rw [← hLi]; exact hL1.2 _ (List.getElem_mem hiL)
    obtain ⟨p, hp⟩ : ∃ p, ps[i].1 = p := ⟨_, rfl⟩
    rw [hp]
    rw [← hLi, hp] at hM
    rw [← hLi] at hOi
    obtain ⟨G, hG⟩ : ∃ G, L[i] = G := ⟨_, rfl⟩
    rw [hG] at hM hOi
    obtain ⟨x, hx⟩ : ∃ x, recE bi G = x := ⟨_, rfl⟩
    have hnext : rdEs b1 (L.take (i + 1)) = ((rdEs b1 (L.take i)).1 ++ [x.1], x.2) := by
      rw [List.take_succ_eq_append_getElem hiL, rdEs_snoc, hbi, hG, hx]
    obtain ⟨Hh, hH⟩ : ∃ Hh, E * M * esA l = Hh := ⟨_, rfl⟩
    rw [hM] at t1
    have t2 : St w0 (Hh * pt d (.cells (e.cs sv).toArray 28 (0, 0)) * own 25 5 sv l.length (eflat l) * rflt q bi * rrP p q G) w' := t1.to (by rw [← hH]; ac_rfl)
    refine eff_call ((rreadEntry_spec p q bi G w0 w' _ hOi t2).mono ?_)
    rintro _ w3 ⟨v5, rfl, t3⟩
    rw [hx] at t3 ⊢
    obtain ⟨_, _, hv1, _⟩ := t3.own_val
    have hone : v5.oneCell' = true := by rw [hv1]; rfl
    simp -implicitDefEqProofs
    refine eff_new t3 fun k w4 t4 => ?_
    simp -implicitDefEqProofs
    refine eff_stA (vs := x.1.cs v5) t4 rfl rfl (pe_one _ _ hone) (by simp) fun w5 t5 => ?_
    simp -implicitDefEqProofs
    have t5 : St w0 (Hh * pt d (.cells (e.cs sv).toArray 28 (0, 0)) * own 25 5 sv l.length (eflat l) * rflt q x.2 * rrP p q G * own 3 1 v5 x.1.ws.length (ints x.1.ws) * pt k (.cells (x.1.cs v5).toArray 25 (0, 0))) w5 := by simpa [PE.cs] using t5
    refine eff_ldc (v := sv) ((cell_of (St.look (F := Hh * own 25 5 sv l.length (eflat l) * rflt q x.2 * rrP p q G * own 3 1 v5 x.1.ws.length (ints x.1.ws) * pt k (.cells (x.1.cs v5).toArray 25 (0, 0))) (t5.to (by ac_rfl)))).trans rfl) ?_
    simp -implicitDefEqProofs
    refine eff_ldcs (vs := x.1.cs v5) t5.row_cells rfl ?_
    simp -implicitDefEqProofs
    refine eff_bslV (v := .agg (x.1.cs v5).toArray) t5 rfl fun k2 w6 t6 => ?_
    simp -implicitDefEqProofs
    obtain ⟨sa, sc, rfl, _, _⟩ := St.own_val (t2.to (B := Hh * pt d (.cells (e.cs sv).toArray 28 (0, 0)) * rflt q bi * rrP p q G * own 25 5 sv l.length (eflat l)) (by ac_rfl))
    refine eff_app (m := 1) (news := x.1.cs v5) (t6.to (B := Hh * pt d (.cells (e.cs (.slice sa l.length sc)).toArray 28 (0, 0)) * rflt q x.2 * rrP p q G * own 3 1 v5 x.1.ws.length (ints x.1.ws) * pt k (.cells (x.1.cs v5).toArray 25 (0, 0)) * pt k2 (.cells (x.1.cs v5).toArray 25 (0, 0)) * own 25 5 (.slice sa l.length sc) l.length (eflat l)) (by simp only [Value.cells]; ac_rfl)) rfl (by simpa using t6.cells_look) (pe_one _ _ hone) (by decide) rfl (by unfold maxLen; omega) (by omega) fun u w7 t7 => ?_
    simp -implicitDefEqProofs
    have hu1 : u.oneCell' = true := by obtain ⟨_, _, rfl, _⟩ := t7.own_val; rfl
    refine eff_st1 (t7.to (B := Hh * rflt q x.2 * rrP p q G * own 3 1 v5 x.1.ws.length (ints x.1.ws) * pt k (.cells (x.1.cs v5).toArray 25 (0, 0)) * pt k2 (.cells (x.1.cs v5).toArray 25 (0, 0)) * own 25 5 u (l.length + 1) (eflat l ++ x.1.cs v5) * pt d (.cells (e.cs (.slice sa l.length sc)).toArray 28 (0, 0))) (by ac_rfl)) hu1 (by simp [PC.cs]) fun w8 t8 => ?_
    simp -implicitDefEqProofs
    have t9 : St w0 (Hh * rflt q x.2 * rrP p q G * own 3 1 v5 x.1.ws.length (ints x.1.ws) * own 25 5 u (l.length + 1) (eflat l ++ x.1.cs v5) * pt d (.cells (e.cs u).toArray 28 (0, 0))) w8 := t8.cut (pt k (.cells (x.1.cs v5).toArray 25 (0, 0)) * pt k2 (.cells (x.1.cs v5).toArray 25 (0, 0))) (by simp [PC.cs]; ac_rfl)
    try simp (disch := omega) only [wrap64]
    refine hN _ _ ⟨i + 1, _, u, l ++ [(x.1, v5)], by simp; rfl, by omega, by rw [hnext, ← hl]; simp, ?_⟩ (by simp [slotN]; omega)
    have ef : eflat (l ++ [(x.1, v5)]) = eflat l ++ x.1.cs v5 := by simp [eflat]
    rw [hnext, hM, esA_snoc, ef, List.length_append]
    refine t9.to ?_
    rw [← hH]
    simp only [List.length_singleton]
    ac_rfl
  · simp at h3
    simp -implicitDefEqProofs
    refine hXX _ _ _ ?_
    obtain rfl : i = L.length := by omega
    rw [List.take_length] at hl hbi
    simp -implicitDefEqProofs
    obtain ⟨sa, sc, rfl, _, _⟩ := t1.own_val
    refine eff_ldcs (vs := e.cs (.slice sa l.length sc)) (St.row_cells (F := E * rflt q bi * rrsA q ps * esA l * own 25 5 (.slice sa l.length sc) l.length (eflat l)) (t1.to (by ac_rfl))) rfl ?_
    simp -implicitDefEqProofs
    rw [← hE, ← hX] at t1
    refine eff_stA (vs := e.cs (.slice sa l.length sc)) (t1.to (B := A * rrP r q F * own 70 1 (.slice la ps.length lc) ps.length (rptrs ps) * rflt q bi * rrsA q ps * esA l * own 25 5 (.slice sa l.length sc) l.length (eflat l) * pt d (.cells (e.cs (.slice sa l.length sc)).toArray 28 (0, 0)) * pt c (.cells (PC.zero.cs (.slice none 0 0)).toArray 28 (0, 0))) (by ac_rfl)) rfl rfl (pc_one _ _ rfl) (by simp [PC.cs]) fun w15 t6 => ?_
    simp -implicitDefEqProofs
    have t6 : St w0 (A * rrP r q F * own 70 1 (.slice la ps.length lc) ps.length (rptrs ps) * rflt q bi * rrsA q ps * esA l * own 25 5 (.slice sa l.length sc) l.length (eflat l) * pt d (.cells (e.cs (.slice sa l.length sc)).toArray 28 (0, 0)) * pt c (.cells (e.cs (.slice sa l.length sc)).toArray 28 (0, 0))) w15 := by simpa [PC.cs] using t6
    refine rv_cellA rfl t6.row_cells rfl ?_
    simp -implicitDefEqProofs
    refine ⟨_, rfl, l, by rw [hl, hee], ?_⟩
    rw [hbi]
    exact t6.drop.cut (own 70 1 (.slice la ps.length lc) ps.length (rptrs ps) * rrsA q ps * pt d (.cells (e.cs (.slice sa l.length sc)).toArray 28 (0, 0))) (by simp only [esO]; ac_rfl)
end Go.HL.Sr

namespace Go.HL.Sr
open Go.HL Go.HL.Tl Go.Proofs
set_option maxRecDepth 4000
set_option linter.unusedSimpArgs false
set_option linter.unusedVariables false
attribute [local irreducible] EffW
theorem ints_at {l : List Int} {i : Nat} (h : i < l.length) : (ints l)[i]? = some (.int .i64 l[i]) := by simp [ints, h]
theorem bytesV_at {l : List UInt8} {i : Nat} (h : i < l.length) : (bytesV l)[i]? = some (.int .u8 l[i].toNat) := by simp [bytesV, h]

def h49_0 : HC := (.seq (.reg (.eff (.b2s 31 9) (.cons (.inp 0) .nil) (.eff (.b2s 31 9) (.cons (.inp 1) .nil) (.chk none (.bin .eql) (.cons (.bv 0) (.cons (.bv 1) .nil)) (.done [(2, (.op (.bin .eql) (.cons (.bv 0) (.cons (.bv 1) .nil))))] none))))) .ret)
@[simp] theorem h49_0_wp : type_of% (@wpH h49_0 _ h49_0.eq_1) := wpH h49_0.eq_1
def l49 : Lifted := ⟨[0, 1, 4], 10, [.slot 2], (.seq (.reg (.done [(2, (.cst (.bool false)))] none)) h49_0)⟩
theorem l49_ok : liftFn T0 49 400 = some l49 := by kernel_rfl

def h41_0 : HC := (.seq (.reg (.done [(2, (.cst (.bool true)))] none)) .ret)
@[simp] theorem h41_0_wp : type_of% (@wpH h41_0 _ h41_0.eq_1) := wpH h41_0.eq_1
def h41_1 : HC := (.reg (.chk none (.bin .add) (.cons (.inp 3) (.cons (.cst (.int .i64 1)) .nil)) (.done [(3, (.op (.bin .add) (.cons (.inp 3) (.cons (.cst (.int .i64 1)) .nil))))] none)))
@[simp] theorem h41_1_wp : type_of% (@wpH h41_1 _ h41_1.eq_1) := wpH h41_1.eq_1
def h41_2 : HC := (.seq (.reg (.done [(2, (.cst (.bool false)))] none)) .ret)
@[simp] theorem h41_2_wp : type_of% (@wpH h41_2 _ h41_2.eq_1) := wpH h41_2.eq_1
def h41_3 : HC := (.brq (some 0) (.chk none (.idxL 1) (.cons (.inp 0) (.cons (.inp 3) .nil)) (.eff (.ld false 1) (.cons (.op (.idxL 1) (.cons (.inp 0) (.cons (.inp 3) .nil))) .nil) (.chk none (.idxL 1) (.cons (.inp 1) (.cons (.inp 3) .nil)) (.eff (.ld false 1) (.cons (.op (.idxL 1) (.cons (.inp 1) (.cons (.inp 3) .nil))) .nil) (.chk none (.bin .neq) (.cons (.bv 0) (.cons (.bv 1) .nil)) (.done [] (some (.op (.bin .neq) (.cons (.bv 0) (.cons (.bv 1) .nil)))))))))) h41_2 .skip)
@[simp] theorem h41_3_wp : type_of% (@wpH h41_3 _ h41_3.eq_1) := wpH h41_3.eq_1
def h41_4 : HC := (.seq (.block 1 h41_3) h41_1)
@[simp] theorem h41_4_wp : type_of% (@wpH h41_4 _ h41_4.eq_1) := wpH h41_4.eq_1
def h41_5 : HC := (.seq (.br (.chk none .lenL (.cons (.inp 0) .nil) (.chk none (.bin .lss) (.cons (.inp 3) (.cons (.op .lenL (.cons (.inp 0) .nil)) .nil)) (.done [] (some (.op (.bin .lss) (.cons (.inp 3) (.cons (.op .lenL (.cons (.inp 0) .nil)) .nil))))))) .skip (.exit 0)) h41_4)
@[simp] theorem h41_5_wp : type_of% (@wpH h41_5 _ h41_5.eq_1) := wpH h41_5.eq_1
def h41_6 : HC := (.loop h41_5)
@[simp] theorem h41_6_wp : type_of% (@wpH h41_6 _ h41_6.eq_1) := wpH h41_6.eq_1
def h41_7 : HC := (.seq (.block 0 h41_6) h41_0)
@[simp] theorem h41_7_wp : type_of% (@wpH h41_7 _ h41_7.eq_1) := wpH h41_7.eq_1
def h41_8 : HC := (.seq (.reg (.done [(3, (.cst (.int .i64 0)))] none)) h41_7)
@[simp] theorem h41_8_wp : type_of% (@wpH h41_8 _ h41_8.eq_1) := wpH h41_8.eq_1
def h41_9 : HC := (.seq (.reg (.done [(2, (.cst (.bool false)))] none)) .ret)
@[simp] theorem h41_9_wp : type_of% (@wpH h41_9 _ h41_9.eq_1) := wpH h41_9.eq_1
def h41_10 : HC := (.seq (.br (.chk none .lenL (.cons (.inp 0) .nil) (.chk none .lenL (.cons (.inp 1) .nil) (.chk none (.bin .neq) (.cons (.op .lenL (.cons (.inp 0) .nil)) (.cons (.op .lenL (.cons (.inp 1) .nil)) .nil)) (.done [] (some (.op (.bin .neq) (.cons (.op .lenL (.cons (.inp 0) .nil)) (.cons (.op .lenL (.cons (.inp 1) .nil)) .nil)))))))) h41_9 .skip) h41_8)
@[simp] theorem h41_10_wp : type_of% (@wpH h41_10 _ h41_10.eq_1) := wpH h41_10.eq_1
def l41 : Lifted := ⟨[0, 1, 4, 5], 26, [.slot 2], (.seq (.reg (.done [(2, (.cst (.bool false)))] none)) h41_10)⟩
theorem l41_ok : liftFn T0 41 400 = some l41 := by kernel_rfl

def h8_0 : HC := (.seq (.reg (.done [(2, (.cst (.bool true)))] none)) .ret)
@[simp] theorem h8_0_wp : type_of% (@wpH h8_0 _ h8_0.eq_1) := wpH h8_0.eq_1
def h8_1 : HC := (.reg (.chk none (.bin .add) (.cons (.inp 3) (.cons (.cst (.int .i64 1)) .nil)) (.done [(3, (.op (.bin .add) (.cons (.inp 3) (.cons (.cst (.int .i64 1)) .nil))))] none)))
@[simp] theorem h8_1_wp : type_of% (@wpH h8_1 _ h8_1.eq_1) := wpH h8_1.eq_1
def h8_2 : HC := (.seq (.reg (.done [(2, (.cst (.bool false)))] none)) .ret)
@[simp] theorem h8_2_wp : type_of% (@wpH h8_2 _ h8_2.eq_1) := wpH h8_2.eq_1
def h8_3 : HC := (.brq (some 0) (.chk none (.idxL 1) (.cons (.inp 0) (.cons (.inp 3) .nil)) (.eff (.ld false 1) (.cons (.op (.idxL 1) (.cons (.inp 0) (.cons (.inp 3) .nil))) .nil) (.chk none (.idxL 1) (.cons (.inp 1) (.cons (.inp 3) .nil)) (.eff (.ld false 1) (.cons (.op (.idxL 1) (.cons (.inp 1) (.cons (.inp 3) .nil))) .nil) (.chk none (.bin .neq) (.cons (.bv 0) (.cons (.bv 1) .nil)) (.done [] (some (.op (.bin .neq) (.cons (.bv 0) (.cons (.bv 1) .nil)))))))))) h8_2 .skip)
@[simp] theorem h8_3_wp : type_of% (@wpH h8_3 _ h8_3.eq_1) := wpH h8_3.eq_1
def h8_4 : HC := (.seq (.block 1 h8_3) h8_1)
@[simp] theorem h8_4_wp : type_of% (@wpH h8_4 _ h8_4.eq_1) := wpH h8_4.eq_1
def h8_5 : HC := (.seq (.br (.chk none .lenL (.cons (.inp 0) .nil) (.chk none (.bin .lss) (.cons (.inp 3) (.cons (.op .lenL (.cons (.inp 0) .nil)) .nil)) (.done [] (some (.op (.bin .lss) (.cons (.inp 3) (.cons (.op .lenL (.cons (.inp 0) .nil)) .nil))))))) .skip (.exit 0)) h8_4)
@[simp] theorem h8_5_wp : type_of% (@wpH h8_5 _ h8_5.eq_1) := wpH h8_5.eq_1
def h8_6 : HC := (.loop h8_5)
@[simp] theorem h8_6_wp : type_of% (@wpH h8_6 _ h8_6.eq_1) := wpH h8_6.eq_1
def h8_7 : HC := (.seq (.block 0 h8_6) h8_0)
@[simp] theorem h8_7_wp : type_of% (@wpH h8_7 _ h8_7.eq_1) := wpH h8_7.eq_1
def h8_8 : HC := (.seq (.reg (.done [(3, (.cst (.int .i64 0)))] none)) h8_7)
@[simp] theorem h8_8_wp : type_of% (@wpH h8_8 _ h8_8.eq_1) := wpH h8_8.eq_1
def h8_9 : HC := (.seq (.reg (.done [(2, (.cst (.bool false)))] none)) .ret)
@[simp] theorem h8_9_wp : type_of% (@wpH h8_9 _ h8_9.eq_1) := wpH h8_9.eq_1
def h8_10 : HC := (.seq (.br (.chk none .lenL (.cons (.inp 0) .nil) (.chk none .lenL (.cons (.inp 1) .nil) (.chk none (.bin .neq) (.cons (.op .lenL (.cons (.inp 0) .nil)) (.cons (.op .lenL (.cons (.inp 1) .nil)) .nil)) (.done [] (some (.op (.bin .neq) (.cons (.op .lenL (.cons (.inp 0) .nil)) (.cons (.op .lenL (.cons (.inp 1) .nil)) .nil)))))))) h8_9 .skip) h8_8)
@[simp] theorem h8_10_wp : type_of% (@wpH h8_10 _ h8_10.eq_1) := wpH h8_10.eq_1
def l8 : Lifted := ⟨[0, 1, 4, 5], 26, [.slot 2], (.seq (.reg (.done [(2, (.cst (.bool false)))] none)) h8_10)⟩
theorem l8_ok : liftFn T0 8 400 = some l8 := by kernel_rfl

def h79_0 : HC := (.seq (.reg (.done [(2, (.cst (.bool true)))] none)) .ret)
@[simp] theorem h79_0_wp : type_of% (@wpH h79_0 _ h79_0.eq_1) := wpH h79_0.eq_1
def h79_1 : HC := (.reg (.chk none (.bin .add) (.cons (.inp 3) (.cons (.cst (.int .i64 1)) .nil)) (.done [(3, (.op (.bin .add) (.cons (.inp 3) (.cons (.cst (.int .i64 1)) .nil))))] none)))
@[simp] theorem h79_1_wp : type_of% (@wpH h79_1 _ h79_1.eq_1) := wpH h79_1.eq_1
def h79_2 : HC := (.seq (.reg (.done [(2, (.cst (.bool false)))] none)) .ret)
@[simp] theorem h79_2_wp : type_of% (@wpH h79_2 _ h79_2.eq_1) := wpH h79_2.eq_1
def h79_3 : HC := (.brq (some 0) (.chk none (.idxL 1) (.cons (.inp 0) (.cons (.inp 3) .nil)) (.eff (.ld false 1) (.cons (.op (.idxL 1) (.cons (.inp 0) (.cons (.inp 3) .nil))) .nil) (.chk none (.idxL 1) (.cons (.inp 1) (.cons (.inp 3) .nil)) (.eff (.ld false 1) (.cons (.op (.idxL 1) (.cons (.inp 1) (.cons (.inp 3) .nil))) .nil) (.chk none (.bin .neq) (.cons (.bv 0) (.cons (.bv 1) .nil)) (.done [] (some (.op (.bin .neq) (.cons (.bv 0) (.cons (.bv 1) .nil)))))))))) h79_2 .skip)
@[simp] theorem h79_3_wp : type_of% (@wpH h79_3 _ h79_3.eq_1) := wpH h79_3.eq_1
def h79_4 : HC := (.seq (.block 1 h79_3) h79_1)
@[simp] theorem h79_4_wp : type_of% (@wpH h79_4 _ h79_4.eq_1) := wpH h79_4.eq_1
def h79_5 : HC := (.seq (.br (.chk none .lenL (.cons (.inp 0) .nil) (.chk none (.bin .lss) (.cons (.inp 3) (.cons (.op .lenL (.cons (.inp 0) .nil)) .nil)) (.done [] (some (.op (.bin .lss) (.cons (.inp 3) (.cons (.op .lenL (.cons (.inp 0) .nil)) .nil))))))) .skip (.exit 0)) h79_4)
@[simp] theorem h79_5_wp : type_of% (@wpH h79_5 _ h79_5.eq_1) := wpH h79_5.eq_1
def h79_6 : HC := (.loop h79_5)
@[simp] theorem h79_6_wp : type_of% (@wpH h79_6 _ h79_6.eq_1) := wpH h79_6.eq_1
def h79_7 : HC := (.seq (.block 0 h79_6) h79_0)
@[simp] theorem h79_7_wp : type_of% (@wpH h79_7 _ h79_7.eq_1) := wpH h79_7.eq_1
def h79_8 : HC := (.seq (.reg (.done [(3, (.cst (.int .i64 0)))] none)) h79_7)
@[simp] theorem h79_8_wp : type_of% (@wpH h79_8 _ h79_8.eq_1) := wpH h79_8.eq_1
def h79_9 : HC := (.seq (.reg (.done [(2, (.cst (.bool false)))] none)) .ret)
@[simp] theorem h79_9_wp : type_of% (@wpH h79_9 _ h79_9.eq_1) := wpH h79_9.eq_1
def h79_10 : HC := (.seq (.br (.chk none .lenL (.cons (.inp 0) .nil) (.chk none .lenL (.cons (.inp 1) .nil) (.chk none (.bin .neq) (.cons (.op .lenL (.cons (.inp 0) .nil)) (.cons (.op .lenL (.cons (.inp 1) .nil)) .nil)) (.done [] (some (.op (.bin .neq) (.cons (.op .lenL (.cons (.inp 0) .nil)) (.cons (.op .lenL (.cons (.inp 1) .nil)) .nil)))))))) h79_9 .skip) h79_8)
@[simp] theorem h79_10_wp : type_of% (@wpH h79_10 _ h79_10.eq_1) := wpH h79_10.eq_1
def l79 : Lifted := ⟨[0, 1, 4, 5], 26, [.slot 2], (.seq (.reg (.done [(2, (.cst (.bool false)))] none)) h79_10)⟩
theorem l79_ok : liftFn T0 79 400 = some l79 := by kernel_rfl
theorem Equal_spec (x y : List UInt8) (v1 v2 : Value) (w0 w : World) (A : Asn) (h1 : BR w0 A v1 x) (h2 : BR w0 A v2 y) (s : St w0 A w) :
    CallW Try.prog 49 [v1, v2] (fun r w' => r = .bool (x == y) ∧ St w0 A w') w := by
  refine callW_of_lift l49_ok (by simp [l49]) ?_
  simp -implicitDefEqProofs [l49]
  refine eff_b2sR h1 s ?_
  simp -implicitDefEqProofs
  refine eff_b2sR h2 s ?_
  simp -implicitDefEqProofs
  exact s
theorem same_spec (x y : List UInt8) (v1 v2 : Value) (w0 w : World) (A : Asn) (hx : x.length ≤ 35184372088832) (h1 : Row w0 A v1 x.length 1 (bytesV x)) (h2 : Row w0 A v2 y.length 1 (bytesV y)) (s : St w0 A w) :
    CallW Try.prog 41 [v1, v2] (fun r w' => r = .bool (x == y) ∧ St w0 A w') w := by
  obtain ⟨a1, c1, rfl⟩ := h1.val
  obtain ⟨a2, c2, rfl⟩ := h2.val
  refine callW_of_lift l41_ok (by simp [l41]) ?_
  simp -implicitDefEqProofs [l41]
  refine cndI (fun h => ?_) (fun h => ?_)
  · simp at h
    have : (x == y) = false := by
      simp only [beq_eq_false_iff_ne]
      rintro rfl
      exact h rfl
    simp -implicitDefEqProofs [this]
    exact s
  simp at h
  simp -implicitDefEqProofs
  refine loopI (fun env w' => ∃ (i : Nat), env = [.slice a1 x.length c1, .slice a2 y.length c2, .bool false, .int .i64 i] ∧ i ≤ x.length ∧ x.take i = y.take i ∧ St w0 A w')
    (fun env _ => x.length - slotN env 3) ⟨0, rfl, by omega, rfl, s⟩ ?_
  rintro LQ env w' ⟨i, rfl, hi, ht, s'⟩ hN hE hR
  simp -implicitDefEqProofs
  refine cndI (fun h3 => ?_) (fun h3 => ?_)
  · simp at h3
    obtain ⟨g1, o1, c1', e1, k1⟩ := h1.at (by omega)
    cases e1
    obtain ⟨g2, o2, c2', e2, k2⟩ := h2.at (by omega)
    cases e2
    have hy : i < y.length := by omega
    refine brqI s' ?_
    simp -implicitDefEqProofs [h3]
    refine effq_ldc (fun w s => k1 w s i _ (bytesV_at h3)) ?_
    simp -implicitDefEqProofs [hy]
    refine effq_ldc (fun w s => k2 w s i _ (bytesV_at hy)) ?_
    simp -implicitDefEqProofs
    intro w2 s2
    refine cndI (fun h4 => ?_) (fun h4 => ?_)
    · simp at h4
      have : (x == y) = false := by
        simp only [beq_eq_false_iff_ne]
        rintro rfl
        exact h4 rfl
      simp -implicitDefEqProofs
      refine hR _ _ ?_
      simp -implicitDefEqProofs [this]
      exact s2
    · simp at h4
      have h4 : x[i] = y[i] := UInt8.toNat_inj.1 (by omega)
      simp -implicitDefEqProofs [thenQ]
      try simp (disch := omega) only [wrap64]
      refine hN _ _ ⟨i + 1, by simp, by omega, ?_, s2⟩ (by simp [slotN]; omega)
      rw [List.take_succ_eq_append_getElem h3, List.take_succ_eq_append_getElem hy, ht, h4]
  · simp at h3
    simp -implicitDefEqProofs
    refine hE _ _ _ ?_
    simp -implicitDefEqProofs
    have e : i = x.length := by omega
    have e2 : i = y.length := by omega
    rw [e, List.take_length, ← e, e2, List.take_length] at ht
    subst ht
    simp -implicitDefEqProofs
    exact s'
theorem bytes_spec (x y : List UInt8) (v1 v2 : Value) (w0 w : World) (A : Asn) (hx : x.length ≤ 35184372088832) (h1 : Row w0 A v1 x.length 1 (bytesV x)) (h2 : Row w0 A v2 y.length 1 (bytesV y)) (s : St w0 A w) :
    CallW Try.prog 8 [v1, v2] (fun r w' => r = .bool (x == y) ∧ St w0 A w') w := by
  obtain ⟨a1, c1, rfl⟩ := h1.val
  obtain ⟨a2, c2, rfl⟩ := h2.val
  refine callW_of_lift l8_ok (by simp [l8]) ?_
  simp -implicitDefEqProofs [l8]
  refine cndI (fun h => ?_) (fun h => ?_)
  · simp at h
    have : (x == y) = false := by
      simp only [beq_eq_false_iff_ne]
      rintro rfl
      exact h rfl
    simp -implicitDefEqProofs [this]
    exact s
  simp at h
  simp -implicitDefEqProofs
  refine loopI (fun env w' => ∃ (i : Nat), env = [.slice a1 x.length c1, .slice a2 y.length c2, .bool false, .int .i64 i] ∧ i ≤ x.length ∧ x.take i = y.take i ∧ St w0 A w')
    (fun env _ => x.length - slotN env 3) ⟨0, rfl, by omega, rfl, s⟩ ?_
  rintro LQ env w' ⟨i, rfl, hi, ht, s'⟩ hN hE hR
  simp -implicitDefEqProofs
  refine cndI (fun h3 => ?_) (fun h3 => ?_)
  · simp at h3
    obtain ⟨g1, o1, c1', e1, k1⟩ := h1.at (by omega)
    cases e1
    obtain ⟨g2, o2, c2', e2, k2⟩ := h2.at (by omega)
    cases e2
    have hy : i < y.length := by omega
    refine brqI s' ?_
    simp -implicitDefEqProofs [h3]
    refine effq_ldc (fun w s => k1 w s i _ (bytesV_at h3)) ?_
    simp -implicitDefEqProofs [hy]
    refine effq_ldc (fun w s => k2 w s i _ (bytesV_at hy)) ?_
    simp -implicitDefEqProofs
    intro w2 s2
    refine cndI (fun h4 => ?_) (fun h4 => ?_)
    · simp at h4
      have : (x == y) = false := by
        simp only [beq_eq_false_iff_ne]
        rintro rfl
        exact h4 rfl
      simp -implicitDefEqProofs
      refine hR _ _ ?_
      simp -implicitDefEqProofs [this]
      exact s2
    · simp at h4
      have h4 : x[i] = y[i] := UInt8.toNat_inj.1 (by omega)
      simp -implicitDefEqProofs [thenQ]
      try simp (disch := omega) only [wrap64]
      refine hN _ _ ⟨i + 1, by simp, by omega, ?_, s2⟩ (by simp [slotN]; omega)
      rw [List.take_succ_eq_append_getElem h3, List.take_succ_eq_append_getElem hy, ht, h4]
  · simp at h3
    simp -implicitDefEqProofs
    refine hE _ _ _ ?_
    simp -implicitDefEqProofs
    have e : i = x.length := by omega
    have e2 : i = y.length := by omega
    rw [e, List.take_length, ← e, e2, List.take_length] at ht
    subst ht
    simp -implicitDefEqProofs
    exact s'
theorem lints_spec (x y : List Int) (v1 v2 : Value) (w0 w : World) (A : Asn) (hx : x.length ≤ 35184372088832) (h1 : Row w0 A v1 x.length 1 (ints x)) (h2 : Row w0 A v2 y.length 1 (ints y)) (s : St w0 A w) :
    CallW Try.prog 79 [v1, v2] (fun r w' => r = .bool (x == y) ∧ St w0 A w') w := by
  obtain ⟨a1, c1, rfl⟩ := h1.val
  obtain ⟨a2, c2, rfl⟩ := h2.val
  refine callW_of_lift l79_ok (by simp [l79]) ?_
  simp -implicitDefEqProofs [l79]
  refine cndI (fun h => ?_) (fun h => ?_)
  · simp at h
    have : (x == y) = false := by
      simp only [beq_eq_false_iff_ne]
      rintro rfl
      exact h rfl
    simp -implicitDefEqProofs [this]
    exact s
  simp at h
  simp -implicitDefEqProofs
  refine loopI (fun env w' => ∃ (i : Nat), env = [.slice a1 x.length c1, .slice a2 y.length c2, .bool false, .int .i64 i] ∧ i ≤ x.length ∧ x.take i = y.take i ∧ St w0 A w')
    (fun env _ => x.length - slotN env 3) ⟨0, rfl, by omega, rfl, s⟩ ?_
  rintro LQ env w' ⟨i, rfl, hi, ht, s'⟩ hN hE hR
  simp -implicitDefEqProofs
  refine cndI (fun h3 => ?_) (fun h3 => ?_)
  · simp at h3
    obtain ⟨g1, o1, c1', e1, k1⟩ := h1.at (by omega)
    cases e1
    obtain ⟨g2, o2, c2', e2, k2⟩ := h2.at (by omega)
    cases e2
    have hy : i < y.length := by omega
    refine brqI s' ?_
    simp -implicitDefEqProofs [h3]
    refine effq_ldc (fun w s => k1 w s i _ (ints_at h3)) ?_
    simp -implicitDefEqProofs [hy]
    refine effq_ldc (fun w s => k2 w s i _ (ints_at hy)) ?_
    simp -implicitDefEqProofs
    intro w2 s2
    refine cndI (fun h4 => ?_) (fun h4 => ?_)
    · simp at h4
      have : (x == y) = false := by
        simp only [beq_eq_false_iff_ne]
        rintro rfl
        exact h4 rfl
      simp -implicitDefEqProofs
      refine hR _ _ ?_
      simp -implicitDefEqProofs [this]
      exact s2
    · simp at h4
      have h4 : x[i] = y[i] := h4
      simp -implicitDefEqProofs [thenQ]
      try simp (disch := omega) only [wrap64]
      refine hN _ _ ⟨i + 1, by simp, by omega, ?_, s2⟩ (by simp [slotN]; omega)
      rw [List.take_succ_eq_append_getElem h3, List.take_succ_eq_append_getElem hy, ht, h4]
  · simp at h3
    simp -implicitDefEqProofs
    refine hE _ _ _ ?_
    simp -implicitDefEqProofs
    have e : i = x.length := by omega
    have e2 : i = y.length := by omega
    rw [e, List.take_length, ← e, e2, List.take_length] at ht
    subst ht
    simp -implicitDefEqProofs
    exact s'
end Go.HL.Sr
