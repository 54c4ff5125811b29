/-
  Goods: the law GoodsOwn: the walk. Conditions: so many acts at most.
-/
import Derived.Test.YtfcgookobpjdgaaGdOa
import Derived.Test.YtfcgookobpjdgaaGdK
namespace Go.HL.Gd
open Go.HL Go.Proofs
set_option maxRecDepth 4000
set_option linter.unusedSimpArgs false
set_option linter.unusedVariables false
theorem of_len {its : List It} (h : its.length ≤ 512) (a : Int) : (ofF its a).length ≤ 1048576 := by unfold ofF; rw [List.length_map]; exact Nat.le_trans (List.length_filter_le _ _) (by omega)
theorem in_len {its : List It} (h : its.length ≤ 512) (a : Int) : (inF its a).length ≤ 1048576 := by unfold inF; rw [List.length_map]; exact Nat.le_trans (List.length_filter_le _ _) (by omega)
/-- lists with their headers -/
def R3 (r0 r1 r2 : Value) : Nat → Value | 0 => r0 | 1 => r1 | _ => r2
def L6 (l0 l1 l2 l3 l4 l5 : Value) : Nat → Value | 0 => l0 | 1 => l1 | 2 => l2 | 3 => l3 | 4 => l4 | _ => l5
def Z6 (x y : List Int) : Nat → List Int | 0 => x | 1 => x | 2 => y | 3 => y | 4 => x | _ => y
theorem big3 {α : Type} (F : Nat → α → Asn) (Y : Nat → α) : bigA F Y 3 = F 0 (Y 0) * F 1 (Y 1) * F 2 (Y 2) := by
  show emp * F 0 (Y 0) * F 1 (Y 1) * F 2 (Y 2) = _
  rw [emp_sep]
theorem big6 {α : Type} (F : Nat → α → Asn) (Y : Nat → α) : bigA F Y 6 = F 0 (Y 0) * F 1 (Y 1) * F 2 (Y 2) * F 3 (Y 3) * F 4 (Y 4) * F 5 (Y 5) := by
  show emp * F 0 (Y 0) * F 1 (Y 1) * F 2 (Y 2) * F 3 (Y 3) * F 4 (Y 4) * F 5 (Y 5) = _
  rw [emp_sep]
-- bazaar/bazaarlaw15.GoodsOwn
def h5_0 : HC := (.seq (.regq (some 9) (.eff (.call 11) (.cons (.inp 5) .nil) (.eff (.call 13) (.cons (.bv 0) (.cons (.inp 11) .nil)) (.ite (.bv 1) true (.eff (.call 19) (.cons (.ite (.bv 1) true (.inp 5) (.cst (.tuple #[]))) (.cons (.ite (.bv 1) true (.inp 3) (.cst (.tuple #[]))) .nil)) (.chk none (.idxL 1) (.cons (.inp 15) (.cons (.cst (.int .i64 0)) .nil)) (.eff (.ld false 1) (.cons (.op (.idxL 1) (.cons (.inp 15) (.cons (.cst (.int .i64 0)) .nil))) .nil) (.eff (.call 21) (.cons (.bv 2) (.cons (.bv 3) .nil)) (.isb none (.bv 1) (.ite (.bv 4) true (.eff (.call 20) (.cons (.ite (.bv 4) true (.inp 5) (.cst (.tuple #[]))) (.cons (.ite (.bv 4) true (.inp 3) (.cst (.tuple #[]))) .nil)) (.chk none (.idxL 1) (.cons (.inp 15) (.cons (.cst (.int .i64 2)) .nil)) (.eff (.ld false 1) (.cons (.op (.idxL 1) (.cons (.inp 15) (.cons (.cst (.int .i64 2)) .nil))) .nil) (.eff (.call 21) (.cons (.bv 5) (.cons (.bv 6) .nil)) (.isb none (.bv 4) (.ite (.bv 7) true (.eff (.call 11) (.cons (.ite (.bv 7) true (.inp 17) (.cst (.tuple #[]))) .nil) (.eff (.call 11) (.cons (.inp 9) .nil) (.eff (.call 13) (.cons (.bv 8) (.cons (.bv 9) .nil)) (.isb none (.bv 7) (.done [(4, (.bv 10))] none))))) (.isb none (.bv 7) (.done [(4, (.cst (.bool false)))] none)))))))) (.isb none (.bv 4) (.isb none (.cst (.bool false)) (.done [(4, (.cst (.bool false)))] none))))))))) (.isb none (.bv 1) (.isb none (.cst (.bool false)) (.isb none (.cst (.bool false)) (.done [(4, (.cst (.bool false)))] none)))))))) .ret)
@[simp] theorem h5_0_wp {P : Program} {F : PF P} {Q : EX → List Value → World → Prop} {env : List Value} {w : World} : h5_0.wp F Q env w = HC.wp F (.seq (.regq (some 9) (.eff (.call 11) (.cons (.inp 5) .nil) (.eff (.call 13) (.cons (.bv 0) (.cons (.inp 11) .nil)) (.ite (.bv 1) true (.eff (.call 19) (.cons (.ite (.bv 1) true (.inp 5) (.cst (.tuple #[]))) (.cons (.ite (.bv 1) true (.inp 3) (.cst (.tuple #[]))) .nil)) (.chk none (.idxL 1) (.cons (.inp 15) (.cons (.cst (.int .i64 0)) .nil)) (.eff (.ld false 1) (.cons (.op (.idxL 1) (.cons (.inp 15) (.cons (.cst (.int .i64 0)) .nil))) .nil) (.eff (.call 21) (.cons (.bv 2) (.cons (.bv 3) .nil)) (.isb none (.bv 1) (.ite (.bv 4) true (.eff (.call 20) (.cons (.ite (.bv 4) true (.inp 5) (.cst (.tuple #[]))) (.cons (.ite (.bv 4) true (.inp 3) (.cst (.tuple #[]))) .nil)) (.chk none (.idxL 1) (.cons (.inp 15) (.cons (.cst (.int .i64 2)) .nil)) (.eff (.ld false 1) (.cons (.op (.idxL 1) (.cons (.inp 15) (.cons (.cst (.int .i64 2)) .nil))) .nil) (.eff (.call 21) (.cons (.bv 5) (.cons (.bv 6) .nil)) (.isb none (.bv 4) (.ite (.bv 7) true (.eff (.call 11) (.cons (.ite (.bv 7) true (.inp 17) (.cst (.tuple #[]))) .nil) (.eff (.call 11) (.cons (.inp 9) .nil) (.eff (.call 13) (.cons (.bv 8) (.cons (.bv 9) .nil)) (.isb none (.bv 7) (.done [(4, (.bv 10))] none))))) (.isb none (.bv 7) (.done [(4, (.cst (.bool false)))] none)))))))) (.isb none (.bv 4) (.isb none (.cst (.bool false)) (.done [(4, (.cst (.bool false)))] none))))))))) (.isb none (.bv 1) (.isb none (.cst (.bool false)) (.isb none (.cst (.bool false)) (.done [(4, (.cst (.bool false)))] none)))))))) .ret) Q env w := rfl
def h5_1 : HC := (.seq (.reg (.done [(4, (.cst (.bool false)))] none)) .ret)
@[simp] theorem h5_1_wp {P : Program} {F : PF P} {Q : EX → List Value → World → Prop} {env : List Value} {w : World} : h5_1.wp F Q env w = HC.wp F (.seq (.reg (.done [(4, (.cst (.bool false)))] none)) .ret) Q env w := rfl
def h5_2 : HC := (.seq (.br (.eff (.call 22) (.cons (.inp 13) (.cons (.inp 14) .nil)) (.chk none (.un .not) (.cons (.bv 0) .nil) (.done [] (some (.op (.un .not) (.cons (.bv 0) .nil)))))) h5_1 .skip) h5_0)
@[simp] theorem h5_2_wp {P : Program} {F : PF P} {Q : EX → List Value → World → Prop} {env : List Value} {w : World} : h5_2.wp F Q env w = HC.wp F (.seq (.br (.eff (.call 22) (.cons (.inp 13) (.cons (.inp 14) .nil)) (.chk none (.un .not) (.cons (.bv 0) .nil) (.done [] (some (.op (.un .not) (.cons (.bv 0) .nil)))))) h5_1 .skip) h5_0) Q env w := rfl
def h5_3 : HC := (.reg (.chk none (.bin .add) (.cons (.inp 20) (.cons (.cst (.int .i64 1)) .nil)) (.done [(20, (.op (.bin .add) (.cons (.inp 20) (.cons (.cst (.int .i64 1)) .nil))))] none)))
@[simp] theorem h5_3_wp {P : Program} {F : PF P} {Q : EX → List Value → World → Prop} {env : List Value} {w : World} : h5_3.wp F Q env w = HC.wp F (.reg (.chk none (.bin .add) (.cons (.inp 20) (.cons (.cst (.int .i64 1)) .nil)) (.done [(20, (.op (.bin .add) (.cons (.inp 20) (.cons (.cst (.int .i64 1)) .nil))))] none))) Q env w := rfl
def h5_4 : HC := (.seq (.reg (.done [(4, (.cst (.bool false)))] none)) .ret)
@[simp] theorem h5_4_wp {P : Program} {F : PF P} {Q : EX → List Value → World → Prop} {env : List Value} {w : World} : h5_4.wp F Q env w = HC.wp F (.seq (.reg (.done [(4, (.cst (.bool false)))] none)) .ret) Q env w := rfl
def h5_5 : HC := (.brq (some 1) (.chk none (.idxL 1) (.cons (.inp 14) (.cons (.inp 20) .nil)) (.eff (.ld false 1) (.cons (.op (.idxL 1) (.cons (.inp 14) (.cons (.inp 20) .nil))) .nil) (.chk none (.idxL 1) (.cons (.inp 15) (.cons (.inp 20) .nil)) (.eff (.ld false 1) (.cons (.op (.idxL 1) (.cons (.inp 15) (.cons (.inp 20) .nil))) .nil) (.eff (.call 21) (.cons (.bv 0) (.cons (.bv 1) .nil)) (.chk none (.un .not) (.cons (.bv 2) .nil) (.done [] (some (.op (.un .not) (.cons (.bv 2) .nil)))))))))) h5_4 .skip)
@[simp] theorem h5_5_wp {P : Program} {F : PF P} {Q : EX → List Value → World → Prop} {env : List Value} {w : World} : h5_5.wp F Q env w = HC.wp F (.brq (some 1) (.chk none (.idxL 1) (.cons (.inp 14) (.cons (.inp 20) .nil)) (.eff (.ld false 1) (.cons (.op (.idxL 1) (.cons (.inp 14) (.cons (.inp 20) .nil))) .nil) (.chk none (.idxL 1) (.cons (.inp 15) (.cons (.inp 20) .nil)) (.eff (.ld false 1) (.cons (.op (.idxL 1) (.cons (.inp 15) (.cons (.inp 20) .nil))) .nil) (.eff (.call 21) (.cons (.bv 0) (.cons (.bv 1) .nil)) (.chk none (.un .not) (.cons (.bv 2) .nil) (.done [] (some (.op (.un .not) (.cons (.bv 2) .nil)))))))))) h5_4 .skip) Q env w := rfl
def h5_6 : HC := (.seq (.block 11 h5_5) h5_3)
@[simp] theorem h5_6_wp {P : Program} {F : PF P} {Q : EX → List Value → World → Prop} {env : List Value} {w : World} : h5_6.wp F Q env w = HC.wp F (.seq (.block 11 h5_5) h5_3) Q env w := rfl
def h5_7 : HC := (.seq (.br (.chk none .lenL (.cons (.inp 14) .nil) (.chk none (.bin .lss) (.cons (.inp 20) (.cons (.op .lenL (.cons (.inp 14) .nil)) .nil)) (.done [] (some (.op (.bin .lss) (.cons (.inp 20) (.cons (.op .lenL (.cons (.inp 14) .nil)) .nil))))))) .skip (.exit 10)) h5_6)
@[simp] theorem h5_7_wp {P : Program} {F : PF P} {Q : EX → List Value → World → Prop} {env : List Value} {w : World} : h5_7.wp F Q env w = HC.wp F (.seq (.br (.chk none .lenL (.cons (.inp 14) .nil) (.chk none (.bin .lss) (.cons (.inp 20) (.cons (.op .lenL (.cons (.inp 14) .nil)) .nil)) (.done [] (some (.op (.bin .lss) (.cons (.inp 20) (.cons (.op .lenL (.cons (.inp 14) .nil)) .nil))))))) .skip (.exit 10)) h5_6) Q env w := rfl
def h5_8 : HC := (.loop h5_7)
@[simp] theorem h5_8_wp {P : Program} {F : PF P} {Q : EX → List Value → World → Prop} {env : List Value} {w : World} : h5_8.wp F Q env w = HC.wp F (.loop h5_7) Q env w := rfl
def h5_9 : HC := (.seq (.block 10 h5_8) h5_2)
@[simp] theorem h5_9_wp {P : Program} {F : PF P} {Q : EX → List Value → World → Prop} {env : List Value} {w : World} : h5_9.wp F Q env w = HC.wp F (.seq (.block 10 h5_8) h5_2) Q env w := rfl
def h5_10 : HC := (.seq (.reg (.done [(20, (.cst (.int .i64 0)))] none)) h5_9)
@[simp] theorem h5_10_wp {P : Program} {F : PF P} {Q : EX → List Value → World → Prop} {env : List Value} {w : World} : h5_10.wp F Q env w = HC.wp F (.seq (.reg (.done [(20, (.cst (.int .i64 0)))] none)) h5_9) Q env w := rfl
def h5_11 : HC := (.reg (.chk none (.bin .add) (.cons (.inp 19) (.cons (.cst (.int .i64 1)) .nil)) (.done [(19, (.op (.bin .add) (.cons (.inp 19) (.cons (.cst (.int .i64 1)) .nil))))] none)))
@[simp] theorem h5_11_wp {P : Program} {F : PF P} {Q : EX → List Value → World → Prop} {env : List Value} {w : World} : h5_11.wp F Q env w = HC.wp F (.reg (.chk none (.bin .add) (.cons (.inp 19) (.cons (.cst (.int .i64 1)) .nil)) (.done [(19, (.op (.bin .add) (.cons (.inp 19) (.cons (.cst (.int .i64 1)) .nil))))] none))) Q env w := rfl
def h5_12 : HC := (.seq (.reg (.done [(4, (.cst (.bool false)))] none)) .ret)
@[simp] theorem h5_12_wp {P : Program} {F : PF P} {Q : EX → List Value → World → Prop} {env : List Value} {w : World} : h5_12.wp F Q env w = HC.wp F (.seq (.reg (.done [(4, (.cst (.bool false)))] none)) .ret) Q env w := rfl
def h5_13 : HC := (.br (.chk none (.idxL 1) (.cons (.inp 13) (.cons (.inp 19) .nil)) (.eff (.ld false 1) (.cons (.op (.idxL 1) (.cons (.inp 13) (.cons (.inp 19) .nil))) .nil) (.eff (.call 13) (.cons (.bv 0) (.cons (.inp 11) .nil)) (.chk none (.un .not) (.cons (.bv 1) .nil) (.done [] (some (.op (.un .not) (.cons (.bv 1) .nil)))))))) h5_12 .skip)
@[simp] theorem h5_13_wp {P : Program} {F : PF P} {Q : EX → List Value → World → Prop} {env : List Value} {w : World} : h5_13.wp F Q env w = HC.wp F (.br (.chk none (.idxL 1) (.cons (.inp 13) (.cons (.inp 19) .nil)) (.eff (.ld false 1) (.cons (.op (.idxL 1) (.cons (.inp 13) (.cons (.inp 19) .nil))) .nil) (.eff (.call 13) (.cons (.bv 0) (.cons (.inp 11) .nil)) (.chk none (.un .not) (.cons (.bv 1) .nil) (.done [] (some (.op (.un .not) (.cons (.bv 1) .nil)))))))) h5_12 .skip) Q env w := rfl
def h5_14 : HC := (.seq (.block 9 h5_13) h5_11)
@[simp] theorem h5_14_wp {P : Program} {F : PF P} {Q : EX → List Value → World → Prop} {env : List Value} {w : World} : h5_14.wp F Q env w = HC.wp F (.seq (.block 9 h5_13) h5_11) Q env w := rfl
def h5_15 : HC := (.seq (.br (.chk none .lenL (.cons (.inp 13) .nil) (.chk none (.bin .lss) (.cons (.inp 19) (.cons (.op .lenL (.cons (.inp 13) .nil)) .nil)) (.done [] (some (.op (.bin .lss) (.cons (.inp 19) (.cons (.op .lenL (.cons (.inp 13) .nil)) .nil))))))) .skip (.exit 8)) h5_14)
@[simp] theorem h5_15_wp {P : Program} {F : PF P} {Q : EX → List Value → World → Prop} {env : List Value} {w : World} : h5_15.wp F Q env w = HC.wp F (.seq (.br (.chk none .lenL (.cons (.inp 13) .nil) (.chk none (.bin .lss) (.cons (.inp 19) (.cons (.op .lenL (.cons (.inp 13) .nil)) .nil)) (.done [] (some (.op (.bin .lss) (.cons (.inp 19) (.cons (.op .lenL (.cons (.inp 13) .nil)) .nil))))))) .skip (.exit 8)) h5_14) Q env w := rfl
def h5_16 : HC := (.loop h5_15)
@[simp] theorem h5_16_wp {P : Program} {F : PF P} {Q : EX → List Value → World → Prop} {env : List Value} {w : World} : h5_16.wp F Q env w = HC.wp F (.loop h5_15) Q env w := rfl
def h5_17 : HC := (.seq (.block 8 h5_16) h5_10)
@[simp] theorem h5_17_wp {P : Program} {F : PF P} {Q : EX → List Value → World → Prop} {env : List Value} {w : World} : h5_17.wp F Q env w = HC.wp F (.seq (.block 8 h5_16) h5_10) Q env w := rfl
def h5_18 : HC := (.seq (.reg (.done [(19, (.cst (.int .i64 0)))] none)) h5_17)
@[simp] theorem h5_18_wp {P : Program} {F : PF P} {Q : EX → List Value → World → Prop} {env : List Value} {w : World} : h5_18.wp F Q env w = HC.wp F (.seq (.reg (.done [(19, (.cst (.int .i64 0)))] none)) h5_17) Q env w := rfl
def h5_19 : HC := (.reg (.chk none (.bin .add) (.cons (.inp 18) (.cons (.cst (.int .i64 1)) .nil)) (.done [(18, (.op (.bin .add) (.cons (.inp 18) (.cons (.cst (.int .i64 1)) .nil))))] none)))
@[simp] theorem h5_19_wp {P : Program} {F : PF P} {Q : EX → List Value → World → Prop} {env : List Value} {w : World} : h5_19.wp F Q env w = HC.wp F (.reg (.chk none (.bin .add) (.cons (.inp 18) (.cons (.cst (.int .i64 1)) .nil)) (.done [(18, (.op (.bin .add) (.cons (.inp 18) (.cons (.cst (.int .i64 1)) .nil))))] none))) Q env w := rfl
def h5_20 : HC := (.reg (.chk none (.idxL 3) (.cons (.inp 2) (.cons (.inp 18) .nil)) (.eff (.ld true 3) (.cons (.op (.idxL 3) (.cons (.inp 2) (.cons (.inp 18) .nil))) .nil) (.eff (.call 12) (.cons (.inp 9) (.cons (.bv 0) .nil)) (.done [] none)))))
@[simp] theorem h5_20_wp {P : Program} {F : PF P} {Q : EX → List Value → World → Prop} {env : List Value} {w : World} : h5_20.wp F Q env w = HC.wp F (.reg (.chk none (.idxL 3) (.cons (.inp 2) (.cons (.inp 18) .nil)) (.eff (.ld true 3) (.cons (.op (.idxL 3) (.cons (.inp 2) (.cons (.inp 18) .nil))) .nil) (.eff (.call 12) (.cons (.inp 9) (.cons (.bv 0) .nil)) (.done [] none))))) Q env w := rfl
def h5_21 : HC := (.seq (.reg (.chk none (.idxL 3) (.cons (.inp 2) (.cons (.inp 18) .nil)) (.eff (.ld true 3) (.cons (.op (.idxL 3) (.cons (.inp 2) (.cons (.inp 18) .nil))) .nil) (.eff (.call 12) (.cons (.inp 17) (.cons (.bv 0) .nil)) (.done [] none))))) h5_20)
@[simp] theorem h5_21_wp {P : Program} {F : PF P} {Q : EX → List Value → World → Prop} {env : List Value} {w : World} : h5_21.wp F Q env w = HC.wp F (.seq (.reg (.chk none (.idxL 3) (.cons (.inp 2) (.cons (.inp 18) .nil)) (.eff (.ld true 3) (.cons (.op (.idxL 3) (.cons (.inp 2) (.cons (.inp 18) .nil))) .nil) (.eff (.call 12) (.cons (.inp 17) (.cons (.bv 0) .nil)) (.done [] none))))) h5_20) Q env w := rfl
def h5_22 : HC := (.seq (.block 7 h5_21) h5_19)
@[simp] theorem h5_22_wp {P : Program} {F : PF P} {Q : EX → List Value → World → Prop} {env : List Value} {w : World} : h5_22.wp F Q env w = HC.wp F (.seq (.block 7 h5_21) h5_19) Q env w := rfl
def h5_23 : HC := (.seq (.br (.chk none .lenL (.cons (.inp 2) .nil) (.chk none (.bin .lss) (.cons (.inp 18) (.cons (.op .lenL (.cons (.inp 2) .nil)) .nil)) (.done [] (some (.op (.bin .lss) (.cons (.inp 18) (.cons (.op .lenL (.cons (.inp 2) .nil)) .nil))))))) .skip (.exit 6)) h5_22)
@[simp] theorem h5_23_wp {P : Program} {F : PF P} {Q : EX → List Value → World → Prop} {env : List Value} {w : World} : h5_23.wp F Q env w = HC.wp F (.seq (.br (.chk none .lenL (.cons (.inp 2) .nil) (.chk none (.bin .lss) (.cons (.inp 18) (.cons (.op .lenL (.cons (.inp 2) .nil)) .nil)) (.done [] (some (.op (.bin .lss) (.cons (.inp 18) (.cons (.op .lenL (.cons (.inp 2) .nil)) .nil))))))) .skip (.exit 6)) h5_22) Q env w := rfl
def h5_24 : HC := (.loop h5_23)
@[simp] theorem h5_24_wp {P : Program} {F : PF P} {Q : EX → List Value → World → Prop} {env : List Value} {w : World} : h5_24.wp F Q env w = HC.wp F (.loop h5_23) Q env w := rfl
def h5_25 : HC := (.seq (.block 6 h5_24) h5_18)
@[simp] theorem h5_25_wp {P : Program} {F : PF P} {Q : EX → List Value → World → Prop} {env : List Value} {w : World} : h5_25.wp F Q env w = HC.wp F (.seq (.block 6 h5_24) h5_18) Q env w := rfl
def h5_26 : HC := (.seq (.reg (.done [(18, (.cst (.int .i64 0)))] none)) h5_25)
@[simp] theorem h5_26_wp {P : Program} {F : PF P} {Q : EX → List Value → World → Prop} {env : List Value} {w : World} : h5_26.wp F Q env w = HC.wp F (.seq (.reg (.done [(18, (.cst (.int .i64 0)))] none)) h5_25) Q env w := rfl
def h5_27 : HC := (.seq (.reg (.eff (.call 16) (.cons (.inp 5) .nil) (.done [(17, (.bv 0))] none))) h5_26)
@[simp] theorem h5_27_wp {P : Program} {F : PF P} {Q : EX → List Value → World → Prop} {env : List Value} {w : World} : h5_27.wp F Q env w = HC.wp F (.seq (.reg (.eff (.call 16) (.cons (.inp 5) .nil) (.done [(17, (.bv 0))] none))) h5_26) Q env w := rfl
def h5_28 : HC := (.reg (.chk none (.bin .add) (.cons (.inp 16) (.cons (.cst (.int .i64 1)) .nil)) (.done [(16, (.op (.bin .add) (.cons (.inp 16) (.cons (.cst (.int .i64 1)) .nil))))] none)))
@[simp] theorem h5_28_wp {P : Program} {F : PF P} {Q : EX → List Value → World → Prop} {env : List Value} {w : World} : h5_28.wp F Q env w = HC.wp F (.reg (.chk none (.bin .add) (.cons (.inp 16) (.cons (.cst (.int .i64 1)) .nil)) (.done [(16, (.op (.bin .add) (.cons (.inp 16) (.cons (.cst (.int .i64 1)) .nil))))] none))) Q env w := rfl
def h5_29 : HC := (.reg (.eff (.bsl 3 0 1 #[] []) .nil (.chk none (.idxL 1) (.cons (.inp 14) (.cons (.inp 16) .nil)) (.eff (.ld false 1) (.cons (.op (.idxL 1) (.cons (.inp 14) (.cons (.inp 16) .nil))) .nil) (.eff (.app 46 46 3 1 8 (.int .i64 0)) (.cons (.bv 0) (.cons (.bv 1) .nil)) (.eff (.bsl 46 1 1 #[(.slice none 0 0)] [0]) (.cons (.bv 2) .nil) (.eff (.app 48 48 46 1 24 (.slice none 0 0)) (.cons (.inp 15) (.cons (.bv 3) .nil)) (.done [(15, (.bv 4))] none))))))))
@[simp] theorem h5_29_wp {P : Program} {F : PF P} {Q : EX → List Value → World → Prop} {env : List Value} {w : World} : h5_29.wp F Q env w = HC.wp F (.reg (.eff (.bsl 3 0 1 #[] []) .nil (.chk none (.idxL 1) (.cons (.inp 14) (.cons (.inp 16) .nil)) (.eff (.ld false 1) (.cons (.op (.idxL 1) (.cons (.inp 14) (.cons (.inp 16) .nil))) .nil) (.eff (.app 46 46 3 1 8 (.int .i64 0)) (.cons (.bv 0) (.cons (.bv 1) .nil)) (.eff (.bsl 46 1 1 #[(.slice none 0 0)] [0]) (.cons (.bv 2) .nil) (.eff (.app 48 48 46 1 24 (.slice none 0 0)) (.cons (.inp 15) (.cons (.bv 3) .nil)) (.done [(15, (.bv 4))] none)))))))) Q env w := rfl
def h5_30 : HC := (.seq (.block 5 h5_29) h5_28)
@[simp] theorem h5_30_wp {P : Program} {F : PF P} {Q : EX → List Value → World → Prop} {env : List Value} {w : World} : h5_30.wp F Q env w = HC.wp F (.seq (.block 5 h5_29) h5_28) Q env w := rfl
def h5_31 : HC := (.seq (.br (.chk none .lenL (.cons (.inp 14) .nil) (.chk none (.bin .lss) (.cons (.inp 16) (.cons (.op .lenL (.cons (.inp 14) .nil)) .nil)) (.done [] (some (.op (.bin .lss) (.cons (.inp 16) (.cons (.op .lenL (.cons (.inp 14) .nil)) .nil))))))) .skip (.exit 4)) h5_30)
@[simp] theorem h5_31_wp {P : Program} {F : PF P} {Q : EX → List Value → World → Prop} {env : List Value} {w : World} : h5_31.wp F Q env w = HC.wp F (.seq (.br (.chk none .lenL (.cons (.inp 14) .nil) (.chk none (.bin .lss) (.cons (.inp 16) (.cons (.op .lenL (.cons (.inp 14) .nil)) .nil)) (.done [] (some (.op (.bin .lss) (.cons (.inp 16) (.cons (.op .lenL (.cons (.inp 14) .nil)) .nil))))))) .skip (.exit 4)) h5_30) Q env w := rfl
def h5_32 : HC := (.loop h5_31)
@[simp] theorem h5_32_wp {P : Program} {F : PF P} {Q : EX → List Value → World → Prop} {env : List Value} {w : World} : h5_32.wp F Q env w = HC.wp F (.loop h5_31) Q env w := rfl
def h5_33 : HC := (.seq (.block 4 h5_32) h5_27)
@[simp] theorem h5_33_wp {P : Program} {F : PF P} {Q : EX → List Value → World → Prop} {env : List Value} {w : World} : h5_33.wp F Q env w = HC.wp F (.seq (.block 4 h5_32) h5_27) Q env w := rfl
def h5_34 : HC := (.seq (.reg (.done [(16, (.cst (.int .i64 0)))] none)) h5_33)
@[simp] theorem h5_34_wp {P : Program} {F : PF P} {Q : EX → List Value → World → Prop} {env : List Value} {w : World} : h5_34.wp F Q env w = HC.wp F (.seq (.reg (.done [(16, (.cst (.int .i64 0)))] none)) h5_33) Q env w := rfl
def h5_35 : HC := (.seq (.reg (.done [(15, (.cst (.slice none 0 0)))] none)) h5_34)
@[simp] theorem h5_35_wp {P : Program} {F : PF P} {Q : EX → List Value → World → Prop} {env : List Value} {w : World} : h5_35.wp F Q env w = HC.wp F (.seq (.reg (.done [(15, (.cst (.slice none 0 0)))] none)) h5_34) Q env w := rfl
def h5_36 : HC := (.seq (.reg (.eff (.call 19) (.cons (.inp 5) (.cons (.inp 3) .nil)) (.eff (.call 19) (.cons (.inp 5) (.cons (.inp 3) .nil)) (.eff (.call 20) (.cons (.inp 5) (.cons (.inp 3) .nil)) (.eff (.call 20) (.cons (.inp 5) (.cons (.inp 3) .nil)) (.eff (.call 19) (.cons (.inp 9) (.cons (.inp 3) .nil)) (.eff (.call 20) (.cons (.inp 9) (.cons (.inp 3) .nil)) (.eff (.bsl 46 6 1 #[(.slice none 0 0)] [0, 1, 2, 3, 4, 5]) (.cons (.bv 0) (.cons (.bv 1) (.cons (.bv 2) (.cons (.bv 3) (.cons (.bv 4) (.cons (.bv 5) .nil)))))) (.done [(14, (.bv 6))] none))))))))) h5_35)
@[simp] theorem h5_36_wp {P : Program} {F : PF P} {Q : EX → List Value → World → Prop} {env : List Value} {w : World} : h5_36.wp F Q env w = HC.wp F (.seq (.reg (.eff (.call 19) (.cons (.inp 5) (.cons (.inp 3) .nil)) (.eff (.call 19) (.cons (.inp 5) (.cons (.inp 3) .nil)) (.eff (.call 20) (.cons (.inp 5) (.cons (.inp 3) .nil)) (.eff (.call 20) (.cons (.inp 5) (.cons (.inp 3) .nil)) (.eff (.call 19) (.cons (.inp 9) (.cons (.inp 3) .nil)) (.eff (.call 20) (.cons (.inp 9) (.cons (.inp 3) .nil)) (.eff (.bsl 46 6 1 #[(.slice none 0 0)] [0, 1, 2, 3, 4, 5]) (.cons (.bv 0) (.cons (.bv 1) (.cons (.bv 2) (.cons (.bv 3) (.cons (.bv 4) (.cons (.bv 5) .nil)))))) (.done [(14, (.bv 6))] none))))))))) h5_35) Q env w := rfl
def h5_37 : HC := (.seq (.reg (.eff (.call 11) (.cons (.inp 5) .nil) (.eff (.call 11) (.cons (.inp 5) .nil) (.eff (.call 11) (.cons (.inp 9) .nil) (.eff (.bsl 30 3 1 #[(.slice none 0 0)] [0, 1, 2]) (.cons (.bv 0) (.cons (.bv 1) (.cons (.bv 2) .nil))) (.done [(13, (.bv 3))] none)))))) h5_36)
@[simp] theorem h5_37_wp {P : Program} {F : PF P} {Q : EX → List Value → World → Prop} {env : List Value} {w : World} : h5_37.wp F Q env w = HC.wp F (.seq (.reg (.eff (.call 11) (.cons (.inp 5) .nil) (.eff (.call 11) (.cons (.inp 5) .nil) (.eff (.call 11) (.cons (.inp 9) .nil) (.eff (.bsl 30 3 1 #[(.slice none 0 0)] [0, 1, 2]) (.cons (.bv 0) (.cons (.bv 1) (.cons (.bv 2) .nil))) (.done [(13, (.bv 3))] none)))))) h5_36) Q env w := rfl
def h5_38 : HC := (.seq (.reg (.done [(4, (.cst (.bool false)))] none)) .ret)
@[simp] theorem h5_38_wp {P : Program} {F : PF P} {Q : EX → List Value → World → Prop} {env : List Value} {w : World} : h5_38.wp F Q env w = HC.wp F (.seq (.reg (.done [(4, (.cst (.bool false)))] none)) .ret) Q env w := rfl
def h5_39 : HC := (.seq (.br (.eff (.call 11) (.cons (.inp 9) .nil) (.eff (.call 13) (.cons (.bv 0) (.cons (.inp 11) .nil)) (.chk none (.un .not) (.cons (.bv 1) .nil) (.done [] (some (.op (.un .not) (.cons (.bv 1) .nil))))))) h5_38 .skip) h5_37)
@[simp] theorem h5_39_wp {P : Program} {F : PF P} {Q : EX → List Value → World → Prop} {env : List Value} {w : World} : h5_39.wp F Q env w = HC.wp F (.seq (.br (.eff (.call 11) (.cons (.inp 9) .nil) (.eff (.call 13) (.cons (.bv 0) (.cons (.inp 11) .nil)) (.chk none (.un .not) (.cons (.bv 1) .nil) (.done [] (some (.op (.un .not) (.cons (.bv 1) .nil))))))) h5_38 .skip) h5_37) Q env w := rfl
def h5_40 : HC := (.reg (.chk none (.bin .add) (.cons (.inp 12) (.cons (.cst (.int .i64 1)) .nil)) (.done [(12, (.op (.bin .add) (.cons (.inp 12) (.cons (.cst (.int .i64 1)) .nil))))] none)))
@[simp] theorem h5_40_wp {P : Program} {F : PF P} {Q : EX → List Value → World → Prop} {env : List Value} {w : World} : h5_40.wp F Q env w = HC.wp F (.reg (.chk none (.bin .add) (.cons (.inp 12) (.cons (.cst (.int .i64 1)) .nil)) (.done [(12, (.op (.bin .add) (.cons (.inp 12) (.cons (.cst (.int .i64 1)) .nil))))] none))) Q env w := rfl
def h5_41 : HC := (.reg (.chk none (.build #[(.int .i64 0), (.int .i64 0), (.int .i64 0), (.int .i64 0)] [(0, 1), (1, 1), (2, 1), (3, 1)] [0]) (.cons (.cst (.int .i64 (-4))) .nil) (.chk none (.idxL 4) (.cons (.inp 8) (.cons (.inp 12) .nil)) (.eff (.st 4) (.cons (.op (.idxL 4) (.cons (.inp 8) (.cons (.inp 12) .nil))) (.cons (.op (.build #[(.int .i64 0), (.int .i64 0), (.int .i64 0), (.int .i64 0)] [(0, 1), (1, 1), (2, 1), (3, 1)] [0]) (.cons (.cst (.int .i64 (-4))) .nil)) .nil)) (.done [] none)))))
@[simp] theorem h5_41_wp {P : Program} {F : PF P} {Q : EX → List Value → World → Prop} {env : List Value} {w : World} : h5_41.wp F Q env w = HC.wp F (.reg (.chk none (.build #[(.int .i64 0), (.int .i64 0), (.int .i64 0), (.int .i64 0)] [(0, 1), (1, 1), (2, 1), (3, 1)] [0]) (.cons (.cst (.int .i64 (-4))) .nil) (.chk none (.idxL 4) (.cons (.inp 8) (.cons (.inp 12) .nil)) (.eff (.st 4) (.cons (.op (.idxL 4) (.cons (.inp 8) (.cons (.inp 12) .nil))) (.cons (.op (.build #[(.int .i64 0), (.int .i64 0), (.int .i64 0), (.int .i64 0)] [(0, 1), (1, 1), (2, 1), (3, 1)] [0]) (.cons (.cst (.int .i64 (-4))) .nil)) .nil)) (.done [] none))))) Q env w := rfl
def h5_42 : HC := (.seq (.block 3 h5_41) h5_40)
@[simp] theorem h5_42_wp {P : Program} {F : PF P} {Q : EX → List Value → World → Prop} {env : List Value} {w : World} : h5_42.wp F Q env w = HC.wp F (.seq (.block 3 h5_41) h5_40) Q env w := rfl
def h5_43 : HC := (.seq (.br (.chk none .lenL (.cons (.inp 8) .nil) (.chk none (.bin .lss) (.cons (.inp 12) (.cons (.op .lenL (.cons (.inp 8) .nil)) .nil)) (.done [] (some (.op (.bin .lss) (.cons (.inp 12) (.cons (.op .lenL (.cons (.inp 8) .nil)) .nil))))))) .skip (.exit 2)) h5_42)
@[simp] theorem h5_43_wp {P : Program} {F : PF P} {Q : EX → List Value → World → Prop} {env : List Value} {w : World} : h5_43.wp F Q env w = HC.wp F (.seq (.br (.chk none .lenL (.cons (.inp 8) .nil) (.chk none (.bin .lss) (.cons (.inp 12) (.cons (.op .lenL (.cons (.inp 8) .nil)) .nil)) (.done [] (some (.op (.bin .lss) (.cons (.inp 12) (.cons (.op .lenL (.cons (.inp 8) .nil)) .nil))))))) .skip (.exit 2)) h5_42) Q env w := rfl
def h5_44 : HC := (.loop h5_43)
@[simp] theorem h5_44_wp {P : Program} {F : PF P} {Q : EX → List Value → World → Prop} {env : List Value} {w : World} : h5_44.wp F Q env w = HC.wp F (.loop h5_43) Q env w := rfl
def h5_45 : HC := (.seq (.block 2 h5_44) h5_39)
@[simp] theorem h5_45_wp {P : Program} {F : PF P} {Q : EX → List Value → World → Prop} {env : List Value} {w : World} : h5_45.wp F Q env w = HC.wp F (.seq (.block 2 h5_44) h5_39) Q env w := rfl
def h5_46 : HC := (.seq (.reg (.done [(12, (.cst (.int .i64 0)))] none)) h5_45)
@[simp] theorem h5_46_wp {P : Program} {F : PF P} {Q : EX → List Value → World → Prop} {env : List Value} {w : World} : h5_46.wp F Q env w = HC.wp F (.seq (.reg (.done [(12, (.cst (.int .i64 0)))] none)) h5_45) Q env w := rfl
def h5_47 : HC := (.seq (.reg (.eff (.bsl 44 0 4 #[] []) .nil (.eff (.app 30 30 44 4 32 (.agg #[(.int .i64 0), (.int .i64 0), (.int .i64 0), (.int .i64 0)])) (.cons (.bv 0) (.cons (.inp 8) .nil)) (.done [(11, (.bv 1))] none)))) h5_46)
@[simp] theorem h5_47_wp {P : Program} {F : PF P} {Q : EX → List Value → World → Prop} {env : List Value} {w : World} : h5_47.wp F Q env w = HC.wp F (.seq (.reg (.eff (.bsl 44 0 4 #[] []) .nil (.eff (.app 30 30 44 4 32 (.agg #[(.int .i64 0), (.int .i64 0), (.int .i64 0), (.int .i64 0)])) (.cons (.bv 0) (.cons (.inp 8) .nil)) (.done [(11, (.bv 1))] none)))) h5_46) Q env w := rfl
def h5_48 : HC := (.seq (.reg (.done [(4, (.cst (.bool false)))] none)) .ret)
@[simp] theorem h5_48_wp {P : Program} {F : PF P} {Q : EX → List Value → World → Prop} {env : List Value} {w : World} : h5_48.wp F Q env w = HC.wp F (.seq (.reg (.done [(4, (.cst (.bool false)))] none)) .ret) Q env w := rfl
def h5_49 : HC := (.seq (.br (.chk none (.cal 10) (.cons (.inp 10) .nil) (.chk none (.bin .neq) (.cons (.op (.cal 10) (.cons (.inp 10) .nil)) (.cons (.cst (.int .i64 0)) .nil)) (.done [] (some (.op (.bin .neq) (.cons (.op (.cal 10) (.cons (.inp 10) .nil)) (.cons (.cst (.int .i64 0)) .nil))))))) h5_48 .skip) h5_47)
@[simp] theorem h5_49_wp {P : Program} {F : PF P} {Q : EX → List Value → World → Prop} {env : List Value} {w : World} : h5_49.wp F Q env w = HC.wp F (.seq (.br (.chk none (.cal 10) (.cons (.inp 10) .nil) (.chk none (.bin .neq) (.cons (.op (.cal 10) (.cons (.inp 10) .nil)) (.cons (.cst (.int .i64 0)) .nil)) (.done [] (some (.op (.bin .neq) (.cons (.op (.cal 10) (.cons (.inp 10) .nil)) (.cons (.cst (.int .i64 0)) .nil))))))) h5_48 .skip) h5_47) Q env w := rfl
def h5_50 : HC := (.seq (.reg (.eff (.call 18) (.cons (.inp 5) .nil) (.eff (.call 17) (.cons (.bv 0) (.cons (.inp 8) .nil)) (.chk none (.ext 0) (.cons (.bv 1) .nil) (.chk none (.ext 1) (.cons (.bv 1) .nil) (.done [(9, (.op (.ext 0) (.cons (.bv 1) .nil))), (10, (.op (.ext 1) (.cons (.bv 1) .nil)))] none)))))) h5_49)
@[simp] theorem h5_50_wp {P : Program} {F : PF P} {Q : EX → List Value → World → Prop} {env : List Value} {w : World} : h5_50.wp F Q env w = HC.wp F (.seq (.reg (.eff (.call 18) (.cons (.inp 5) .nil) (.eff (.call 17) (.cons (.bv 0) (.cons (.inp 8) .nil)) (.chk none (.ext 0) (.cons (.bv 1) .nil) (.chk none (.ext 1) (.cons (.bv 1) .nil) (.done [(9, (.op (.ext 0) (.cons (.bv 1) .nil))), (10, (.op (.ext 1) (.cons (.bv 1) .nil)))] none)))))) h5_49) Q env w := rfl
def h5_51 : HC := (.seq (.reg (.eff (.call 11) (.cons (.inp 5) .nil) (.done [(8, (.bv 0))] none))) h5_50)
@[simp] theorem h5_51_wp {P : Program} {F : PF P} {Q : EX → List Value → World → Prop} {env : List Value} {w : World} : h5_51.wp F Q env w = HC.wp F (.seq (.reg (.eff (.call 11) (.cons (.inp 5) .nil) (.done [(8, (.bv 0))] none))) h5_50) Q env w := rfl
def h5_52 : HC := (.reg (.chk none (.bin .add) (.cons (.inp 7) (.cons (.cst (.int .i64 1)) .nil)) (.done [(7, (.op (.bin .add) (.cons (.inp 7) (.cons (.cst (.int .i64 1)) .nil))))] none)))
@[simp] theorem h5_52_wp {P : Program} {F : PF P} {Q : EX → List Value → World → Prop} {env : List Value} {w : World} : h5_52.wp F Q env w = HC.wp F (.reg (.chk none (.bin .add) (.cons (.inp 7) (.cons (.cst (.int .i64 1)) .nil)) (.done [(7, (.op (.bin .add) (.cons (.inp 7) (.cons (.cst (.int .i64 1)) .nil))))] none))) Q env w := rfl
def h5_53 : HC := (.reg (.chk none (.idxL 3) (.cons (.inp 1) (.cons (.inp 7) .nil)) (.eff (.ld true 3) (.cons (.op (.idxL 3) (.cons (.inp 1) (.cons (.inp 7) .nil))) .nil) (.eff (.call 12) (.cons (.inp 5) (.cons (.bv 0) .nil)) (.done [] none)))))
@[simp] theorem h5_53_wp {P : Program} {F : PF P} {Q : EX → List Value → World → Prop} {env : List Value} {w : World} : h5_53.wp F Q env w = HC.wp F (.reg (.chk none (.idxL 3) (.cons (.inp 1) (.cons (.inp 7) .nil)) (.eff (.ld true 3) (.cons (.op (.idxL 3) (.cons (.inp 1) (.cons (.inp 7) .nil))) .nil) (.eff (.call 12) (.cons (.inp 5) (.cons (.bv 0) .nil)) (.done [] none))))) Q env w := rfl
def h5_54 : HC := (.seq (.block 1 h5_53) h5_52)
@[simp] theorem h5_54_wp {P : Program} {F : PF P} {Q : EX → List Value → World → Prop} {env : List Value} {w : World} : h5_54.wp F Q env w = HC.wp F (.seq (.block 1 h5_53) h5_52) Q env w := rfl
def h5_55 : HC := (.seq (.br (.chk none .lenL (.cons (.inp 1) .nil) (.chk none (.bin .lss) (.cons (.inp 7) (.cons (.op .lenL (.cons (.inp 1) .nil)) .nil)) (.done [] (some (.op (.bin .lss) (.cons (.inp 7) (.cons (.op .lenL (.cons (.inp 1) .nil)) .nil))))))) .skip (.exit 0)) h5_54)
@[simp] theorem h5_55_wp {P : Program} {F : PF P} {Q : EX → List Value → World → Prop} {env : List Value} {w : World} : h5_55.wp F Q env w = HC.wp F (.seq (.br (.chk none .lenL (.cons (.inp 1) .nil) (.chk none (.bin .lss) (.cons (.inp 7) (.cons (.op .lenL (.cons (.inp 1) .nil)) .nil)) (.done [] (some (.op (.bin .lss) (.cons (.inp 7) (.cons (.op .lenL (.cons (.inp 1) .nil)) .nil))))))) .skip (.exit 0)) h5_54) Q env w := rfl
def h5_56 : HC := (.loop h5_55)
@[simp] theorem h5_56_wp {P : Program} {F : PF P} {Q : EX → List Value → World → Prop} {env : List Value} {w : World} : h5_56.wp F Q env w = HC.wp F (.loop h5_55) Q env w := rfl
def h5_57 : HC := (.seq (.block 0 h5_56) h5_51)
@[simp] theorem h5_57_wp {P : Program} {F : PF P} {Q : EX → List Value → World → Prop} {env : List Value} {w : World} : h5_57.wp F Q env w = HC.wp F (.seq (.block 0 h5_56) h5_51) Q env w := rfl
def h5_58 : HC := (.seq (.reg (.done [(7, (.cst (.int .i64 0)))] none)) h5_57)
@[simp] theorem h5_58_wp {P : Program} {F : PF P} {Q : EX → List Value → World → Prop} {env : List Value} {w : World} : h5_58.wp F Q env w = HC.wp F (.seq (.reg (.done [(7, (.cst (.int .i64 0)))] none)) h5_57) Q env w := rfl
def h5_59 : HC := (.seq (.reg (.done [(4, (.cst (.bool false)))] none)) .ret)
@[simp] theorem h5_59_wp {P : Program} {F : PF P} {Q : EX → List Value → World → Prop} {env : List Value} {w : World} : h5_59.wp F Q env w = HC.wp F (.seq (.reg (.done [(4, (.cst (.bool false)))] none)) .ret) Q env w := rfl
def h5_60 : HC := (.seq (.br (.chk none (.cal 10) (.cons (.inp 6) .nil) (.chk none (.bin .neq) (.cons (.op (.cal 10) (.cons (.inp 6) .nil)) (.cons (.cst (.int .i64 0)) .nil)) (.done [] (some (.op (.bin .neq) (.cons (.op (.cal 10) (.cons (.inp 6) .nil)) (.cons (.cst (.int .i64 0)) .nil))))))) h5_59 .skip) h5_58)
@[simp] theorem h5_60_wp {P : Program} {F : PF P} {Q : EX → List Value → World → Prop} {env : List Value} {w : World} : h5_60.wp F Q env w = HC.wp F (.seq (.br (.chk none (.cal 10) (.cons (.inp 6) .nil) (.chk none (.bin .neq) (.cons (.op (.cal 10) (.cons (.inp 6) .nil)) (.cons (.cst (.int .i64 0)) .nil)) (.done [] (some (.op (.bin .neq) (.cons (.op (.cal 10) (.cons (.inp 6) .nil)) (.cons (.cst (.int .i64 0)) .nil))))))) h5_59 .skip) h5_58) Q env w := rfl
def h5_61 : HC := (.seq (.reg (.eff (.call 9) (.cons (.inp 0) (.cons (.cst (.int .i64 513)) .nil)) (.eff (.call 8) (.cons (.bv 0) .nil) (.chk none (.ext 0) (.cons (.bv 1) .nil) (.chk none (.ext 1) (.cons (.bv 1) .nil) (.done [(5, (.op (.ext 0) (.cons (.bv 1) .nil))), (6, (.op (.ext 1) (.cons (.bv 1) .nil)))] none)))))) h5_60)
@[simp] theorem h5_61_wp {P : Program} {F : PF P} {Q : EX → List Value → World → Prop} {env : List Value} {w : World} : h5_61.wp F Q env w = HC.wp F (.seq (.reg (.eff (.call 9) (.cons (.inp 0) (.cons (.cst (.int .i64 513)) .nil)) (.eff (.call 8) (.cons (.bv 0) .nil) (.chk none (.ext 0) (.cons (.bv 1) .nil) (.chk none (.ext 1) (.cons (.bv 1) .nil) (.done [(5, (.op (.ext 0) (.cons (.bv 1) .nil))), (6, (.op (.ext 1) (.cons (.bv 1) .nil)))] none)))))) h5_60) Q env w := rfl
def h5_62 : HC := (.seq (.reg (.done [(4, (.cst (.bool false)))] none)) .ret)
@[simp] theorem h5_62_wp {P : Program} {F : PF P} {Q : EX → List Value → World → Prop} {env : List Value} {w : World} : h5_62.wp F Q env w = HC.wp F (.seq (.reg (.done [(4, (.cst (.bool false)))] none)) .ret) Q env w := rfl
def h5_63 : HC := (.seq (.br (.eff (.call 7) .nil (.chk none (.un .not) (.cons (.bv 0) .nil) (.done [] (some (.op (.un .not) (.cons (.bv 0) .nil)))))) h5_62 .skip) h5_61)
@[simp] theorem h5_63_wp {P : Program} {F : PF P} {Q : EX → List Value → World → Prop} {env : List Value} {w : World} : h5_63.wp F Q env w = HC.wp F (.seq (.br (.eff (.call 7) .nil (.chk none (.un .not) (.cons (.bv 0) .nil) (.done [] (some (.op (.un .not) (.cons (.bv 0) .nil)))))) h5_62 .skip) h5_61) Q env w := rfl
def l5 : Lifted := ⟨[0, 1, 2, 3, 8, 9, 10, 11, 12, 13, 14, 15, 16, 17, 18, 19, 20, 21, 22, 23, 24], 201, [.slot 4], (.seq (.reg (.done [(4, (.cst (.bool false)))] none)) h5_63)⟩
theorem l5_ok : liftFn G2 5 400 = some l5 := by kernel_rfl


def lastC (A B : Asn) (w0 : World) (its it2 : List It) (la lb : List Int) : List Value → World → Prop
  | [], w => St w0 B w
  | [r0], w => St w0 (B * own 44 4 r0 its.length (flat its)) w
  | [_, r1], w => r1 = .bool true ∧ St w0 B w
  | [_, _, r2], w => St w0 (B * own 3 1 r2 la.length (ints la)) w
  | [_, _, _, r3], w => r3 = .bool true ∧ St w0 B w
  | [_, _, _, _, r4], w => St w0 (B * own 3 1 r4 lb.length (ints lb)) w
  | [_, _, _, _, _, r5], w => r5 = .bool true ∧ St w0 B w
  | [_, _, _, _, _, _, r6], w => St w0 (B * own 44 4 r6 it2.length (flat it2)) w
  | [_, _, _, _, _, _, r6, r7], w => St w0 (B * own 44 4 r6 it2.length (flat it2) * own 44 4 r7 it2.length (flat it2)) w
  | [_, _, _, _, _, _, _, _, r8], w => r8 = .bool true ∧ St w0 A w
  | _, _ => False
theorem last_base {A B : Asn} {w0 : World} {its it2 : List It} {la lb : List Int} {vs : List Value} {R : World → Prop} (hv : vs.length < 9) (h : ∀ w, St w0 B w → R w) : ∀ vs' w, era 9 vs' = era 9 vs → lastC A B w0 its it2 la lb vs' w → R w := by
  intro vs' w he hw
  match vs', hw with
  | [], hw => exact h w hw
  | [_], hw => exact h w hw.drop
  | [_, _], hw => exact h w hw.2
  | [_, _, _], hw => exact h w (St.drop hw)
  | [_, _, _, _], hw => exact h w hw.2
  | [_, _, _, _, _], hw => exact h w (St.drop hw)
  | [_, _, _, _, _, _], hw => exact h w hw.2
  | [_, _, _, _, _, _, _], hw => exact h w (St.drop hw)
  | [_, _, _, _, _, _, _, _], hw => exact h w (St.drop (St.drop hw))
  | [_, _, _, _, _, _, _, _, _], hw => simp [era] at he; omega
theorem own_last (lim lm who : Int) (its it2 : List It) (p q c : Nat) (a1 a2 v7 v8 wv v12 v13 v14 v15 v16 v18 v19 v20 : Value) (W : Nat → Value) (w0 w : World) (A A0 : Asn) (hA : ∀ w, St w0 A w → St w0 A0 w)
    (hw : Row w0 A wv its.length 4 (flat its)) (hz : Row w0 A v15 6 1 ((List.range 6).map W))
    (h0 : Row w0 A (W 0) (ofF its who).length 1 (ints (ofF its who))) (h2 : Row w0 A (W 2) (inF its who).length 1 (ints (inF its who))) (hl : its.length ≤ 512) (hl2 : it2.length ≤ 512)
    (s : St w0 (A * gds p lm its * gds q lm it2 * gds c lm it2) w) :
    HC.wp G2 h5_0 (endQ Try.prog [RV.slot 4] fun r w' => r = Value.bool true ∧ St w0 A0 w')
      [.int .i64 lim, a1, a2, .int .i64 who, .bool false, .pointer (some ⟨p, 0, none⟩), .int .i64 0, v7, v8, .pointer (some ⟨q, 0, none⟩), .int .i64 0, wv, v12, v13, v14, v15, v16, .pointer (some ⟨c, 0, none⟩), v18, v19, v20] w := by
  obtain ⟨g, o, cap, rfl, hc⟩ := hz.at (by omega)
  have l0 := of_len hl who
  have l2 := in_len hl who
  simp
  refine regmI (lastC A (A * gds p lm its * gds q lm it2 * gds c lm it2) w0 its it2 (ofF its who) (inF its who)) s.drew ?_
  simp
  refine effm_mv rfl (fun w hw => eff_call ((Rows_spec p lm its w0 w (A * gds q lm it2 * gds c lm it2) (by omega) (hw.to (by ac_rfl))).mono fun r w' h => ?_)) (fun r0 _ => ?_)
  · exact h.to (by ac_rfl)
  simp
  refine effm_mv rfl (fun w s => eff_call ((items_spec its its r0 wv w0 w (A * gds p lm its * gds q lm it2 * gds c lm it2 * own 44 4 r0 its.length (flat its)) (by omega) (row_own s) (hw.mono fun w s => s.drop.drop.drop.drop) s).mono fun r w' h => ?_)) (fun r1 h1 => ?_)
  · obtain ⟨rfl, h⟩ := h; exact ⟨by simp, h.drop⟩
  obtain ⟨_, rfl, _⟩ := h1
  simp
  refine effm_mv rfl (fun w hw => eff_call ((Of_spec p lm its who w0 w (A * gds q lm it2 * gds c lm it2) (by omega) (hw.2.to (by ac_rfl))).mono fun r w' h => ?_)) (fun r2 _ => ?_)
  · exact h.to (by ac_rfl)
  simp
  refine effm_ldc (v := W 0) (last_base (by simp) fun w s => hc w s.drop.drop.drop 0 _ (range_at (by omega))) ?_
  simp
  refine effm_mv rfl (fun w s => eff_call ((ints_spec (ofF its who) (ofF its who) r2 (W 0) w0 w (A * gds p lm its * gds q lm it2 * gds c lm it2 * own 3 1 r2 (ofF its who).length (ints (ofF its who))) l0 (row_own s) (h0.mono fun w s => s.drop.drop.drop.drop) s).mono fun r w' h => ?_)) (fun r3 h3 => ?_)
  · obtain ⟨rfl, h⟩ := h; exact ⟨by simp, h.drop⟩
  obtain ⟨_, rfl, _⟩ := h3
  simp
  refine effm_mv rfl (fun w hw => eff_call ((In_spec p lm its who w0 w (A * gds q lm it2 * gds c lm it2) (by omega) (hw.2.to (by ac_rfl))).mono fun r w' h => ?_)) (fun r4 _ => ?_)
  · exact h.to (by ac_rfl)
  simp
  refine effm_ldc (v := W 2) (last_base (by simp) fun w s => hc w s.drop.drop.drop 2 _ (range_at (by omega))) ?_
  simp
  refine effm_mv rfl (fun w s => eff_call ((ints_spec (inF its who) (inF its who) r4 (W 2) w0 w (A * gds p lm its * gds q lm it2 * gds c lm it2 * own 3 1 r4 (inF its who).length (ints (inF its who))) l2 (row_own s) (h2.mono fun w s => s.drop.drop.drop.drop) s).mono fun r w' h => ?_)) (fun r5 h5 => ?_)
  · obtain ⟨rfl, h⟩ := h; exact ⟨by simp, h.drop⟩
  obtain ⟨_, rfl, _⟩ := h5
  simp
  refine effm_mv rfl (fun w hw => eff_call ((Rows_spec c lm it2 w0 w (A * gds p lm its * gds q lm it2) (by omega) (hw.2.to (by ac_rfl))).mono fun r w' h => ?_)) (fun r6 _ => ?_)
  · exact h.to (by ac_rfl)
  simp
  refine effm_mv rfl (fun w hw => eff_call ((Rows_spec q lm it2 w0 w (A * gds p lm its * gds c lm it2 * own 44 4 r6 it2.length (flat it2)) (by omega) (St.to hw (by ac_rfl))).mono fun r w' h => ?_)) (fun r7 _ => ?_)
  · exact h.to (by ac_rfl)
  simp
  refine effm_mv rfl (fun w s => eff_call ((items_spec it2 it2 r6 r7 w0 w (A * gds p lm its * gds q lm it2 * gds c lm it2 * own 44 4 r6 it2.length (flat it2) * own 44 4 r7 it2.length (flat it2)) (by omega) (row_in (e := 44) (B := A * gds p lm its * gds q lm it2 * gds c lm it2 * own 44 4 r7 it2.length (flat it2)) s (by ac_rfl)) (row_own s) s).mono fun r w' h => ?_)) (fun r8 h8 => ?_)
  · obtain ⟨rfl, h⟩ := h; exact ⟨by simp, h.drop.drop.drop.drop.drop⟩
  obtain ⟨_, rfl, _⟩ := h8
  simp
  intro w9 h9
  exact hA _ h9.2
def rowsA (R : Nat → Value) (its : List It) : Asn := bigA (fun j ys => own 44 4 (R j) its.length (flat ys)) (fun _ => its) 3
def listsA (L : Nat → Value) (Z : Nat → List Int) : Asn := bigA (fun j zs => own 3 1 (L j) (Z j).length (ints zs)) Z 6
theorem rows_one (R : Nat → Value) (its : List It) {i : Nat} (h : i < 3) : rowsA R its = bigH (fun j ys => own 44 4 (R j) its.length (flat ys)) (fun _ => its) i 3 * own 44 4 (R i) its.length (flat its) := big_at (F := fun j (ys : List It) => own 44 4 (R j) its.length (flat ys)) h
theorem lists_one (L : Nat → Value) (Z : Nat → List Int) {i : Nat} (h : i < 6) : listsA L Z = bigH (fun j zs => own 3 1 (L j) (Z j).length (ints zs)) Z i 6 * own 3 1 (L i) (Z i).length (ints (Z i)) := big_at (F := fun j (zs : List Int) => own 3 1 (L j) (Z j).length (ints zs)) h
theorem own_lists (lim lm who : Int) (its it2 : List It) (p q c : Nat) (a1 a2 v7 v8 wv v12 v13 v14 v15 v16 v18 v19 v20 : Value) (R L W : Nat → Value) (Z : Nat → List Int) (w0 w : World) (A A0 : Asn) (hA : ∀ w, St w0 A w → St w0 A0 w)
    (hw : Row w0 A wv its.length 4 (flat its)) (hr : Row w0 A v13 3 1 ((List.range 3).map R)) (hls : Row w0 A v14 6 1 ((List.range 6).map L)) (hz : Row w0 A v15 6 1 ((List.range 6).map W))
    (hW : ∀ j, j < 6 → Row w0 A (W j) (Z j).length 1 (ints (Z j))) (hZ : ∀ j, (Z j).length ≤ 1048576) (z0 : Z 0 = ofF its who) (z2 : Z 2 = inF its who) (hl : its.length ≤ 512) (hl2 : it2.length ≤ 512)
    (s : St w0 (A * gds p lm its * gds q lm it2 * gds c lm it2 * rowsA R its * listsA L Z) w) :
    HC.wp G2 h5_10 (endQ Try.prog [RV.slot 4] fun r w' => r = Value.bool true ∧ St w0 A0 w')
      [.int .i64 lim, a1, a2, .int .i64 who, .bool false, .pointer (some ⟨p, 0, none⟩), .int .i64 0, v7, v8, .pointer (some ⟨q, 0, none⟩), .int .i64 0, wv, v12, v13, v14, v15, v16, .pointer (some ⟨c, 0, none⟩), v18, v19, v20] w := by
  obtain ⟨g, o, cap, rfl, hc⟩ := hls.at (by omega)
  obtain ⟨g2, o2, cap2, rfl, hc2⟩ := hz.at (by omega)
  simp
  refine loopI (fun env w' => ∃ (i : Nat), env = [.int .i64 lim, a1, a2, .int .i64 who, .bool false, .pointer (some ⟨p, 0, none⟩), .int .i64 0, v7, v8, .pointer (some ⟨q, 0, none⟩), .int .i64 0, wv, v12, v13, .slice (some ⟨g, o, none⟩) 6 cap, .slice (some ⟨g2, o2, none⟩) 6 cap2, v16, .pointer (some ⟨c, 0, none⟩), v18, v19, .int .i64 i] ∧ i ≤ 6 ∧
      St w0 (A * gds p lm its * gds q lm it2 * gds c lm it2 * rowsA R its * listsA L Z) w')
    (fun env _ => 6 - slotN env 20) ⟨0, rfl, by omega, s⟩ ?_
  clear s
  rintro LQ env w' ⟨i, rfl, hi, s⟩ hN hE hR
  simp
  refine cndI (fun h => ?_) (fun h => ?_)
  · have h0 := h
    simp at h0
    simp at h
    have h : i < 6 := by omega
    simp
    rw [lists_one L Z h] at s
    generalize hH : bigH (fun j zs => own 3 1 (L j) (Z j).length (ints zs)) Z i 6 = H at s
    have s := s.to (B := A * gds p lm its * gds q lm it2 * gds c lm it2 * rowsA R its * H * own 3 1 (L i) (Z i).length (ints (Z i))) (by ac_rfl)
    have hLi : Row w0 (A * gds p lm its * gds q lm it2 * gds c lm it2 * rowsA R its * H * own 3 1 (L i) (Z i).length (ints (Z i))) (L i) (Z i).length 1 (ints (Z i)) := row_own s
    have hWi := (hW i h).mono (B := A * gds p lm its * gds q lm it2 * gds c lm it2 * rowsA R its * H * own 3 1 (L i) (Z i).length (ints (Z i))) fun w s => s.drop.drop.drop.drop.drop.drop
    refine brmI (fun vs w => match vs with
      | [] => St w0 (A * gds p lm its * gds q lm it2 * gds c lm it2 * rowsA R its * H * own 3 1 (L i) (Z i).length (ints (Z i))) w
      | r :: _ => r = .bool true ∧ St w0 (A * gds p lm its * gds q lm it2 * gds c lm it2 * rowsA R its * H * own 3 1 (L i) (Z i).length (ints (Z i))) w) s.drew ?_
    simp [h0]
    refine effm_ldc (v := L i) (fun vs' w he hw => ?_) ?_
    · match vs', hw with
      | [], hw => exact hc w hw.drop.drop.drop.drop.drop.drop i _ (range_at h)
      | _ :: _, hw => simp [era] at he
    simp [h0]
    refine effm_ldc (v := W i) (fun vs' w he hw => ?_) ?_
    · match vs', hw with
      | [], hw => exact hc2 w hw.drop.drop.drop.drop.drop.drop i _ (range_at h)
      | _ :: _, hw => simp [era] at he
    simp
    refine effm_mv rfl (fun w s => eff_call ((ints_spec (Z i) (Z i) (L i) (W i) w0 w _ (hZ i) hLi hWi s).mono fun r w' h => ?_)) (fun r1 h1 => ?_)
    · obtain ⟨rfl, h⟩ := h; exact ⟨by simp, h⟩
    obtain ⟨_, rfl, _⟩ := h1
    simp
    intro w9 h9
    try simp (disch := omega) only [wrap64]
    refine hN _ _ ⟨i + 1, by simp, by omega, ?_⟩ (by simp [slotN]; omega)
    rw [lists_one L Z h, hH]
    exact h9.to (by ac_rfl)
  simp at h
  simp
  refine hE _ _ _ ?_
  simp
  refine eff_call ((apart_spec R L (fun _ => its) Z 3 6 v13 (.slice (some ⟨g, o, none⟩) 6 cap) w0 w' (A * gds p lm its * gds q lm it2 * gds c lm it2) (by omega) (by omega) (fun _ => by omega) hZ (hr.mono fun w s => s.drop.drop.drop) (hls.mono fun w s => s.drop.drop.drop) s).mono ?_)
  rintro r w2 ⟨rfl, s2⟩
  simp
  have hi6 : i = 6 := by omega
  simpa using own_last lim lm who its it2 p q c a1 a2 v7 v8 wv v12 v13 _ _ v16 v18 v19 _ W w0 w2 A A0 hA hw hz (z0 ▸ hW 0 (by omega)) (z2 ▸ hW 2 (by omega)) hl hl2 s2
theorem own_rows (lim lm who : Int) (its it2 : List It) (p q c : Nat) (a1 a2 v7 v8 wv v12 v13 v14 v15 v16 v18 v19 v20 : Value) (R L W : Nat → Value) (Z : Nat → List Int) (w0 w : World) (A A0 : Asn) (hA : ∀ w, St w0 A w → St w0 A0 w)
    (hw : Row w0 A wv its.length 4 (flat its)) (hr : Row w0 A v13 3 1 ((List.range 3).map R)) (hls : Row w0 A v14 6 1 ((List.range 6).map L)) (hz : Row w0 A v15 6 1 ((List.range 6).map W))
    (hW : ∀ j, j < 6 → Row w0 A (W j) (Z j).length 1 (ints (Z j))) (hZ : ∀ j, (Z j).length ≤ 1048576) (z0 : Z 0 = ofF its who) (z2 : Z 2 = inF its who) (hl : its.length ≤ 512) (hl2 : it2.length ≤ 512)
    (s : St w0 (A * gds p lm its * gds q lm it2 * gds c lm it2 * rowsA R its * listsA L Z) w) :
    HC.wp G2 h5_18 (endQ Try.prog [RV.slot 4] fun r w' => r = Value.bool true ∧ St w0 A0 w')
      [.int .i64 lim, a1, a2, .int .i64 who, .bool false, .pointer (some ⟨p, 0, none⟩), .int .i64 0, v7, v8, .pointer (some ⟨q, 0, none⟩), .int .i64 0, wv, v12, v13, v14, v15, v16, .pointer (some ⟨c, 0, none⟩), v18, v19, v20] w := by
  obtain ⟨g, o, cap, rfl, hc⟩ := hr.at (by omega)
  simp
  refine loopI (fun env w' => ∃ (i : Nat), env = [.int .i64 lim, a1, a2, .int .i64 who, .bool false, .pointer (some ⟨p, 0, none⟩), .int .i64 0, v7, v8, .pointer (some ⟨q, 0, none⟩), .int .i64 0, wv, v12, .slice (some ⟨g, o, none⟩) 3 cap, v14, v15, v16, .pointer (some ⟨c, 0, none⟩), v18, .int .i64 i, v20] ∧ i ≤ 3 ∧
      St w0 (A * gds p lm its * gds q lm it2 * gds c lm it2 * rowsA R its * listsA L Z) w')
    (fun env _ => 3 - slotN env 19) ⟨0, rfl, by omega, s⟩ ?_
  clear s
  rintro LQ env w' ⟨i, rfl, hi, s⟩ hN hE hR
  simp
  refine cndI (fun h => ?_) (fun h => ?_)
  · have h0 := h
    simp at h0
    simp at h
    have h : i < 3 := by omega
    simp [h0]
    refine eff_ldc (hc w' s.drop.drop.drop.drop.drop i _ (range_at h)) ?_
    simp
    rw [rows_one R its h] at s
    generalize hH : bigH (fun j ys => own 44 4 (R j) its.length (flat ys)) (fun _ => its) i 3 = H at s
    refine eff_call ((items_spec its its (R i) wv w0 w' (A * gds p lm its * gds q lm it2 * gds c lm it2 * (H * own 44 4 (R i) its.length (flat its)) * listsA L Z) (by omega) (row_in (e := 44) (B := A * gds p lm its * gds q lm it2 * gds c lm it2 * H * listsA L Z) s (by ac_rfl)) (hw.mono fun w s => s.drop.drop.drop.drop.drop) s).mono ?_)
    rintro r w2 ⟨rfl, s2⟩
    simp
    try simp (disch := omega) only [wrap64]
    refine hN _ _ ⟨i + 1, by simp, by omega, ?_⟩ (by simp [slotN]; omega)
    rw [rows_one R its h, hH]
    exact s2
  simp at h
  simp
  refine hE _ _ _ ?_
  simp
  simpa using own_lists lim lm who its it2 p q c a1 a2 v7 v8 wv v12 _ v14 v15 v16 v18 _ v20 R L W Z w0 w' A A0 hA hw hr hls hz hW hZ z0 z2 hl hl2 s
end Go.HL.Gd
