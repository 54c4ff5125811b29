/-
  What the claim leans on, part 14 of 15. Conditions: as each theorem says.
-/
import Derived.Test.YtiokklaedanjbaaEOMm
namespace Go.HL.Es
open Go.HL Go.Proofs
set_option maxRecDepth 4000
set_option linter.unusedSimpArgs false
set_option linter.unusedVariables false
-- bazaar/bazaarlaw17.num
def h9_0 : HC := (.seq (.reg (.done [(1, (.inp 0))] none)) .ret)
@[simp] theorem h9_0_wp {P : Program} {F : PF P} {Q : EX → List Value → World → Prop} {env : List Value} {w : World} : h9_0.wp F Q env w = HC.wp F (.seq (.reg (.done [(1, (.inp 0))] none)) .ret) Q env w := rfl
def l9 : Lifted := ⟨[0, 2], 4, [.slot 1], (.seq (.reg (.done [(1, (.cst (.int .i64 0)))] none)) h9_0)⟩
theorem l9_ok : liftFn E0 9 400 = some l9 := by kernel_rfl


theorem num_spec (u : Int) (w : World) : CallW Try.prog 9 [.int .i64 u] (fun r w' => r = .int .i64 u ∧ w' = w) w := by
  refine callW_of_lift l9_ok (by simp [l9]) ?_
  simp [l9]
noncomputable def numS : PS Try.prog where
  f := 9
  val args := match args with
    | [.int _ u] => .int .i64 u
    | _ => undef
  ok args := match args with
    | [.int k _] => k = .i64
    | _ => False
  sound args w h := by
    split at h
    · rename_i k u
      subst h
      exact num_spec u w
    · exact h.elim
noncomputable abbrev E2 : PF Try.prog := PF.of [numS]
@[simp] theorem E2_num_val (args : List Value) : E2.val 9 args = numS.val args := rfl
@[simp] theorem E2_num_ok (args : List Value) : E2.ok 9 args = numS.ok args := rfl
@[simp] theorem num_val (u : Int) : numS.val [.int .i64 u] = .int .i64 u := rfl
@[simp] theorem num_ok (u : Int) : numS.ok [.int .i64 u] = (IntKind.i64 = .i64) := rfl
-- bazaar/bazaarlaw17.ints
def h17_0 : HC := (.seq (.reg (.done [(2, (.cst (.bool true)))] none)) .ret)
@[simp] theorem h17_0_wp {P : Program} {F : PF P} {Q : EX → List Value → World → Prop} {env : List Value} {w : World} : h17_0.wp F Q env w = HC.wp F (.seq (.reg (.done [(2, (.cst (.bool true)))] none)) .ret) Q env w := rfl
def h17_1 : HC := (.reg (.chk none (.bin .add) (.cons (.inp 3) (.cons (.cst (.int .i64 1)) .nil)) (.done [(3, (.op (.bin .add) (.cons (.inp 3) (.cons (.cst (.int .i64 1)) .nil))))] none)))
@[simp] theorem h17_1_wp {P : Program} {F : PF P} {Q : EX → List Value → World → Prop} {env : List Value} {w : World} : h17_1.wp F Q env w = HC.wp F (.reg (.chk none (.bin .add) (.cons (.inp 3) (.cons (.cst (.int .i64 1)) .nil)) (.done [(3, (.op (.bin .add) (.cons (.inp 3) (.cons (.cst (.int .i64 1)) .nil))))] none))) Q env w := rfl
def h17_2 : HC := (.seq (.reg (.done [(2, (.cst (.bool false)))] none)) .ret)
@[simp] theorem h17_2_wp {P : Program} {F : PF P} {Q : EX → List Value → World → Prop} {env : List Value} {w : World} : h17_2.wp F Q env w = HC.wp F (.seq (.reg (.done [(2, (.cst (.bool false)))] none)) .ret) Q env w := rfl
def h17_3 : HC := (.brq (some 0) (.chk none (.idxL 1) (.cons (.inp 0) (.cons (.inp 3) .nil)) (.eff (.ld false 1) (.cons (.op (.idxL 1) (.cons (.inp 0) (.cons (.inp 3) .nil))) .nil) (.chk none (.idxL 1) (.cons (.inp 1) (.cons (.inp 3) .nil)) (.eff (.ld false 1) (.cons (.op (.idxL 1) (.cons (.inp 1) (.cons (.inp 3) .nil))) .nil) (.chk none (.bin .neq) (.cons (.bv 0) (.cons (.bv 1) .nil)) (.done [] (some (.op (.bin .neq) (.cons (.bv 0) (.cons (.bv 1) .nil)))))))))) h17_2 .skip)
@[simp] theorem h17_3_wp {P : Program} {F : PF P} {Q : EX → List Value → World → Prop} {env : List Value} {w : World} : h17_3.wp F Q env w = HC.wp F (.brq (some 0) (.chk none (.idxL 1) (.cons (.inp 0) (.cons (.inp 3) .nil)) (.eff (.ld false 1) (.cons (.op (.idxL 1) (.cons (.inp 0) (.cons (.inp 3) .nil))) .nil) (.chk none (.idxL 1) (.cons (.inp 1) (.cons (.inp 3) .nil)) (.eff (.ld false 1) (.cons (.op (.idxL 1) (.cons (.inp 1) (.cons (.inp 3) .nil))) .nil) (.chk none (.bin .neq) (.cons (.bv 0) (.cons (.bv 1) .nil)) (.done [] (some (.op (.bin .neq) (.cons (.bv 0) (.cons (.bv 1) .nil)))))))))) h17_2 .skip) Q env w := rfl
def h17_4 : HC := (.seq (.block 1 h17_3) h17_1)
@[simp] theorem h17_4_wp {P : Program} {F : PF P} {Q : EX → List Value → World → Prop} {env : List Value} {w : World} : h17_4.wp F Q env w = HC.wp F (.seq (.block 1 h17_3) h17_1) Q env w := rfl
def h17_5 : HC := (.seq (.br (.chk none .lenL (.cons (.inp 0) .nil) (.chk none (.bin .lss) (.cons (.inp 3) (.cons (.op .lenL (.cons (.inp 0) .nil)) .nil)) (.done [] (some (.op (.bin .lss) (.cons (.inp 3) (.cons (.op .lenL (.cons (.inp 0) .nil)) .nil))))))) .skip (.exit 0)) h17_4)
@[simp] theorem h17_5_wp {P : Program} {F : PF P} {Q : EX → List Value → World → Prop} {env : List Value} {w : World} : h17_5.wp F Q env w = HC.wp F (.seq (.br (.chk none .lenL (.cons (.inp 0) .nil) (.chk none (.bin .lss) (.cons (.inp 3) (.cons (.op .lenL (.cons (.inp 0) .nil)) .nil)) (.done [] (some (.op (.bin .lss) (.cons (.inp 3) (.cons (.op .lenL (.cons (.inp 0) .nil)) .nil))))))) .skip (.exit 0)) h17_4) Q env w := rfl
def h17_6 : HC := (.loop h17_5)
@[simp] theorem h17_6_wp {P : Program} {F : PF P} {Q : EX → List Value → World → Prop} {env : List Value} {w : World} : h17_6.wp F Q env w = HC.wp F (.loop h17_5) Q env w := rfl
def h17_7 : HC := (.seq (.block 0 h17_6) h17_0)
@[simp] theorem h17_7_wp {P : Program} {F : PF P} {Q : EX → List Value → World → Prop} {env : List Value} {w : World} : h17_7.wp F Q env w = HC.wp F (.seq (.block 0 h17_6) h17_0) Q env w := rfl
def h17_8 : HC := (.seq (.reg (.done [(3, (.cst (.int .i64 0)))] none)) h17_7)
@[simp] theorem h17_8_wp {P : Program} {F : PF P} {Q : EX → List Value → World → Prop} {env : List Value} {w : World} : h17_8.wp F Q env w = HC.wp F (.seq (.reg (.done [(3, (.cst (.int .i64 0)))] none)) h17_7) Q env w := rfl
def h17_9 : HC := (.seq (.reg (.done [(2, (.cst (.bool false)))] none)) .ret)
@[simp] theorem h17_9_wp {P : Program} {F : PF P} {Q : EX → List Value → World → Prop} {env : List Value} {w : World} : h17_9.wp F Q env w = HC.wp F (.seq (.reg (.done [(2, (.cst (.bool false)))] none)) .ret) Q env w := rfl
def h17_10 : HC := (.seq (.br (.chk none .lenL (.cons (.inp 0) .nil) (.chk none .lenL (.cons (.inp 1) .nil) (.chk none (.bin .neq) (.cons (.op .lenL (.cons (.inp 0) .nil)) (.cons (.op .lenL (.cons (.inp 1) .nil)) .nil)) (.done [] (some (.op (.bin .neq) (.cons (.op .lenL (.cons (.inp 0) .nil)) (.cons (.op .lenL (.cons (.inp 1) .nil)) .nil)))))))) h17_9 .skip) h17_8)
@[simp] theorem h17_10_wp {P : Program} {F : PF P} {Q : EX → List Value → World → Prop} {env : List Value} {w : World} : h17_10.wp F Q env w = HC.wp F (.seq (.br (.chk none .lenL (.cons (.inp 0) .nil) (.chk none .lenL (.cons (.inp 1) .nil) (.chk none (.bin .neq) (.cons (.op .lenL (.cons (.inp 0) .nil)) (.cons (.op .lenL (.cons (.inp 1) .nil)) .nil)) (.done [] (some (.op (.bin .neq) (.cons (.op .lenL (.cons (.inp 0) .nil)) (.cons (.op .lenL (.cons (.inp 1) .nil)) .nil)))))))) h17_9 .skip) h17_8) Q env w := rfl
def l17 : Lifted := ⟨[0, 1, 4, 5], 26, [.slot 2], (.seq (.reg (.done [(2, (.cst (.bool false)))] none)) h17_10)⟩
theorem l17_ok : liftFn E2 17 400 = some l17 := by kernel_rfl

-- bazaar/bazaarlaw17.items
-- bazaar/bazaarlaw17.accounts
-- bazaar/bazaarlaw17.has
def h27_0 : HC := (.seq (.reg (.chk none (.cal 9) (.cons (.inp 5) .nil) (.chk none (.bin .eql) (.cons (.op (.cal 9) (.cons (.inp 5) .nil)) (.cons (.cst (.int .i64 0)) .nil)) (.bnd (.op (.bin .eql) (.cons (.op (.cal 9) (.cons (.inp 5) .nil)) (.cons (.cst (.int .i64 0)) .nil))) (.chk (some ((.bv 0), true)) (.fld 1) (.cons (.inp 4) .nil) (.ite (.bv 0) true (.eff (.ld false 1) (.cons (.ite (.bv 0) true (.op (.fld 1) (.cons (.inp 4) .nil)) (.cst (.tuple #[]))) .nil) (.chk none (.bin .eql) (.cons (.bv 1) (.cons (.inp 2) .nil)) (.isb none (.bv 0) (.done [(3, (.op (.bin .eql) (.cons (.bv 1) (.cons (.inp 2) .nil))))] none)))) (.isb none (.bv 0) (.done [(3, (.cst (.bool false)))] none)))))))) .ret)
@[simp] theorem h27_0_wp {P : Program} {F : PF P} {Q : EX → List Value → World → Prop} {env : List Value} {w : World} : h27_0.wp F Q env w = HC.wp F (.seq (.reg (.chk none (.cal 9) (.cons (.inp 5) .nil) (.chk none (.bin .eql) (.cons (.op (.cal 9) (.cons (.inp 5) .nil)) (.cons (.cst (.int .i64 0)) .nil)) (.bnd (.op (.bin .eql) (.cons (.op (.cal 9) (.cons (.inp 5) .nil)) (.cons (.cst (.int .i64 0)) .nil))) (.chk (some ((.bv 0), true)) (.fld 1) (.cons (.inp 4) .nil) (.ite (.bv 0) true (.eff (.ld false 1) (.cons (.ite (.bv 0) true (.op (.fld 1) (.cons (.inp 4) .nil)) (.cst (.tuple #[]))) .nil) (.chk none (.bin .eql) (.cons (.bv 1) (.cons (.inp 2) .nil)) (.isb none (.bv 0) (.done [(3, (.op (.bin .eql) (.cons (.bv 1) (.cons (.inp 2) .nil))))] none)))) (.isb none (.bv 0) (.done [(3, (.cst (.bool false)))] none)))))))) .ret) Q env w := rfl
def h27_1 : HC := (.seq (.reg (.eff (.call 50) (.cons (.inp 0) (.cons (.inp 1) .nil)) (.chk none (.ext 0) (.cons (.bv 0) .nil) (.chk none (.ext 1) (.cons (.bv 0) .nil) (.eff (.new 76 (.agg #[(.string ⟨#[]⟩), (.int .u64 0)])) .nil (.eff (.st 2) (.cons (.bv 1) (.cons (.op (.ext 0) (.cons (.bv 0) .nil)) .nil)) (.done [(4, (.bv 1)), (5, (.op (.ext 1) (.cons (.bv 0) .nil)))] none))))))) h27_0)
@[simp] theorem h27_1_wp {P : Program} {F : PF P} {Q : EX → List Value → World → Prop} {env : List Value} {w : World} : h27_1.wp F Q env w = HC.wp F (.seq (.reg (.eff (.call 50) (.cons (.inp 0) (.cons (.inp 1) .nil)) (.chk none (.ext 0) (.cons (.bv 0) .nil) (.chk none (.ext 1) (.cons (.bv 0) .nil) (.eff (.new 76 (.agg #[(.string ⟨#[]⟩), (.int .u64 0)])) .nil (.eff (.st 2) (.cons (.bv 1) (.cons (.op (.ext 0) (.cons (.bv 0) .nil)) .nil)) (.done [(4, (.bv 1)), (5, (.op (.ext 1) (.cons (.bv 0) .nil)))] none))))))) h27_0) Q env w := rfl
def l27 : Lifted := ⟨[0, 1, 2, 6, 7, 8], 24, [.slot 3], (.seq (.reg (.done [(3, (.cst (.bool false)))] none)) h27_1)⟩
theorem l27_ok : liftFn E2 27 400 = some l27 := by kernel_rfl

-- bazaar/bazaarlaw17.given
def h26_0 : HC := (.seq (.reg (.done [(0, (.inp 3)), (1, (.inp 5)), (2, (.inp 7))] none)) .ret)
@[simp] theorem h26_0_wp {P : Program} {F : PF P} {Q : EX → List Value → World → Prop} {env : List Value} {w : World} : h26_0.wp F Q env w = HC.wp F (.seq (.reg (.done [(0, (.inp 3)), (1, (.inp 5)), (2, (.inp 7))] none)) .ret) Q env w := rfl
def h26_1 : HC := (.seq (.reg (.eff (.call 30) (.cons (.inp 3) (.cons (.inp 5) .nil)) (.chk none (.ext 0) (.cons (.bv 0) .nil) (.chk none (.ext 1) (.cons (.bv 0) .nil) (.done [(7, (.op (.ext 0) (.cons (.bv 0) .nil)))] none))))) h26_0)
@[simp] theorem h26_1_wp {P : Program} {F : PF P} {Q : EX → List Value → World → Prop} {env : List Value} {w : World} : h26_1.wp F Q env w = HC.wp F (.seq (.reg (.eff (.call 30) (.cons (.inp 3) (.cons (.inp 5) .nil)) (.chk none (.ext 0) (.cons (.bv 0) .nil) (.chk none (.ext 1) (.cons (.bv 0) .nil) (.done [(7, (.op (.ext 0) (.cons (.bv 0) .nil)))] none))))) h26_0) Q env w := rfl
def h26_2 : HC := (.seq (.reg (.eff (.call 49) (.cons (.inp 5) (.cons (.cst (.int .i64 0)) (.cons (.cst (.int .i64 2)) .nil))) (.done [] none))) h26_1)
@[simp] theorem h26_2_wp {P : Program} {F : PF P} {Q : EX → List Value → World → Prop} {env : List Value} {w : World} : h26_2.wp F Q env w = HC.wp F (.seq (.reg (.eff (.call 49) (.cons (.inp 5) (.cons (.cst (.int .i64 0)) (.cons (.cst (.int .i64 2)) .nil))) (.done [] none))) h26_1) Q env w := rfl
def h26_3 : HC := (.seq (.reg (.eff (.call 49) (.cons (.inp 5) (.cons (.cst (.int .i64 0)) (.cons (.cst (.int .i64 1)) .nil))) (.done [] none))) h26_2)
@[simp] theorem h26_3_wp {P : Program} {F : PF P} {Q : EX → List Value → World → Prop} {env : List Value} {w : World} : h26_3.wp F Q env w = HC.wp F (.seq (.reg (.eff (.call 49) (.cons (.inp 5) (.cons (.cst (.int .i64 0)) (.cons (.cst (.int .i64 1)) .nil))) (.done [] none))) h26_2) Q env w := rfl
def h26_4 : HC := (.seq (.reg (.eff (.call 48) (.cons (.inp 3) (.cons (.cst (.int .i64 2)) (.cons (.cst (.int .u64 50)) .nil))) (.done [] none))) h26_3)
@[simp] theorem h26_4_wp {P : Program} {F : PF P} {Q : EX → List Value → World → Prop} {env : List Value} {w : World} : h26_4.wp F Q env w = HC.wp F (.seq (.reg (.eff (.call 48) (.cons (.inp 3) (.cons (.cst (.int .i64 2)) (.cons (.cst (.int .u64 50)) .nil))) (.done [] none))) h26_3) Q env w := rfl
def h26_5 : HC := (.seq (.reg (.eff (.call 48) (.cons (.inp 3) (.cons (.cst (.int .i64 1)) (.cons (.cst (.int .u64 100)) .nil))) (.done [] none))) h26_4)
@[simp] theorem h26_5_wp {P : Program} {F : PF P} {Q : EX → List Value → World → Prop} {env : List Value} {w : World} : h26_5.wp F Q env w = HC.wp F (.seq (.reg (.eff (.call 48) (.cons (.inp 3) (.cons (.cst (.int .i64 1)) (.cons (.cst (.int .u64 100)) .nil))) (.done [] none))) h26_4) Q env w := rfl
def h26_6 : HC := (.seq (.reg (.eff (.call 32) (.cons (.inp 3) (.cons (.cst (.string ⟨#[66, 111, 98]⟩)) .nil)) (.done [] none))) h26_5)
@[simp] theorem h26_6_wp {P : Program} {F : PF P} {Q : EX → List Value → World → Prop} {env : List Value} {w : World} : h26_6.wp F Q env w = HC.wp F (.seq (.reg (.eff (.call 32) (.cons (.inp 3) (.cons (.cst (.string ⟨#[66, 111, 98]⟩)) .nil)) (.done [] none))) h26_5) Q env w := rfl
def h26_7 : HC := (.seq (.reg (.eff (.call 32) (.cons (.inp 3) (.cons (.cst (.string ⟨#[65, 110, 110]⟩)) .nil)) (.done [] none))) h26_6)
@[simp] theorem h26_7_wp {P : Program} {F : PF P} {Q : EX → List Value → World → Prop} {env : List Value} {w : World} : h26_7.wp F Q env w = HC.wp F (.seq (.reg (.eff (.call 32) (.cons (.inp 3) (.cons (.cst (.string ⟨#[65, 110, 110]⟩)) .nil)) (.done [] none))) h26_6) Q env w := rfl
def h26_8 : HC := (.seq (.reg (.done [(0, (.cst (.pointer none))), (1, (.cst (.pointer none))), (2, (.cst (.pointer none)))] none)) .ret)
@[simp] theorem h26_8_wp {P : Program} {F : PF P} {Q : EX → List Value → World → Prop} {env : List Value} {w : World} : h26_8.wp F Q env w = HC.wp F (.seq (.reg (.done [(0, (.cst (.pointer none))), (1, (.cst (.pointer none))), (2, (.cst (.pointer none)))] none)) .ret) Q env w := rfl
def h26_9 : HC := (.seq (.br (.chk none (.cal 9) (.cons (.inp 4) .nil) (.chk none (.bin .neq) (.cons (.op (.cal 9) (.cons (.inp 4) .nil)) (.cons (.cst (.int .i64 0)) .nil)) (.bnd (.op (.bin .neq) (.cons (.op (.cal 9) (.cons (.inp 4) .nil)) (.cons (.cst (.int .i64 0)) .nil))) (.chk (some ((.bv 0), false)) (.cal 9) (.cons (.inp 6) .nil) (.chk (some ((.bv 0), false)) (.bin .neq) (.cons (.op (.cal 9) (.cons (.inp 6) .nil)) (.cons (.cst (.int .i64 0)) .nil)) (.isb none (.bv 0) (.bnd (.ite (.bv 0) true (.cst (.bool true)) (.op (.bin .neq) (.cons (.op (.cal 9) (.cons (.inp 6) .nil)) (.cons (.cst (.int .i64 0)) .nil)))) (.chk (some ((.bv 1), false)) (.eqNil false (.pointer 81) (.pointer none)) (.cons (.inp 3) .nil) (.isb none (.bv 1) (.bnd (.ite (.bv 1) true (.cst (.bool true)) (.op (.eqNil false (.pointer 81) (.pointer none)) (.cons (.inp 3) .nil))) (.chk (some ((.bv 2), false)) (.eqNil false (.pointer 92) (.pointer none)) (.cons (.inp 5) .nil) (.isb none (.bv 2) (.done [] (some (.ite (.bv 2) true (.cst (.bool true)) (.op (.eqNil false (.pointer 92) (.pointer none)) (.cons (.inp 5) .nil))))))))))))))))) h26_8 .skip) h26_7)
@[simp] theorem h26_9_wp {P : Program} {F : PF P} {Q : EX → List Value → World → Prop} {env : List Value} {w : World} : h26_9.wp F Q env w = HC.wp F (.seq (.br (.chk none (.cal 9) (.cons (.inp 4) .nil) (.chk none (.bin .neq) (.cons (.op (.cal 9) (.cons (.inp 4) .nil)) (.cons (.cst (.int .i64 0)) .nil)) (.bnd (.op (.bin .neq) (.cons (.op (.cal 9) (.cons (.inp 4) .nil)) (.cons (.cst (.int .i64 0)) .nil))) (.chk (some ((.bv 0), false)) (.cal 9) (.cons (.inp 6) .nil) (.chk (some ((.bv 0), false)) (.bin .neq) (.cons (.op (.cal 9) (.cons (.inp 6) .nil)) (.cons (.cst (.int .i64 0)) .nil)) (.isb none (.bv 0) (.bnd (.ite (.bv 0) true (.cst (.bool true)) (.op (.bin .neq) (.cons (.op (.cal 9) (.cons (.inp 6) .nil)) (.cons (.cst (.int .i64 0)) .nil)))) (.chk (some ((.bv 1), false)) (.eqNil false (.pointer 81) (.pointer none)) (.cons (.inp 3) .nil) (.isb none (.bv 1) (.bnd (.ite (.bv 1) true (.cst (.bool true)) (.op (.eqNil false (.pointer 81) (.pointer none)) (.cons (.inp 3) .nil))) (.chk (some ((.bv 2), false)) (.eqNil false (.pointer 92) (.pointer none)) (.cons (.inp 5) .nil) (.isb none (.bv 2) (.done [] (some (.ite (.bv 2) true (.cst (.bool true)) (.op (.eqNil false (.pointer 92) (.pointer none)) (.cons (.inp 5) .nil))))))))))))))))) h26_8 .skip) h26_7) Q env w := rfl
def h26_10 : HC := (.seq (.reg (.eff (.call 34) (.cons (.cst (.int .i64 9)) .nil) (.chk none (.ext 0) (.cons (.bv 0) .nil) (.chk none (.ext 1) (.cons (.bv 0) .nil) (.done [(5, (.op (.ext 0) (.cons (.bv 0) .nil))), (6, (.op (.ext 1) (.cons (.bv 0) .nil)))] none))))) h26_9)
@[simp] theorem h26_10_wp {P : Program} {F : PF P} {Q : EX → List Value → World → Prop} {env : List Value} {w : World} : h26_10.wp F Q env w = HC.wp F (.seq (.reg (.eff (.call 34) (.cons (.cst (.int .i64 9)) .nil) (.chk none (.ext 0) (.cons (.bv 0) .nil) (.chk none (.ext 1) (.cons (.bv 0) .nil) (.done [(5, (.op (.ext 0) (.cons (.bv 0) .nil))), (6, (.op (.ext 1) (.cons (.bv 0) .nil)))] none))))) h26_9) Q env w := rfl
def h26_11 : HC := (.seq (.reg (.eff (.call 47) (.cons (.cst (.int .i64 3)) .nil) (.chk none (.ext 0) (.cons (.bv 0) .nil) (.chk none (.ext 1) (.cons (.bv 0) .nil) (.done [(3, (.op (.ext 0) (.cons (.bv 0) .nil))), (4, (.op (.ext 1) (.cons (.bv 0) .nil)))] none))))) h26_10)
@[simp] theorem h26_11_wp {P : Program} {F : PF P} {Q : EX → List Value → World → Prop} {env : List Value} {w : World} : h26_11.wp F Q env w = HC.wp F (.seq (.reg (.eff (.call 47) (.cons (.cst (.int .i64 3)) .nil) (.chk none (.ext 0) (.cons (.bv 0) .nil) (.chk none (.ext 1) (.cons (.bv 0) .nil) (.done [(3, (.op (.ext 0) (.cons (.bv 0) .nil))), (4, (.op (.ext 1) (.cons (.bv 0) .nil)))] none))))) h26_10) Q env w := rfl
def l26 : Lifted := ⟨[0, 1, 2, 3, 4, 5, 6, 7], 54, [.slot 0, .slot 1, .slot 2], (.seq (.reg (.done [(0, (.cst (.pointer none))), (1, (.cst (.pointer none))), (2, (.cst (.pointer none)))] none)) h26_11)⟩
theorem l26_ok : liftFn E2 26 400 = some l26 := by kernel_rfl

-- bazaar/bazaarlaw17.awake
def h6_0 : HC := (.seq (.reg (.chk none (.cal 9) (.cons (.inp 4) .nil) (.chk none (.bin .eql) (.cons (.op (.cal 9) (.cons (.inp 4) .nil)) (.cons (.cst (.int .i64 0)) .nil)) (.bnd (.op (.bin .eql) (.cons (.op (.cal 9) (.cons (.inp 4) .nil)) (.cons (.cst (.int .i64 0)) .nil))) (.ite (.bv 0) true (.eff (.call 20) (.cons (.ite (.bv 0) true (.inp 3) (.cst (.tuple #[]))) (.cons (.cst (.int .i64 7)) .nil)) (.chk none (.bin .eql) (.cons (.bv 1) (.cons (.cst (.int .u64 30)) .nil)) (.isb none (.bv 0) (.bnd (.op (.bin .eql) (.cons (.bv 1) (.cons (.cst (.int .u64 30)) .nil))) (.ite (.bv 2) true (.eff (.call 16) (.cons (.ite (.bv 2) true (.inp 3) (.cst (.tuple #[]))) (.cons (.cst (.int .i64 7)) .nil)) (.eff (.bsl 3 1 1 #[(.int .i64 0)] [0]) (.cons (.cst (.int .i64 1)) .nil) (.eff (.call 17) (.cons (.bv 3) (.cons (.bv 4) .nil)) (.isb none (.bv 2) (.ite (.bv 5) true (.eff (.call 29) (.cons (.ite (.bv 5) true (.inp 1) (.cst (.tuple #[]))) .nil) (.chk none (.bin .eql) (.cons (.bv 6) (.cons (.cst (.int .u64 30)) .nil)) (.isb none (.bv 5) (.bnd (.op (.bin .eql) (.cons (.bv 6) (.cons (.cst (.int .u64 30)) .nil))) (.ite (.bv 7) true (.eff (.call 27) (.cons (.ite (.bv 7) true (.inp 1) (.cst (.tuple #[]))) (.cons (.cst (.int .i64 1)) (.cons (.cst (.int .u64 70)) .nil))) (.isb none (.bv 7) (.chk (some ((.bv 8), true)) (.cal 9) (.cons (.inp 6) .nil) (.chk (some ((.bv 8), true)) (.bin .eql) (.cons (.op (.cal 9) (.cons (.inp 6) .nil)) (.cons (.cst (.int .i64 0)) .nil)) (.isb none (.bv 8) (.bnd (.ite (.bv 8) true (.op (.bin .eql) (.cons (.op (.cal 9) (.cons (.inp 6) .nil)) (.cons (.cst (.int .i64 0)) .nil))) (.cst (.bool false))) (.chk (some ((.bv 9), true)) (.fld 3) (.cons (.inp 5) .nil) (.ite (.bv 9) true (.eff (.ld false 1) (.cons (.ite (.bv 9) true (.op (.fld 3) (.cons (.inp 5) .nil)) (.cst (.tuple #[]))) .nil) (.chk none (.bin .eql) (.cons (.bv 10) (.cons (.cst (.int .i64 7)) .nil)) (.isb none (.bv 9) (.done [(0, (.op (.bin .eql) (.cons (.bv 10) (.cons (.cst (.int .i64 7)) .nil))))] none)))) (.isb none (.bv 9) (.done [(0, (.cst (.bool false)))] none)))))))))) (.isb none (.bv 7) (.isb none (.cst (.bool false)) (.isb none (.cst (.bool false)) (.done [(0, (.cst (.bool false)))] none))))))))) (.isb none (.bv 5) (.isb none (.cst (.bool false)) (.isb none (.cst (.bool false)) (.isb none (.cst (.bool false)) (.done [(0, (.cst (.bool false)))] none)))))))))) (.isb none (.bv 2) (.isb none (.cst (.bool false)) (.isb none (.cst (.bool false)) (.isb none (.cst (.bool false)) (.isb none (.cst (.bool false)) (.done [(0, (.cst (.bool false)))] none))))))))))) (.isb none (.bv 0) (.isb none (.cst (.bool false)) (.isb none (.cst (.bool false)) (.isb none (.cst (.bool false)) (.isb none (.cst (.bool false)) (.isb none (.cst (.bool false)) (.done [(0, (.cst (.bool false)))] none)))))))))))) .ret)
@[simp] theorem h6_0_wp {P : Program} {F : PF P} {Q : EX → List Value → World → Prop} {env : List Value} {w : World} : h6_0.wp F Q env w = HC.wp F (.seq (.reg (.chk none (.cal 9) (.cons (.inp 4) .nil) (.chk none (.bin .eql) (.cons (.op (.cal 9) (.cons (.inp 4) .nil)) (.cons (.cst (.int .i64 0)) .nil)) (.bnd (.op (.bin .eql) (.cons (.op (.cal 9) (.cons (.inp 4) .nil)) (.cons (.cst (.int .i64 0)) .nil))) (.ite (.bv 0) true (.eff (.call 20) (.cons (.ite (.bv 0) true (.inp 3) (.cst (.tuple #[]))) (.cons (.cst (.int .i64 7)) .nil)) (.chk none (.bin .eql) (.cons (.bv 1) (.cons (.cst (.int .u64 30)) .nil)) (.isb none (.bv 0) (.bnd (.op (.bin .eql) (.cons (.bv 1) (.cons (.cst (.int .u64 30)) .nil))) (.ite (.bv 2) true (.eff (.call 16) (.cons (.ite (.bv 2) true (.inp 3) (.cst (.tuple #[]))) (.cons (.cst (.int .i64 7)) .nil)) (.eff (.bsl 3 1 1 #[(.int .i64 0)] [0]) (.cons (.cst (.int .i64 1)) .nil) (.eff (.call 17) (.cons (.bv 3) (.cons (.bv 4) .nil)) (.isb none (.bv 2) (.ite (.bv 5) true (.eff (.call 29) (.cons (.ite (.bv 5) true (.inp 1) (.cst (.tuple #[]))) .nil) (.chk none (.bin .eql) (.cons (.bv 6) (.cons (.cst (.int .u64 30)) .nil)) (.isb none (.bv 5) (.bnd (.op (.bin .eql) (.cons (.bv 6) (.cons (.cst (.int .u64 30)) .nil))) (.ite (.bv 7) true (.eff (.call 27) (.cons (.ite (.bv 7) true (.inp 1) (.cst (.tuple #[]))) (.cons (.cst (.int .i64 1)) (.cons (.cst (.int .u64 70)) .nil))) (.isb none (.bv 7) (.chk (some ((.bv 8), true)) (.cal 9) (.cons (.inp 6) .nil) (.chk (some ((.bv 8), true)) (.bin .eql) (.cons (.op (.cal 9) (.cons (.inp 6) .nil)) (.cons (.cst (.int .i64 0)) .nil)) (.isb none (.bv 8) (.bnd (.ite (.bv 8) true (.op (.bin .eql) (.cons (.op (.cal 9) (.cons (.inp 6) .nil)) (.cons (.cst (.int .i64 0)) .nil))) (.cst (.bool false))) (.chk (some ((.bv 9), true)) (.fld 3) (.cons (.inp 5) .nil) (.ite (.bv 9) true (.eff (.ld false 1) (.cons (.ite (.bv 9) true (.op (.fld 3) (.cons (.inp 5) .nil)) (.cst (.tuple #[]))) .nil) (.chk none (.bin .eql) (.cons (.bv 10) (.cons (.cst (.int .i64 7)) .nil)) (.isb none (.bv 9) (.done [(0, (.op (.bin .eql) (.cons (.bv 10) (.cons (.cst (.int .i64 7)) .nil))))] none)))) (.isb none (.bv 9) (.done [(0, (.cst (.bool false)))] none)))))))))) (.isb none (.bv 7) (.isb none (.cst (.bool false)) (.isb none (.cst (.bool false)) (.done [(0, (.cst (.bool false)))] none))))))))) (.isb none (.bv 5) (.isb none (.cst (.bool false)) (.isb none (.cst (.bool false)) (.isb none (.cst (.bool false)) (.done [(0, (.cst (.bool false)))] none)))))))))) (.isb none (.bv 2) (.isb none (.cst (.bool false)) (.isb none (.cst (.bool false)) (.isb none (.cst (.bool false)) (.isb none (.cst (.bool false)) (.done [(0, (.cst (.bool false)))] none))))))))))) (.isb none (.bv 0) (.isb none (.cst (.bool false)) (.isb none (.cst (.bool false)) (.isb none (.cst (.bool false)) (.isb none (.cst (.bool false)) (.isb none (.cst (.bool false)) (.done [(0, (.cst (.bool false)))] none)))))))))))) .ret) Q env w := rfl
def h6_1 : HC := (.seq (.reg (.eff (.call 31) (.cons (.inp 2) (.cons (.cst (.int .i64 1)) .nil)) (.chk none (.ext 0) (.cons (.bv 0) .nil) (.chk none (.ext 1) (.cons (.bv 0) .nil) (.eff (.new 72 (.agg #[(.int .i64 0), (.int .i64 0), (.int .i64 0), (.int .i64 0)])) .nil (.eff (.st 4) (.cons (.bv 1) (.cons (.op (.ext 0) (.cons (.bv 0) .nil)) .nil)) (.done [(5, (.bv 1)), (6, (.op (.ext 1) (.cons (.bv 0) .nil)))] none))))))) h6_0)
@[simp] theorem h6_1_wp {P : Program} {F : PF P} {Q : EX → List Value → World → Prop} {env : List Value} {w : World} : h6_1.wp F Q env w = HC.wp F (.seq (.reg (.eff (.call 31) (.cons (.inp 2) (.cons (.cst (.int .i64 1)) .nil)) (.chk none (.ext 0) (.cons (.bv 0) .nil) (.chk none (.ext 1) (.cons (.bv 0) .nil) (.eff (.new 72 (.agg #[(.int .i64 0), (.int .i64 0), (.int .i64 0), (.int .i64 0)])) .nil (.eff (.st 4) (.cons (.bv 1) (.cons (.op (.ext 0) (.cons (.bv 0) .nil)) .nil)) (.done [(5, (.bv 1)), (6, (.op (.ext 1) (.cons (.bv 0) .nil)))] none))))))) h6_0) Q env w := rfl
def h6_2 : HC := (.seq (.reg (.chk none (.build #[(.int .i64 0), (.int .i64 0), (.int .u64 0), (.int .u64 0), (.slice none 0 0)] [(0, 1), (1, 1), (2, 1), (3, 1), (4, 1)] [0, 1, 2]) (.cons (.cst (.int .i64 1)) (.cons (.cst (.int .i64 1)) (.cons (.cst (.int .u64 30)) .nil))) (.eff (.call 14) (.cons (.inp 3) (.cons (.cst (.int .i64 7)) (.cons (.op (.build #[(.int .i64 0), (.int .i64 0), (.int .u64 0), (.int .u64 0), (.slice none 0 0)] [(0, 1), (1, 1), (2, 1), (3, 1), (4, 1)] [0, 1, 2]) (.cons (.cst (.int .i64 1)) (.cons (.cst (.int .i64 1)) (.cons (.cst (.int .u64 30)) .nil)))) .nil))) (.done [(4, (.bv 0))] none)))) h6_1)
@[simp] theorem h6_2_wp {P : Program} {F : PF P} {Q : EX → List Value → World → Prop} {env : List Value} {w : World} : h6_2.wp F Q env w = HC.wp F (.seq (.reg (.chk none (.build #[(.int .i64 0), (.int .i64 0), (.int .u64 0), (.int .u64 0), (.slice none 0 0)] [(0, 1), (1, 1), (2, 1), (3, 1), (4, 1)] [0, 1, 2]) (.cons (.cst (.int .i64 1)) (.cons (.cst (.int .i64 1)) (.cons (.cst (.int .u64 30)) .nil))) (.eff (.call 14) (.cons (.inp 3) (.cons (.cst (.int .i64 7)) (.cons (.op (.build #[(.int .i64 0), (.int .i64 0), (.int .u64 0), (.int .u64 0), (.slice none 0 0)] [(0, 1), (1, 1), (2, 1), (3, 1), (4, 1)] [0, 1, 2]) (.cons (.cst (.int .i64 1)) (.cons (.cst (.int .i64 1)) (.cons (.cst (.int .u64 30)) .nil)))) .nil))) (.done [(4, (.bv 0))] none)))) h6_1) Q env w := rfl
def h6_3 : HC := (.seq (.reg (.done [(0, (.cst (.bool false)))] none)) .ret)
@[simp] theorem h6_3_wp {P : Program} {F : PF P} {Q : EX → List Value → World → Prop} {env : List Value} {w : World} : h6_3.wp F Q env w = HC.wp F (.seq (.reg (.done [(0, (.cst (.bool false)))] none)) .ret) Q env w := rfl
def h6_4 : HC := (.seq (.br (.chk none (.eqNil false (.pointer 95) (.pointer none)) (.cons (.inp 3) .nil) (.done [] (some (.op (.eqNil false (.pointer 95) (.pointer none)) (.cons (.inp 3) .nil))))) h6_3 .skip) h6_2)
@[simp] theorem h6_4_wp {P : Program} {F : PF P} {Q : EX → List Value → World → Prop} {env : List Value} {w : World} : h6_4.wp F Q env w = HC.wp F (.seq (.br (.chk none (.eqNil false (.pointer 95) (.pointer none)) (.cons (.inp 3) .nil) (.done [] (some (.op (.eqNil false (.pointer 95) (.pointer none)) (.cons (.inp 3) .nil))))) h6_3 .skip) h6_2) Q env w := rfl
def h6_5 : HC := (.seq (.reg (.eff (.call 26) .nil (.chk none (.ext 0) (.cons (.bv 0) .nil) (.chk none (.ext 1) (.cons (.bv 0) .nil) (.chk none (.ext 2) (.cons (.bv 0) .nil) (.done [(1, (.op (.ext 0) (.cons (.bv 0) .nil))), (2, (.op (.ext 1) (.cons (.bv 0) .nil))), (3, (.op (.ext 2) (.cons (.bv 0) .nil)))] none)))))) h6_4)
@[simp] theorem h6_5_wp {P : Program} {F : PF P} {Q : EX → List Value → World → Prop} {env : List Value} {w : World} : h6_5.wp F Q env w = HC.wp F (.seq (.reg (.eff (.call 26) .nil (.chk none (.ext 0) (.cons (.bv 0) .nil) (.chk none (.ext 1) (.cons (.bv 0) .nil) (.chk none (.ext 2) (.cons (.bv 0) .nil) (.done [(1, (.op (.ext 0) (.cons (.bv 0) .nil))), (2, (.op (.ext 1) (.cons (.bv 0) .nil))), (3, (.op (.ext 2) (.cons (.bv 0) .nil)))] none)))))) h6_4) Q env w := rfl
def l6 : Lifted := ⟨[0, 1, 2, 3, 4, 5, 6], 55, [.slot 0], (.seq (.reg (.done [(0, (.cst (.bool false)))] none)) h6_5)⟩
theorem l6_ok : liftFn E2 6 400 = some l6 := by kernel_rfl


theorem ints_spec (x y : List Int) (v1 v2 : Value) (w0 w : World) (A : Asn) (hx : x.length ≤ 1048576) (h1 : Row w0 A v1 x.length 1 (Gd.ints x)) (h2 : Row w0 A v2 y.length 1 (Gd.ints y)) (s : St w0 A w) :
    CallW Try.prog 17 [v1, v2] (fun r w' => r = .bool (x == y) ∧ St w0 A w') w := by
  obtain ⟨a1, c1, rfl⟩ := h1.val
  obtain ⟨a2, c2, rfl⟩ := h2.val
  refine callW_of_lift l17_ok (by simp [l17]) ?_
  simp [l17]
  refine cndI (fun h => ?_) (fun h => ?_)
  · simp at h
    have : (x == y) = false := by
      simp only [beq_eq_false_iff_ne]
      rintro rfl
      exact h rfl
    simp [this]
    exact s
  simp at h
  simp
  refine loopI (fun env w' => ∃ (i : Nat), env = [.slice a1 x.length c1, .slice a2 y.length c2, .bool false, .int .i64 i] ∧ i ≤ x.length ∧ x.take i = y.take i ∧ St w0 A w')
    (fun env _ => x.length - slotN env 3) ⟨0, rfl, by omega, rfl, s⟩ ?_
  rintro LQ env w' ⟨i, rfl, hi, ht, s'⟩ hN hE hR
  simp
  refine cndI (fun h3 => ?_) (fun h3 => ?_)
  · simp at h3
    obtain ⟨g1, o1, c1', e1, k1⟩ := h1.at (by omega)
    cases e1
    obtain ⟨g2, o2, c2', e2, k2⟩ := h2.at (by omega)
    cases e2
    have hy : i < y.length := by omega
    refine brqI s' ?_
    simp [h3]
    refine effq_ldc (fun w s => k1 w s i _ (Gd.ints_at h3)) ?_
    simp [hy]
    refine effq_ldc (fun w s => k2 w s i _ (Gd.ints_at hy)) ?_
    simp
    intro w2 s2
    refine cndI (fun h4 => ?_) (fun h4 => ?_)
    · simp at h4
      have : (x == y) = false := by
        simp only [beq_eq_false_iff_ne]
        rintro rfl
        exact h4 rfl
      simp
      refine hR _ _ ?_
      simp [this]
      exact s2
    · simp at h4
      simp [thenQ]
      try simp (disch := omega) only [wrap64]
      refine hN _ _ ⟨i + 1, by simp, by omega, ?_, s2⟩ (by simp [slotN]; omega)
      rw [List.take_succ_eq_append_getElem h3, List.take_succ_eq_append_getElem hy, ht, h4]
  · simp at h3
    simp
    refine hE _ _ _ ?_
    simp
    have e : i = x.length := by omega
    have e2 : i = y.length := by omega
    rw [e, List.take_length, ← e, e2, List.take_length] at ht
    subst ht
    simp
    exact s'
theorem has_spec (p : Nat) (P : Pu.Ps) (n k : Int) (w0 w : World) (A : Asn) (hP : P.rows.length ≤ 64) (s : St w0 (A * Pu.pur p P) w) :
    CallW Try.prog 27 [.pointer (some ⟨p, 0, none⟩), .int .i64 n, .int .u64 k] (fun r w' => r = .bool (decide ((Pu.getF P n).2 = 0 ∧ (Pu.getF P n).1.coins = k)) ∧ St w0 (A * Pu.pur p P) w') w := by
  refine callW_of_lift l27_ok (by simp [l27]) ?_
  simp [l27]
  refine eff_call ((Pu.Get_spec p P n w0 w A hP s).mono ?_)
  rintro r w1 ⟨rfl, s1⟩
  simp
  refine eff_new s1 fun b w2 s2 => ?_
  simp
  refine eff_stA (vs := (Pu.getF P n).1.cs) s2 rfl rfl (Pu.cs_one _) (by simp) fun w3 s3 => ?_
  simp
  have s4 : St w0 (A * Pu.pur p P * pt b (.cells (Pu.getF P n).1.cs.toArray 76 (0, 0))) w3 := by simpa [Pu.Ac.cs] using s3
  by_cases h : (Pu.getF P n).2 = 0
  · simp [h]
    refine eff_ldc (v := .int .u64 (Pu.getF P n).1.coins) ((cell_of s4.look).trans rfl) ?_
    simp
    exact s4.drop
  · simp [h]
    exact s4.drop
/-- New: nothing is held -/
theorem New_spec (p g : Nat) (lp lg : Int) (P : Pu.Ps) (its : List Gd.It) (w0 w : World) (A : Asn) (hP : Pu.PI lp P) (h0 : P.held = 0) (h : St w0 (A * Pu.pur p P * Gd.gds g lg its) w) :
    CallW Try.prog 30 [.pointer (some ⟨p, 0, none⟩), .pointer (some ⟨g, 0, none⟩)]
      (fun r w' => ∃ s, r = .tuple #[.pointer (some ⟨s, 0, none⟩), .int .i64 0] ∧ St w0 (A * ecoA p g s lg ⟨P, its, []⟩) w') w := by
  refine callW_of_lift l30_ok (by simp [l30]) ?_
  simp [l30]
  have hz : escE [] P.held = 0 := by unfold escE; rw [h0]; decide
  refine eff_call ((Load_spec p g lp lg [] (.slice none 0 0) P its w0 w A hP (by simp) (by simp) (row_nil w0 A 2) h).mono ?_)
  rintro r w1 (⟨_, s, rfl, h1⟩ | ⟨hn, _⟩)
  · simp
    exact h1
  · exact absurd hz hn
/-- the chapter's economy -/
def PG1 : Pu.Ps := ⟨3, [⟨Pu.bankB, 0⟩, ⟨[65, 110, 110], 0⟩], 0, 0⟩
def PG2 : Pu.Ps := ⟨3, [⟨Pu.bankB, 0⟩, ⟨[65, 110, 110], 0⟩, ⟨[66, 111, 98], 0⟩], 0, 0⟩
def PG3 : Pu.Ps := ⟨3, [⟨Pu.bankB, 0⟩, ⟨[65, 110, 110], 100⟩, ⟨[66, 111, 98], 0⟩], 100, 0⟩
def PG4 : Pu.Ps := ⟨3, [⟨Pu.bankB, 0⟩, ⟨[65, 110, 110], 100⟩, ⟨[66, 111, 98], 50⟩], 150, 0⟩
def IG : List Gd.It := [⟨1, 0, 1, 0⟩, ⟨2, 0, 2, 0⟩]
def EG : Eco := ⟨PG4, IG, []⟩
theorem eg_ei : EI 3 9 EG := by
  refine ⟨⟨rfl, by decide, by decide, by decide, by decide, by decide, by decide, fun i h => ?_⟩, ⟨⟨fun i h => ?_, by decide⟩, by decide, by decide, by decide⟩, ⟨by decide, by decide⟩, by decide⟩
  · have : i = 0 ∨ i = 1 ∨ i = 2 := by
      have : i < 3 := h
      omega
    rcases this with rfl | rfl | rfl <;> decide +revert
  · have : i = 0 ∨ i = 1 := by
      have : i < 2 := h
      omega
    rcases this with rfl | rfl <;> rfl
set_option maxHeartbeats 1000000 in
theorem given_spec (w0 w : World) (A : Asn) (s : St w0 A w) :
    CallW Try.prog 26 [] (fun r w' => ∃ p g s, r = .tuple #[.pointer (some ⟨p, 0, none⟩), .pointer (some ⟨g, 0, none⟩), .pointer (some ⟨s, 0, none⟩)] ∧ St w0 (A * ecoA p g s 9 EG) w') w := by
  refine callW_of_lift l26_ok (by simp [l26]) ?_
  simp [l26]
  refine eff_call ((Pu.New_spec 3 w0 w A s).mono ?_)
  intro r w1 h1
  rw [if_pos (by decide)] at h1
  obtain ⟨p, rfl, s1⟩ := h1
  simp
  refine eff_call ((Gd.New_spec 9 w0 w1 _ s1).mono ?_)
  intro r w2 h2
  rw [if_pos (by decide)] at h2
  obtain ⟨g, rfl, s2⟩ := h2
  simp
  have e1 : Pu.openF ⟨3, [⟨Pu.bankB, 0⟩], 0, 0⟩ [65, 110, 110] = (1, 0, PG1) := by decide +kernel
  have e2 : Pu.openF PG1 [66, 111, 98] = (2, 0, PG2) := by decide +kernel
  have e3 : Pu.mintF PG2 1 100 = (0, PG3) := by decide +kernel
  have e4 : Pu.mintF PG3 2 50 = (0, PG4) := by decide +kernel
  refine eff_call ((Pu.Open_spec p _ [65, 110, 110] w0 w2 (A * Gd.gds g 9 []) (by decide) (by decide) s2.swap).mono ?_)
  rintro r w3 ⟨rfl, s3⟩
  rw [e1] at s3
  simp
  refine eff_call ((Pu.Open_spec p _ [66, 111, 98] w0 w3 (A * Gd.gds g 9 []) (by decide) (by decide) s3).mono ?_)
  rintro r w4 ⟨rfl, s4⟩
  rw [e2] at s4
  simp
  refine eff_call ((Pu.Mint_spec p _ 1 100 w0 w4 (A * Gd.gds g 9 []) (Pu.bd_of (by decide +kernel)) (by decide) s4).mono ?_)
  rintro r w5 ⟨rfl, s5⟩
  rw [e3] at s5
  simp
  refine eff_call ((Pu.Mint_spec p _ 2 50 w0 w5 (A * Gd.gds g 9 []) (Pu.bd_of (by decide +kernel)) (by decide) s5).mono ?_)
  rintro r w6 ⟨rfl, s6⟩
  rw [e4] at s6
  simp
  refine eff_call ((Gd.Make_spec g 9 [] 0 1 w0 w6 (A * Pu.pur p PG4) (by decide) s6.swap).mono ?_)
  rintro r w7 ⟨rfl, s7⟩
  simp
  refine eff_call ((Gd.Make_spec g 9 _ 0 2 w0 w7 (A * Pu.pur p PG4) (by decide) s7).mono ?_)
  rintro r w8 ⟨rfl, s8⟩
  simp
  have s8 : St w0 (A * Pu.pur p PG4 * Gd.gds g 9 IG) w8 := s8
  refine eff_call ((New_spec p g 3 9 PG4 IG w0 w8 A eg_ei.P rfl s8).mono ?_)
  rintro r w9 ⟨s, rfl, s9⟩
  simp
  exact ⟨p, g, s, ⟨rfl, rfl, rfl⟩, s9⟩
def EA : Eco := ⟨⟨3, [⟨Pu.bankB, 0⟩, ⟨[65, 110, 110], 70⟩, ⟨[66, 111, 98], 50⟩], 150, 30⟩, [⟨1, 0, -1, 7⟩, ⟨2, 0, 2, 0⟩], [(7, 30)]⟩
def ent1 : Et := ⟨1, 1, 30⟩
theorem put_ea : turnF 7 [] (putE 7 ent1) EG = (0, EA) := by decide +kernel
theorem ea_ei : EI 3 9 EA := by
  have := turn_ei (lp := 3) (lg := 9) (c := 7) (gs := []) (bes := putE 7 ent1) eg_ei (by decide) (by simp) (fun E h1 h => put_ei h ⟨h1, by decide⟩ (by decide))
  rw [put_ea] at this
  exact this
set_option maxHeartbeats 1000000 in
theorem awake_spec (w0 w : World) (A : Asn) (s : St w0 A w) : CallW Try.prog 6 [] (fun r w' => r = .bool true ∧ St w0 A w') w := by
  refine callW_of_lift l6_ok (by simp [l6]) ?_
  simp [l6]
  refine eff_call ((given_spec w0 w A s).mono ?_)
  rintro r w1 ⟨p, g, s, rfl, s1⟩
  simp [Instr.fill, Value.cells]
  refine eff_call ((Put_spec p g s 3 9 7 0 ent1 (.slice none 0 0) EG w0 w1 A eg_ei (by decide) (by decide) s1).mono ?_)
  rintro r w2 ⟨rfl, s2⟩
  rw [put_ea] at s2 ⊢
  simp
  have s2 : St w0 (A * Pu.pur p EA.P * Gd.gds g 9 EA.its * esc s p g EA.l) w2 := s2.to (by simp only [ecoA]; ac_rfl)
  refine eff_call ((Gd.Get_spec g 9 EA.its 1 w0 w2 (A * Pu.pur p EA.P * esc s p g EA.l) (by decide) (s2.to (by ac_rfl))).mono ?_)
  rintro r w3 ⟨rfl, s3⟩
  simp
  refine eff_new s3 fun b w4 s4 => ?_
  simp
  refine eff_stA (vs := (Gd.getF EA.its 1).1.cs) s4 rfl rfl (Gd.cs_one _) (by simp) fun w5 s5 => ?_
  simp
  have s6 : St w0 (A * Pu.pur p EA.P * esc s p g EA.l * Gd.gds g 9 EA.its * pt b (.cells (Gd.getF EA.its 1).1.cs.toArray 72 (0, 0))) w5 := by simpa [Gd.It.cs] using s5
  refine eff_call ((Coins_spec s p g EA.l 7 w0 w5 (A * Pu.pur p EA.P * Gd.gds g 9 EA.its * pt b (.cells (Gd.getF EA.its 1).1.cs.toArray 72 (0, 0))) ea_ei.R (s6.to (by ac_rfl))).mono ?_)
  rintro r w6 ⟨rfl, rfl⟩
  rw [show cns EA.l 7 = 30 by decide]
  simp
  refine eff_call ((Items_spec p g s 3 9 7 EA w0 w6 (A * pt b (.cells (Gd.getF EA.its 1).1.cs.toArray 72 (0, 0))) ea_ei (s6.to (by simp only [ecoA]; ac_rfl))).mono ?_)
  intro r w7 s7
  rw [show Gd.inF EA.its 7 = [1] by decide] at s7
  obtain ⟨ia, icap, rfl, _⟩ := s7.own_val
  simp
  refine eff_bslO s7 (vs := [.int .i64 1]) (by simp [Value.oneCell']) rfl rfl (by decide) fun cv w8 s8 => ?_
  simp
  generalize hB : A * pt b (.cells (Gd.getF EA.its 1).1.cs.toArray 72 (0, 0)) = B at *
  refine eff_call ((ints_spec [1] [1] (.slice ia 1 icap) cv w0 w8 _ (by decide) (row_in (e := 3) (B := B * ecoA p g s 9 EA * own 3 1 cv 1 [.int .i64 1]) s8 (by simp only [Gd.ints, List.map_cons, List.map_nil, List.length_cons, List.length_nil] <;> ac_rfl)) (row_in (e := 3) (B := B * ecoA p g s 9 EA * own 3 1 (.slice ia 1 icap) 1 [.int .i64 1]) s8 (by simp only [Gd.ints, List.map_cons, List.map_nil, List.length_cons, List.length_nil] <;> ac_rfl)) s8).mono ?_)
  rintro r w9 ⟨rfl, s9⟩
  simp
  have s10 : St w0 (B * Gd.gds g 9 EA.its * esc s p g EA.l * Pu.pur p EA.P) w9 := s9.drop.drop.to (by simp only [ecoA]; ac_rfl)
  refine eff_call ((Pu.Held_spec p EA.P w0 w9 _ s10).mono ?_)
  rintro r w10 ⟨rfl, s11⟩
  rw [show EA.P.held = 30 by rfl]
  simp
  refine eff_call ((has_spec p EA.P 1 70 w0 w10 _ (by decide) s11).mono ?_)
  rintro r w11 ⟨rfl, s12⟩
  rw [show decide ((Pu.getF EA.P 1).2 = 0 ∧ (Pu.getF EA.P 1).1.coins = 70) = true by decide +kernel, show (Gd.getF EA.its 1).2 = 0 by decide]
  simp
  have s13 : St w0 (B * Gd.gds g 9 EA.its * esc s p g EA.l * Pu.pur p EA.P) w11 := s12
  rw [← hB] at s13
  have sA := s13.cut (B := A * pt b (.cells (Gd.getF EA.its 1).1.cs.toArray 72 (0, 0))) (Gd.gds g 9 EA.its * esc s p g EA.l * Pu.pur p EA.P) (by ac_rfl)
  refine eff_ldc (v := .int .i64 7) ((cell_of sA.look).trans rfl) ?_
  simp
  exact sA.drop
end Go.HL.Es

namespace Go.HL.Es
open Go.HL Go.Proofs
set_option maxRecDepth 4000
set_option linter.unusedSimpArgs false
set_option linter.unusedVariables false
theorem range_at {R : Nat → Value} {n i : Nat} (h : i < n) : ((List.range n).map R)[i]? = some (R i) := by simp [h]
def freshM (i m : Nat) : List Int := (List.range m).map fun (k : Nat) => 500000 + 1000 * (i : Int) + k
theorem freshM_succ (i m : Nat) : Gd.ints (freshM i m) ++ [.int .i64 (500000 + 1000 * (i : Int) + m)] = Gd.ints (freshM i (m + 1)) := by simp [freshM, Gd.ints, List.range_succ]
def gv (o : Option Value) : Value := o.getD (.slice none 0 0)
theorem gv_succ (G : Nat → Option Value) (i : Nat) (g : Value) : (List.range i).map (fun j => gv (G j)) ++ [g] = (List.range (i + 1)).map (fun j => gv (upF G i (some g) j)) := by
  rw [List.range_succ, List.map_append]
  congr 1
  · refine List.map_congr_left fun j hj => ?_
    rw [upF_ne _ _ (by have := List.mem_range.1 hj; omega)]
  · simp [upF_at, gv]
def GLf (L : Nat → Value) (Z : Nat → List Int) (j : Nat) : Option Value → Asn
  | none => own 3 1 (L j) (Z j).length (Gd.ints (Z j))
  | some g => grw 3 1 (L j) g (Z j).length 40 (Gd.ints (Z j)) (Gd.ints (freshM j 40))
-- bazaar/bazaarlaw17.markInts
def h18_0 : HC := (.seq (.reg (.done [(1, (.cst (.bool true)))] none)) .ret)
@[simp] theorem h18_0_wp {P : Program} {F : PF P} {Q : EX → List Value → World → Prop} {env : List Value} {w : World} : h18_0.wp F Q env w = HC.wp F (.seq (.reg (.done [(1, (.cst (.bool true)))] none)) .ret) Q env w := rfl
def h18_1 : HC := (.reg (.chk none (.bin .add) (.cons (.inp 8) (.cons (.cst (.int .i64 1)) .nil)) (.done [(8, (.op (.bin .add) (.cons (.inp 8) (.cons (.cst (.int .i64 1)) .nil))))] none)))
@[simp] theorem h18_1_wp {P : Program} {F : PF P} {Q : EX → List Value → World → Prop} {env : List Value} {w : World} : h18_1.wp F Q env w = HC.wp F (.reg (.chk none (.bin .add) (.cons (.inp 8) (.cons (.cst (.int .i64 1)) .nil)) (.done [(8, (.op (.bin .add) (.cons (.inp 8) (.cons (.cst (.int .i64 1)) .nil))))] none))) Q env w := rfl
def h18_2 : HC := (.reg (.chk none (.bin .add) (.cons (.inp 11) (.cons (.cst (.int .i64 1)) .nil)) (.done [(11, (.op (.bin .add) (.cons (.inp 11) (.cons (.cst (.int .i64 1)) .nil))))] none)))
@[simp] theorem h18_2_wp {P : Program} {F : PF P} {Q : EX → List Value → World → Prop} {env : List Value} {w : World} : h18_2.wp F Q env w = HC.wp F (.reg (.chk none (.bin .add) (.cons (.inp 11) (.cons (.cst (.int .i64 1)) .nil)) (.done [(11, (.op (.bin .add) (.cons (.inp 11) (.cons (.cst (.int .i64 1)) .nil))))] none))) Q env w := rfl
def h18_3 : HC := (.seq (.reg (.done [(1, (.cst (.bool false)))] none)) .ret)
@[simp] theorem h18_3_wp {P : Program} {F : PF P} {Q : EX → List Value → World → Prop} {env : List Value} {w : World} : h18_3.wp F Q env w = HC.wp F (.seq (.reg (.done [(1, (.cst (.bool false)))] none)) .ret) Q env w := rfl
def h18_4 : HC := (.br (.chk none (.idxL 1) (.cons (.inp 4) (.cons (.inp 8) .nil)) (.eff (.ld false 1) (.cons (.op (.idxL 1) (.cons (.inp 4) (.cons (.inp 8) .nil))) .nil) (.chk none (.bin .add) (.cons (.inp 9) (.cons (.inp 11) .nil)) (.chk none (.idxL 1) (.cons (.bv 0) (.cons (.op (.bin .add) (.cons (.inp 9) (.cons (.inp 11) .nil))) .nil)) (.eff (.ld false 1) (.cons (.op (.idxL 1) (.cons (.bv 0) (.cons (.op (.bin .add) (.cons (.inp 9) (.cons (.inp 11) .nil))) .nil))) .nil) (.chk none (.bin .mul) (.cons (.cst (.int .i64 1000)) (.cons (.inp 8) .nil)) (.chk none (.bin .add) (.cons (.cst (.int .i64 500000)) (.cons (.op (.bin .mul) (.cons (.cst (.int .i64 1000)) (.cons (.inp 8) .nil))) .nil)) (.chk none (.bin .add) (.cons (.op (.bin .add) (.cons (.cst (.int .i64 500000)) (.cons (.op (.bin .mul) (.cons (.cst (.int .i64 1000)) (.cons (.inp 8) .nil))) .nil))) (.cons (.inp 11) .nil)) (.chk none (.bin .neq) (.cons (.bv 1) (.cons (.op (.bin .add) (.cons (.op (.bin .add) (.cons (.cst (.int .i64 500000)) (.cons (.op (.bin .mul) (.cons (.cst (.int .i64 1000)) (.cons (.inp 8) .nil))) .nil))) (.cons (.inp 11) .nil))) .nil)) (.done [] (some (.op (.bin .neq) (.cons (.bv 1) (.cons (.op (.bin .add) (.cons (.op (.bin .add) (.cons (.cst (.int .i64 500000)) (.cons (.op (.bin .mul) (.cons (.cst (.int .i64 1000)) (.cons (.inp 8) .nil))) .nil))) (.cons (.inp 11) .nil))) .nil)))))))))))))) h18_3 .skip)
@[simp] theorem h18_4_wp {P : Program} {F : PF P} {Q : EX → List Value → World → Prop} {env : List Value} {w : World} : h18_4.wp F Q env w = HC.wp F (.br (.chk none (.idxL 1) (.cons (.inp 4) (.cons (.inp 8) .nil)) (.eff (.ld false 1) (.cons (.op (.idxL 1) (.cons (.inp 4) (.cons (.inp 8) .nil))) .nil) (.chk none (.bin .add) (.cons (.inp 9) (.cons (.inp 11) .nil)) (.chk none (.idxL 1) (.cons (.bv 0) (.cons (.op (.bin .add) (.cons (.inp 9) (.cons (.inp 11) .nil))) .nil)) (.eff (.ld false 1) (.cons (.op (.idxL 1) (.cons (.bv 0) (.cons (.op (.bin .add) (.cons (.inp 9) (.cons (.inp 11) .nil))) .nil))) .nil) (.chk none (.bin .mul) (.cons (.cst (.int .i64 1000)) (.cons (.inp 8) .nil)) (.chk none (.bin .add) (.cons (.cst (.int .i64 500000)) (.cons (.op (.bin .mul) (.cons (.cst (.int .i64 1000)) (.cons (.inp 8) .nil))) .nil)) (.chk none (.bin .add) (.cons (.op (.bin .add) (.cons (.cst (.int .i64 500000)) (.cons (.op (.bin .mul) (.cons (.cst (.int .i64 1000)) (.cons (.inp 8) .nil))) .nil))) (.cons (.inp 11) .nil)) (.chk none (.bin .neq) (.cons (.bv 1) (.cons (.op (.bin .add) (.cons (.op (.bin .add) (.cons (.cst (.int .i64 500000)) (.cons (.op (.bin .mul) (.cons (.cst (.int .i64 1000)) (.cons (.inp 8) .nil))) .nil))) (.cons (.inp 11) .nil))) .nil)) (.done [] (some (.op (.bin .neq) (.cons (.bv 1) (.cons (.op (.bin .add) (.cons (.op (.bin .add) (.cons (.cst (.int .i64 500000)) (.cons (.op (.bin .mul) (.cons (.cst (.int .i64 1000)) (.cons (.inp 8) .nil))) .nil))) (.cons (.inp 11) .nil))) .nil)))))))))))))) h18_3 .skip) Q env w := rfl
def h18_5 : HC := (.seq (.block 13 h18_4) h18_2)
@[simp] theorem h18_5_wp {P : Program} {F : PF P} {Q : EX → List Value → World → Prop} {env : List Value} {w : World} : h18_5.wp F Q env w = HC.wp F (.seq (.block 13 h18_4) h18_2) Q env w := rfl
def h18_6 : HC := (.seq (.br (.chk none (.bin .lss) (.cons (.inp 11) (.cons (.cst (.int .i64 40)) .nil)) (.done [] (some (.op (.bin .lss) (.cons (.inp 11) (.cons (.cst (.int .i64 40)) .nil)))))) .skip (.exit 12)) h18_5)
@[simp] theorem h18_6_wp {P : Program} {F : PF P} {Q : EX → List Value → World → Prop} {env : List Value} {w : World} : h18_6.wp F Q env w = HC.wp F (.seq (.br (.chk none (.bin .lss) (.cons (.inp 11) (.cons (.cst (.int .i64 40)) .nil)) (.done [] (some (.op (.bin .lss) (.cons (.inp 11) (.cons (.cst (.int .i64 40)) .nil)))))) .skip (.exit 12)) h18_5) Q env w := rfl
def h18_7 : HC := (.loop h18_6)
@[simp] theorem h18_7_wp {P : Program} {F : PF P} {Q : EX → List Value → World → Prop} {env : List Value} {w : World} : h18_7.wp F Q env w = HC.wp F (.loop h18_6) Q env w := rfl
def h18_8 : HC := (.block 12 h18_7)
@[simp] theorem h18_8_wp {P : Program} {F : PF P} {Q : EX → List Value → World → Prop} {env : List Value} {w : World} : h18_8.wp F Q env w = HC.wp F (.block 12 h18_7) Q env w := rfl
def h18_9 : HC := (.seq (.reg (.done [(11, (.cst (.int .i64 0)))] none)) h18_8)
@[simp] theorem h18_9_wp {P : Program} {F : PF P} {Q : EX → List Value → World → Prop} {env : List Value} {w : World} : h18_9.wp F Q env w = HC.wp F (.seq (.reg (.done [(11, (.cst (.int .i64 0)))] none)) h18_8) Q env w := rfl
def h18_10 : HC := (.reg (.chk none (.bin .add) (.cons (.inp 10) (.cons (.cst (.int .i64 1)) .nil)) (.done [(10, (.op (.bin .add) (.cons (.inp 10) (.cons (.cst (.int .i64 1)) .nil))))] none)))
@[simp] theorem h18_10_wp {P : Program} {F : PF P} {Q : EX → List Value → World → Prop} {env : List Value} {w : World} : h18_10.wp F Q env w = HC.wp F (.reg (.chk none (.bin .add) (.cons (.inp 10) (.cons (.cst (.int .i64 1)) .nil)) (.done [(10, (.op (.bin .add) (.cons (.inp 10) (.cons (.cst (.int .i64 1)) .nil))))] none))) Q env w := rfl
def h18_11 : HC := (.seq (.reg (.done [(1, (.cst (.bool false)))] none)) .ret)
@[simp] theorem h18_11_wp {P : Program} {F : PF P} {Q : EX → List Value → World → Prop} {env : List Value} {w : World} : h18_11.wp F Q env w = HC.wp F (.seq (.reg (.done [(1, (.cst (.bool false)))] none)) .ret) Q env w := rfl
def h18_12 : HC := (.br (.chk none (.idxL 1) (.cons (.inp 0) (.cons (.inp 8) .nil)) (.eff (.ld false 1) (.cons (.op (.idxL 1) (.cons (.inp 0) (.cons (.inp 8) .nil))) .nil) (.chk none (.idxL 1) (.cons (.bv 0) (.cons (.inp 10) .nil)) (.eff (.ld false 1) (.cons (.op (.idxL 1) (.cons (.bv 0) (.cons (.inp 10) .nil))) .nil) (.chk none (.bin .mul) (.cons (.cst (.int .i64 1000)) (.cons (.inp 8) .nil)) (.chk none (.bin .add) (.cons (.op (.bin .mul) (.cons (.cst (.int .i64 1000)) (.cons (.inp 8) .nil))) (.cons (.inp 10) .nil)) (.chk none (.bin .neq) (.cons (.bv 1) (.cons (.op (.bin .add) (.cons (.op (.bin .mul) (.cons (.cst (.int .i64 1000)) (.cons (.inp 8) .nil))) (.cons (.inp 10) .nil))) .nil)) (.bnd (.op (.bin .neq) (.cons (.bv 1) (.cons (.op (.bin .add) (.cons (.op (.bin .mul) (.cons (.cst (.int .i64 1000)) (.cons (.inp 8) .nil))) (.cons (.inp 10) .nil))) .nil))) (.chk (some ((.bv 2), false)) (.idxL 1) (.cons (.inp 4) (.cons (.inp 8) .nil)) (.ite (.bv 2) false (.eff (.ld false 1) (.cons (.ite (.bv 2) false (.op (.idxL 1) (.cons (.inp 4) (.cons (.inp 8) .nil))) (.cst (.tuple #[]))) .nil) (.chk none (.idxL 1) (.cons (.bv 3) (.cons (.inp 10) .nil)) (.eff (.ld false 1) (.cons (.op (.idxL 1) (.cons (.bv 3) (.cons (.inp 10) .nil))) .nil) (.chk none (.bin .mul) (.cons (.cst (.int .i64 1000)) (.cons (.inp 8) .nil)) (.chk none (.bin .add) (.cons (.op (.bin .mul) (.cons (.cst (.int .i64 1000)) (.cons (.inp 8) .nil))) (.cons (.inp 10) .nil)) (.chk none (.bin .neq) (.cons (.bv 4) (.cons (.op (.bin .add) (.cons (.op (.bin .mul) (.cons (.cst (.int .i64 1000)) (.cons (.inp 8) .nil))) (.cons (.inp 10) .nil))) .nil)) (.isb none (.bv 2) (.done [] (some (.op (.bin .neq) (.cons (.bv 4) (.cons (.op (.bin .add) (.cons (.op (.bin .mul) (.cons (.cst (.int .i64 1000)) (.cons (.inp 8) .nil))) (.cons (.inp 10) .nil))) .nil)))))))))))) (.isb none (.bv 2) (.done [] (some (.cst (.bool true))))))))))))))) h18_11 .skip)
@[simp] theorem h18_12_wp {P : Program} {F : PF P} {Q : EX → List Value → World → Prop} {env : List Value} {w : World} : h18_12.wp F Q env w = HC.wp F (.br (.chk none (.idxL 1) (.cons (.inp 0) (.cons (.inp 8) .nil)) (.eff (.ld false 1) (.cons (.op (.idxL 1) (.cons (.inp 0) (.cons (.inp 8) .nil))) .nil) (.chk none (.idxL 1) (.cons (.bv 0) (.cons (.inp 10) .nil)) (.eff (.ld false 1) (.cons (.op (.idxL 1) (.cons (.bv 0) (.cons (.inp 10) .nil))) .nil) (.chk none (.bin .mul) (.cons (.cst (.int .i64 1000)) (.cons (.inp 8) .nil)) (.chk none (.bin .add) (.cons (.op (.bin .mul) (.cons (.cst (.int .i64 1000)) (.cons (.inp 8) .nil))) (.cons (.inp 10) .nil)) (.chk none (.bin .neq) (.cons (.bv 1) (.cons (.op (.bin .add) (.cons (.op (.bin .mul) (.cons (.cst (.int .i64 1000)) (.cons (.inp 8) .nil))) (.cons (.inp 10) .nil))) .nil)) (.bnd (.op (.bin .neq) (.cons (.bv 1) (.cons (.op (.bin .add) (.cons (.op (.bin .mul) (.cons (.cst (.int .i64 1000)) (.cons (.inp 8) .nil))) (.cons (.inp 10) .nil))) .nil))) (.chk (some ((.bv 2), false)) (.idxL 1) (.cons (.inp 4) (.cons (.inp 8) .nil)) (.ite (.bv 2) false (.eff (.ld false 1) (.cons (.ite (.bv 2) false (.op (.idxL 1) (.cons (.inp 4) (.cons (.inp 8) .nil))) (.cst (.tuple #[]))) .nil) (.chk none (.idxL 1) (.cons (.bv 3) (.cons (.inp 10) .nil)) (.eff (.ld false 1) (.cons (.op (.idxL 1) (.cons (.bv 3) (.cons (.inp 10) .nil))) .nil) (.chk none (.bin .mul) (.cons (.cst (.int .i64 1000)) (.cons (.inp 8) .nil)) (.chk none (.bin .add) (.cons (.op (.bin .mul) (.cons (.cst (.int .i64 1000)) (.cons (.inp 8) .nil))) (.cons (.inp 10) .nil)) (.chk none (.bin .neq) (.cons (.bv 4) (.cons (.op (.bin .add) (.cons (.op (.bin .mul) (.cons (.cst (.int .i64 1000)) (.cons (.inp 8) .nil))) (.cons (.inp 10) .nil))) .nil)) (.isb none (.bv 2) (.done [] (some (.op (.bin .neq) (.cons (.bv 4) (.cons (.op (.bin .add) (.cons (.op (.bin .mul) (.cons (.cst (.int .i64 1000)) (.cons (.inp 8) .nil))) (.cons (.inp 10) .nil))) .nil)))))))))))) (.isb none (.bv 2) (.done [] (some (.cst (.bool true))))))))))))))) h18_11 .skip) Q env w := rfl
def h18_13 : HC := (.seq (.block 11 h18_12) h18_10)
@[simp] theorem h18_13_wp {P : Program} {F : PF P} {Q : EX → List Value → World → Prop} {env : List Value} {w : World} : h18_13.wp F Q env w = HC.wp F (.seq (.block 11 h18_12) h18_10) Q env w := rfl
def h18_14 : HC := (.seq (.br (.chk none (.bin .lss) (.cons (.inp 10) (.cons (.inp 9) .nil)) (.done [] (some (.op (.bin .lss) (.cons (.inp 10) (.cons (.inp 9) .nil)))))) .skip (.exit 10)) h18_13)
@[simp] theorem h18_14_wp {P : Program} {F : PF P} {Q : EX → List Value → World → Prop} {env : List Value} {w : World} : h18_14.wp F Q env w = HC.wp F (.seq (.br (.chk none (.bin .lss) (.cons (.inp 10) (.cons (.inp 9) .nil)) (.done [] (some (.op (.bin .lss) (.cons (.inp 10) (.cons (.inp 9) .nil)))))) .skip (.exit 10)) h18_13) Q env w := rfl
def h18_15 : HC := (.loop h18_14)
@[simp] theorem h18_15_wp {P : Program} {F : PF P} {Q : EX → List Value → World → Prop} {env : List Value} {w : World} : h18_15.wp F Q env w = HC.wp F (.loop h18_14) Q env w := rfl
def h18_16 : HC := (.seq (.block 10 h18_15) h18_9)
@[simp] theorem h18_16_wp {P : Program} {F : PF P} {Q : EX → List Value → World → Prop} {env : List Value} {w : World} : h18_16.wp F Q env w = HC.wp F (.seq (.block 10 h18_15) h18_9) Q env w := rfl
def h18_17 : HC := (.seq (.reg (.done [(10, (.cst (.int .i64 0)))] none)) h18_16)
@[simp] theorem h18_17_wp {P : Program} {F : PF P} {Q : EX → List Value → World → Prop} {env : List Value} {w : World} : h18_17.wp F Q env w = HC.wp F (.seq (.reg (.done [(10, (.cst (.int .i64 0)))] none)) h18_16) Q env w := rfl
def h18_18 : HC := (.seq (.reg (.chk none (.idxL 1) (.cons (.inp 0) (.cons (.inp 8) .nil)) (.eff (.ld false 1) (.cons (.op (.idxL 1) (.cons (.inp 0) (.cons (.inp 8) .nil))) .nil) (.chk none .lenL (.cons (.bv 0) .nil) (.done [(9, (.op .lenL (.cons (.bv 0) .nil)))] none))))) h18_17)
@[simp] theorem h18_18_wp {P : Program} {F : PF P} {Q : EX → List Value → World → Prop} {env : List Value} {w : World} : h18_18.wp F Q env w = HC.wp F (.seq (.reg (.chk none (.idxL 1) (.cons (.inp 0) (.cons (.inp 8) .nil)) (.eff (.ld false 1) (.cons (.op (.idxL 1) (.cons (.inp 0) (.cons (.inp 8) .nil))) .nil) (.chk none .lenL (.cons (.bv 0) .nil) (.done [(9, (.op .lenL (.cons (.bv 0) .nil)))] none))))) h18_17) Q env w := rfl
def h18_19 : HC := (.seq (.block 9 h18_18) h18_1)
@[simp] theorem h18_19_wp {P : Program} {F : PF P} {Q : EX → List Value → World → Prop} {env : List Value} {w : World} : h18_19.wp F Q env w = HC.wp F (.seq (.block 9 h18_18) h18_1) Q env w := rfl
def h18_20 : HC := (.seq (.br (.chk none .lenL (.cons (.inp 0) .nil) (.chk none (.bin .lss) (.cons (.inp 8) (.cons (.op .lenL (.cons (.inp 0) .nil)) .nil)) (.done [] (some (.op (.bin .lss) (.cons (.inp 8) (.cons (.op .lenL (.cons (.inp 0) .nil)) .nil))))))) .skip (.exit 8)) h18_19)
@[simp] theorem h18_20_wp {P : Program} {F : PF P} {Q : EX → List Value → World → Prop} {env : List Value} {w : World} : h18_20.wp F Q env w = HC.wp F (.seq (.br (.chk none .lenL (.cons (.inp 0) .nil) (.chk none (.bin .lss) (.cons (.inp 8) (.cons (.op .lenL (.cons (.inp 0) .nil)) .nil)) (.done [] (some (.op (.bin .lss) (.cons (.inp 8) (.cons (.op .lenL (.cons (.inp 0) .nil)) .nil))))))) .skip (.exit 8)) h18_19) Q env w := rfl
def h18_21 : HC := (.loop h18_20)
@[simp] theorem h18_21_wp {P : Program} {F : PF P} {Q : EX → List Value → World → Prop} {env : List Value} {w : World} : h18_21.wp F Q env w = HC.wp F (.loop h18_20) Q env w := rfl
def h18_22 : HC := (.seq (.block 8 h18_21) h18_0)
@[simp] theorem h18_22_wp {P : Program} {F : PF P} {Q : EX → List Value → World → Prop} {env : List Value} {w : World} : h18_22.wp F Q env w = HC.wp F (.seq (.block 8 h18_21) h18_0) Q env w := rfl
def h18_23 : HC := (.seq (.reg (.done [(8, (.cst (.int .i64 0)))] none)) h18_22)
@[simp] theorem h18_23_wp {P : Program} {F : PF P} {Q : EX → List Value → World → Prop} {env : List Value} {w : World} : h18_23.wp F Q env w = HC.wp F (.seq (.reg (.done [(8, (.cst (.int .i64 0)))] none)) h18_22) Q env w := rfl
def h18_24 : HC := (.reg (.chk none (.bin .add) (.cons (.inp 5) (.cons (.cst (.int .i64 1)) .nil)) (.done [(5, (.op (.bin .add) (.cons (.inp 5) (.cons (.cst (.int .i64 1)) .nil))))] none)))
@[simp] theorem h18_24_wp {P : Program} {F : PF P} {Q : EX → List Value → World → Prop} {env : List Value} {w : World} : h18_24.wp F Q env w = HC.wp F (.reg (.chk none (.bin .add) (.cons (.inp 5) (.cons (.cst (.int .i64 1)) .nil)) (.done [(5, (.op (.bin .add) (.cons (.inp 5) (.cons (.cst (.int .i64 1)) .nil))))] none))) Q env w := rfl
def h18_25 : HC := (.reg (.eff (.bsl 44 1 1 #[(.slice none 0 0)] [0]) (.cons (.inp 6) .nil) (.eff (.app 43 43 44 1 24 (.slice none 0 0)) (.cons (.inp 4) (.cons (.bv 0) .nil)) (.done [(4, (.bv 1))] none))))
@[simp] theorem h18_25_wp {P : Program} {F : PF P} {Q : EX → List Value → World → Prop} {env : List Value} {w : World} : h18_25.wp F Q env w = HC.wp F (.reg (.eff (.bsl 44 1 1 #[(.slice none 0 0)] [0]) (.cons (.inp 6) .nil) (.eff (.app 43 43 44 1 24 (.slice none 0 0)) (.cons (.inp 4) (.cons (.bv 0) .nil)) (.done [(4, (.bv 1))] none)))) Q env w := rfl
def h18_26 : HC := (.reg (.chk none (.bin .add) (.cons (.inp 7) (.cons (.cst (.int .i64 1)) .nil)) (.done [(7, (.op (.bin .add) (.cons (.inp 7) (.cons (.cst (.int .i64 1)) .nil))))] none)))
@[simp] theorem h18_26_wp {P : Program} {F : PF P} {Q : EX → List Value → World → Prop} {env : List Value} {w : World} : h18_26.wp F Q env w = HC.wp F (.reg (.chk none (.bin .add) (.cons (.inp 7) (.cons (.cst (.int .i64 1)) .nil)) (.done [(7, (.op (.bin .add) (.cons (.inp 7) (.cons (.cst (.int .i64 1)) .nil))))] none))) Q env w := rfl
def h18_27 : HC := (.reg (.chk none (.bin .mul) (.cons (.cst (.int .i64 1000)) (.cons (.inp 5) .nil)) (.chk none (.bin .add) (.cons (.cst (.int .i64 500000)) (.cons (.op (.bin .mul) (.cons (.cst (.int .i64 1000)) (.cons (.inp 5) .nil))) .nil)) (.chk none (.bin .add) (.cons (.op (.bin .add) (.cons (.cst (.int .i64 500000)) (.cons (.op (.bin .mul) (.cons (.cst (.int .i64 1000)) (.cons (.inp 5) .nil))) .nil))) (.cons (.inp 7) .nil)) (.eff (.bsl 3 1 1 #[(.int .i64 0)] [0]) (.cons (.op (.bin .add) (.cons (.op (.bin .add) (.cons (.cst (.int .i64 500000)) (.cons (.op (.bin .mul) (.cons (.cst (.int .i64 1000)) (.cons (.inp 5) .nil))) .nil))) (.cons (.inp 7) .nil))) .nil) (.eff (.app 44 44 3 1 8 (.int .i64 0)) (.cons (.inp 6) (.cons (.bv 0) .nil)) (.done [(6, (.bv 1))] none)))))))
@[simp] theorem h18_27_wp {P : Program} {F : PF P} {Q : EX → List Value → World → Prop} {env : List Value} {w : World} : h18_27.wp F Q env w = HC.wp F (.reg (.chk none (.bin .mul) (.cons (.cst (.int .i64 1000)) (.cons (.inp 5) .nil)) (.chk none (.bin .add) (.cons (.cst (.int .i64 500000)) (.cons (.op (.bin .mul) (.cons (.cst (.int .i64 1000)) (.cons (.inp 5) .nil))) .nil)) (.chk none (.bin .add) (.cons (.op (.bin .add) (.cons (.cst (.int .i64 500000)) (.cons (.op (.bin .mul) (.cons (.cst (.int .i64 1000)) (.cons (.inp 5) .nil))) .nil))) (.cons (.inp 7) .nil)) (.eff (.bsl 3 1 1 #[(.int .i64 0)] [0]) (.cons (.op (.bin .add) (.cons (.op (.bin .add) (.cons (.cst (.int .i64 500000)) (.cons (.op (.bin .mul) (.cons (.cst (.int .i64 1000)) (.cons (.inp 5) .nil))) .nil))) (.cons (.inp 7) .nil))) .nil) (.eff (.app 44 44 3 1 8 (.int .i64 0)) (.cons (.inp 6) (.cons (.bv 0) .nil)) (.done [(6, (.bv 1))] none))))))) Q env w := rfl
def h18_28 : HC := (.seq (.block 7 h18_27) h18_26)
@[simp] theorem h18_28_wp {P : Program} {F : PF P} {Q : EX → List Value → World → Prop} {env : List Value} {w : World} : h18_28.wp F Q env w = HC.wp F (.seq (.block 7 h18_27) h18_26) Q env w := rfl
def h18_29 : HC := (.seq (.br (.chk none (.bin .lss) (.cons (.inp 7) (.cons (.cst (.int .i64 40)) .nil)) (.done [] (some (.op (.bin .lss) (.cons (.inp 7) (.cons (.cst (.int .i64 40)) .nil)))))) .skip (.exit 6)) h18_28)
@[simp] theorem h18_29_wp {P : Program} {F : PF P} {Q : EX → List Value → World → Prop} {env : List Value} {w : World} : h18_29.wp F Q env w = HC.wp F (.seq (.br (.chk none (.bin .lss) (.cons (.inp 7) (.cons (.cst (.int .i64 40)) .nil)) (.done [] (some (.op (.bin .lss) (.cons (.inp 7) (.cons (.cst (.int .i64 40)) .nil)))))) .skip (.exit 6)) h18_28) Q env w := rfl
def h18_30 : HC := (.loop h18_29)
@[simp] theorem h18_30_wp {P : Program} {F : PF P} {Q : EX → List Value → World → Prop} {env : List Value} {w : World} : h18_30.wp F Q env w = HC.wp F (.loop h18_29) Q env w := rfl
def h18_31 : HC := (.seq (.block 6 h18_30) h18_25)
@[simp] theorem h18_31_wp {P : Program} {F : PF P} {Q : EX → List Value → World → Prop} {env : List Value} {w : World} : h18_31.wp F Q env w = HC.wp F (.seq (.block 6 h18_30) h18_25) Q env w := rfl
def h18_32 : HC := (.seq (.reg (.done [(7, (.cst (.int .i64 0)))] none)) h18_31)
@[simp] theorem h18_32_wp {P : Program} {F : PF P} {Q : EX → List Value → World → Prop} {env : List Value} {w : World} : h18_32.wp F Q env w = HC.wp F (.seq (.reg (.done [(7, (.cst (.int .i64 0)))] none)) h18_31) Q env w := rfl
def h18_33 : HC := (.seq (.reg (.chk none (.idxL 1) (.cons (.inp 0) (.cons (.inp 5) .nil)) (.eff (.ld false 1) (.cons (.op (.idxL 1) (.cons (.inp 0) (.cons (.inp 5) .nil))) .nil) (.done [(6, (.bv 0))] none)))) h18_32)
@[simp] theorem h18_33_wp {P : Program} {F : PF P} {Q : EX → List Value → World → Prop} {env : List Value} {w : World} : h18_33.wp F Q env w = HC.wp F (.seq (.reg (.chk none (.idxL 1) (.cons (.inp 0) (.cons (.inp 5) .nil)) (.eff (.ld false 1) (.cons (.op (.idxL 1) (.cons (.inp 0) (.cons (.inp 5) .nil))) .nil) (.done [(6, (.bv 0))] none)))) h18_32) Q env w := rfl
def h18_34 : HC := (.seq (.block 5 h18_33) h18_24)
@[simp] theorem h18_34_wp {P : Program} {F : PF P} {Q : EX → List Value → World → Prop} {env : List Value} {w : World} : h18_34.wp F Q env w = HC.wp F (.seq (.block 5 h18_33) h18_24) Q env w := rfl
def h18_35 : HC := (.seq (.br (.chk none .lenL (.cons (.inp 0) .nil) (.chk none (.bin .lss) (.cons (.inp 5) (.cons (.op .lenL (.cons (.inp 0) .nil)) .nil)) (.done [] (some (.op (.bin .lss) (.cons (.inp 5) (.cons (.op .lenL (.cons (.inp 0) .nil)) .nil))))))) .skip (.exit 4)) h18_34)
@[simp] theorem h18_35_wp {P : Program} {F : PF P} {Q : EX → List Value → World → Prop} {env : List Value} {w : World} : h18_35.wp F Q env w = HC.wp F (.seq (.br (.chk none .lenL (.cons (.inp 0) .nil) (.chk none (.bin .lss) (.cons (.inp 5) (.cons (.op .lenL (.cons (.inp 0) .nil)) .nil)) (.done [] (some (.op (.bin .lss) (.cons (.inp 5) (.cons (.op .lenL (.cons (.inp 0) .nil)) .nil))))))) .skip (.exit 4)) h18_34) Q env w := rfl
def h18_36 : HC := (.loop h18_35)
@[simp] theorem h18_36_wp {P : Program} {F : PF P} {Q : EX → List Value → World → Prop} {env : List Value} {w : World} : h18_36.wp F Q env w = HC.wp F (.loop h18_35) Q env w := rfl
def h18_37 : HC := (.seq (.block 4 h18_36) h18_23)
@[simp] theorem h18_37_wp {P : Program} {F : PF P} {Q : EX → List Value → World → Prop} {env : List Value} {w : World} : h18_37.wp F Q env w = HC.wp F (.seq (.block 4 h18_36) h18_23) Q env w := rfl
def h18_38 : HC := (.seq (.reg (.done [(5, (.cst (.int .i64 0)))] none)) h18_37)
@[simp] theorem h18_38_wp {P : Program} {F : PF P} {Q : EX → List Value → World → Prop} {env : List Value} {w : World} : h18_38.wp F Q env w = HC.wp F (.seq (.reg (.done [(5, (.cst (.int .i64 0)))] none)) h18_37) Q env w := rfl
def h18_39 : HC := (.seq (.reg (.done [(4, (.cst (.slice none 0 0)))] none)) h18_38)
@[simp] theorem h18_39_wp {P : Program} {F : PF P} {Q : EX → List Value → World → Prop} {env : List Value} {w : World} : h18_39.wp F Q env w = HC.wp F (.seq (.reg (.done [(4, (.cst (.slice none 0 0)))] none)) h18_38) Q env w := rfl
def h18_40 : HC := (.reg (.chk none (.bin .add) (.cons (.inp 2) (.cons (.cst (.int .i64 1)) .nil)) (.done [(2, (.op (.bin .add) (.cons (.inp 2) (.cons (.cst (.int .i64 1)) .nil))))] none)))
@[simp] theorem h18_40_wp {P : Program} {F : PF P} {Q : EX → List Value → World → Prop} {env : List Value} {w : World} : h18_40.wp F Q env w = HC.wp F (.reg (.chk none (.bin .add) (.cons (.inp 2) (.cons (.cst (.int .i64 1)) .nil)) (.done [(2, (.op (.bin .add) (.cons (.inp 2) (.cons (.cst (.int .i64 1)) .nil))))] none))) Q env w := rfl
def h18_41 : HC := (.reg (.chk none (.bin .add) (.cons (.inp 3) (.cons (.cst (.int .i64 1)) .nil)) (.done [(3, (.op (.bin .add) (.cons (.inp 3) (.cons (.cst (.int .i64 1)) .nil))))] none)))
@[simp] theorem h18_41_wp {P : Program} {F : PF P} {Q : EX → List Value → World → Prop} {env : List Value} {w : World} : h18_41.wp F Q env w = HC.wp F (.reg (.chk none (.bin .add) (.cons (.inp 3) (.cons (.cst (.int .i64 1)) .nil)) (.done [(3, (.op (.bin .add) (.cons (.inp 3) (.cons (.cst (.int .i64 1)) .nil))))] none))) Q env w := rfl
def h18_42 : HC := (.reg (.chk none (.idxL 1) (.cons (.inp 0) (.cons (.inp 2) .nil)) (.eff (.ld false 1) (.cons (.op (.idxL 1) (.cons (.inp 0) (.cons (.inp 2) .nil))) .nil) (.chk none (.bin .mul) (.cons (.cst (.int .i64 1000)) (.cons (.inp 2) .nil)) (.chk none (.bin .add) (.cons (.op (.bin .mul) (.cons (.cst (.int .i64 1000)) (.cons (.inp 2) .nil))) (.cons (.inp 3) .nil)) (.chk none (.idxL 1) (.cons (.bv 0) (.cons (.inp 3) .nil)) (.eff (.st 1) (.cons (.op (.idxL 1) (.cons (.bv 0) (.cons (.inp 3) .nil))) (.cons (.op (.bin .add) (.cons (.op (.bin .mul) (.cons (.cst (.int .i64 1000)) (.cons (.inp 2) .nil))) (.cons (.inp 3) .nil))) .nil)) (.done [] none))))))))
@[simp] theorem h18_42_wp {P : Program} {F : PF P} {Q : EX → List Value → World → Prop} {env : List Value} {w : World} : h18_42.wp F Q env w = HC.wp F (.reg (.chk none (.idxL 1) (.cons (.inp 0) (.cons (.inp 2) .nil)) (.eff (.ld false 1) (.cons (.op (.idxL 1) (.cons (.inp 0) (.cons (.inp 2) .nil))) .nil) (.chk none (.bin .mul) (.cons (.cst (.int .i64 1000)) (.cons (.inp 2) .nil)) (.chk none (.bin .add) (.cons (.op (.bin .mul) (.cons (.cst (.int .i64 1000)) (.cons (.inp 2) .nil))) (.cons (.inp 3) .nil)) (.chk none (.idxL 1) (.cons (.bv 0) (.cons (.inp 3) .nil)) (.eff (.st 1) (.cons (.op (.idxL 1) (.cons (.bv 0) (.cons (.inp 3) .nil))) (.cons (.op (.bin .add) (.cons (.op (.bin .mul) (.cons (.cst (.int .i64 1000)) (.cons (.inp 2) .nil))) (.cons (.inp 3) .nil))) .nil)) (.done [] none)))))))) Q env w := rfl
def h18_43 : HC := (.seq (.block 3 h18_42) h18_41)
@[simp] theorem h18_43_wp {P : Program} {F : PF P} {Q : EX → List Value → World → Prop} {env : List Value} {w : World} : h18_43.wp F Q env w = HC.wp F (.seq (.block 3 h18_42) h18_41) Q env w := rfl
def h18_44 : HC := (.seq (.br (.chk none (.idxL 1) (.cons (.inp 0) (.cons (.inp 2) .nil)) (.eff (.ld false 1) (.cons (.op (.idxL 1) (.cons (.inp 0) (.cons (.inp 2) .nil))) .nil) (.chk none .lenL (.cons (.bv 0) .nil) (.chk none (.bin .lss) (.cons (.inp 3) (.cons (.op .lenL (.cons (.bv 0) .nil)) .nil)) (.done [] (some (.op (.bin .lss) (.cons (.inp 3) (.cons (.op .lenL (.cons (.bv 0) .nil)) .nil))))))))) .skip (.exit 2)) h18_43)
@[simp] theorem h18_44_wp {P : Program} {F : PF P} {Q : EX → List Value → World → Prop} {env : List Value} {w : World} : h18_44.wp F Q env w = HC.wp F (.seq (.br (.chk none (.idxL 1) (.cons (.inp 0) (.cons (.inp 2) .nil)) (.eff (.ld false 1) (.cons (.op (.idxL 1) (.cons (.inp 0) (.cons (.inp 2) .nil))) .nil) (.chk none .lenL (.cons (.bv 0) .nil) (.chk none (.bin .lss) (.cons (.inp 3) (.cons (.op .lenL (.cons (.bv 0) .nil)) .nil)) (.done [] (some (.op (.bin .lss) (.cons (.inp 3) (.cons (.op .lenL (.cons (.bv 0) .nil)) .nil))))))))) .skip (.exit 2)) h18_43) Q env w := rfl
def h18_45 : HC := (.loop h18_44)
@[simp] theorem h18_45_wp {P : Program} {F : PF P} {Q : EX → List Value → World → Prop} {env : List Value} {w : World} : h18_45.wp F Q env w = HC.wp F (.loop h18_44) Q env w := rfl
def h18_46 : HC := (.block 2 h18_45)
@[simp] theorem h18_46_wp {P : Program} {F : PF P} {Q : EX → List Value → World → Prop} {env : List Value} {w : World} : h18_46.wp F Q env w = HC.wp F (.block 2 h18_45) Q env w := rfl
def h18_47 : HC := (.seq (.reg (.done [(3, (.cst (.int .i64 0)))] none)) h18_46)
@[simp] theorem h18_47_wp {P : Program} {F : PF P} {Q : EX → List Value → World → Prop} {env : List Value} {w : World} : h18_47.wp F Q env w = HC.wp F (.seq (.reg (.done [(3, (.cst (.int .i64 0)))] none)) h18_46) Q env w := rfl
def h18_48 : HC := (.seq (.block 1 h18_47) h18_40)
@[simp] theorem h18_48_wp {P : Program} {F : PF P} {Q : EX → List Value → World → Prop} {env : List Value} {w : World} : h18_48.wp F Q env w = HC.wp F (.seq (.block 1 h18_47) h18_40) Q env w := rfl
def h18_49 : HC := (.seq (.br (.chk none .lenL (.cons (.inp 0) .nil) (.chk none (.bin .lss) (.cons (.inp 2) (.cons (.op .lenL (.cons (.inp 0) .nil)) .nil)) (.done [] (some (.op (.bin .lss) (.cons (.inp 2) (.cons (.op .lenL (.cons (.inp 0) .nil)) .nil))))))) .skip (.exit 0)) h18_48)
@[simp] theorem h18_49_wp {P : Program} {F : PF P} {Q : EX → List Value → World → Prop} {env : List Value} {w : World} : h18_49.wp F Q env w = HC.wp F (.seq (.br (.chk none .lenL (.cons (.inp 0) .nil) (.chk none (.bin .lss) (.cons (.inp 2) (.cons (.op .lenL (.cons (.inp 0) .nil)) .nil)) (.done [] (some (.op (.bin .lss) (.cons (.inp 2) (.cons (.op .lenL (.cons (.inp 0) .nil)) .nil))))))) .skip (.exit 0)) h18_48) Q env w := rfl
def h18_50 : HC := (.loop h18_49)
@[simp] theorem h18_50_wp {P : Program} {F : PF P} {Q : EX → List Value → World → Prop} {env : List Value} {w : World} : h18_50.wp F Q env w = HC.wp F (.loop h18_49) Q env w := rfl
def h18_51 : HC := (.seq (.block 0 h18_50) h18_39)
@[simp] theorem h18_51_wp {P : Program} {F : PF P} {Q : EX → List Value → World → Prop} {env : List Value} {w : World} : h18_51.wp F Q env w = HC.wp F (.seq (.block 0 h18_50) h18_39) Q env w := rfl
def h18_52 : HC := (.seq (.reg (.done [(2, (.cst (.int .i64 0)))] none)) h18_51)
@[simp] theorem h18_52_wp {P : Program} {F : PF P} {Q : EX → List Value → World → Prop} {env : List Value} {w : World} : h18_52.wp F Q env w = HC.wp F (.seq (.reg (.done [(2, (.cst (.int .i64 0)))] none)) h18_51) Q env w := rfl
def l18 : Lifted := ⟨[0, 2, 3, 4, 5, 6, 7, 8, 9, 10, 11, 12], 125, [.slot 1], (.seq (.reg (.done [(1, (.cst (.bool false)))] none)) h18_52)⟩
theorem l18_ok : liftFn E2 18 400 = some l18 := by kernel_rfl


set_option maxHeartbeats 1000000 in
theorem markInts_spec (L : Nat → Value) (Z : Nat → List Int) (nl : Nat) (v2 : Value) (w0 w : World) (A : Asn) (hnl : nl ≤ 100) (hZ : ∀ j, (Z j).length ≤ 1048576)
    (h2 : Row w0 A v2 nl 1 ((List.range nl).map L)) (s : St w0 (A * bigA (fun j zs => own 3 1 (L j) (Z j).length (Gd.ints zs)) Z nl) w) :
    CallW Try.prog 18 [v2] (fun r w' => r = .bool true ∧ St w0 A w') w := by
  obtain ⟨a2, c2, rfl⟩ := h2.val
  generalize hFL : (fun (j : Nat) (zs : List Int) => own 3 1 (L j) (Z j).length (Gd.ints zs)) = FL at s
  have eFL : ∀ j zs, FL j zs = own 3 1 (L j) (Z j).length (Gd.ints zs) := fun j zs => by rw [← hFL]
  refine callW_of_lift l18_ok (by simp [l18]) ?_
  simp [l18]
  -- all lists are marked
  refine loopI (fun env w' => ∃ (i' : Nat) (Z' : Nat → List Int) (o3 : Value), env = [.slice a2 nl c2, .bool false, .int .i64 i', o3, undef, undef, undef, undef, undef, undef, undef, undef] ∧ i' ≤ nl ∧
      (∀ j, (Z' j).length = (Z j).length) ∧ (∀ j, j < i' → ∀ k, k < (Z j).length → (Z' j)[k]? = some (1000 * (j : Int) + k)) ∧ St w0 (A * bigA FL Z' nl) w')
    (fun env _ => nl - slotN env 2) ⟨0, Z, _, rfl, by omega, fun _ => rfl, fun j hj => by omega, s⟩ ?_
  rintro LQ env w' ⟨i', Z', o3, rfl, hi', hZl, hZm, s'⟩ hN hE hR
  simp
  refine cndI (fun h => ?_) (fun h => ?_)
  · simp at h
    obtain ⟨g2, b2, c2', hv, hc2⟩ := h2.at (by omega)
    cases hv
    simp
    rw [big_at h] at s'
    have s1 := s'.to (B := A * bigH FL Z' i' nl * FL i' (Z' i')) (by ac_rfl)
    refine loopI (fun env w' => ∃ (k : Nat) (zs : List Int), env = [.slice (some ⟨g2, b2, none⟩) nl c2, .bool false, .int .i64 i', .int .i64 k, undef, undef, undef, undef, undef, undef, undef, undef] ∧ k ≤ (Z i').length ∧
        zs.length = (Z i').length ∧ (∀ j, j < k → zs[j]? = some (1000 * (i' : Int) + j)) ∧ St w0 (A * bigH FL Z' i' nl * FL i' zs) w')
      (fun env _ => (Z i').length - slotN env 3) ⟨0, Z' i', rfl, by omega, hZl i', fun j hj => by omega, s1⟩ ?_
    rintro LQ2 env w2 ⟨k, zs, rfl, hk, hzl, hzm, s2⟩ hN2 hE2 hR2
    rw [eFL] at s2
    obtain ⟨ra, rc, hR', hrc, _⟩ := s2.own_val
    have hload : w2.cell? ⟨g2, b2 + i', none⟩ = some (.slice ra (Z i').length rc) := by rw [← hR']; exact hc2 _ s2.drop.drop i' _ (range_at h)
    simp [h]
    refine eff_ldc hload ?_
    simp
    refine cndI (fun h3 => ?_) (fun h3 => ?_)
    · simp at h3
      have hzL := hZ i'
      rw [hR'] at s2
      obtain ⟨g, cap, hv, _⟩ := s2.own_at (by omega)
      cases hv
      simp [h]
      refine eff_ldc hload ?_
      simp [h3]
      try simp (disch := omega) only [wrap64]
      refine eff_stC (u := .int .i64 (1000 * (i' : Int) + k)) s2 (by simp [Gd.ints]; omega) rfl ?_
      intro w3 s3
      rw [show (Gd.ints zs).set k (.int .i64 (1000 * (i' : Int) + k)) = Gd.ints (zs.set k (1000 * (i' : Int) + k)) by simp [Gd.ints, List.map_set]] at s3
      simp
      try simp (disch := omega) only [wrap64]
      refine hN2 _ _ ⟨k + 1, zs.set k (1000 * (i' : Int) + k), by simp, by omega, by simp [hzl], fun j hj => ?_, by rw [eFL, hR']; exact s3⟩ (by simp [slotN]; omega)
      by_cases e : j = k
      · subst e; rw [List.getElem?_set_self (by omega)]
      · rw [List.getElem?_set_ne (by omega)]; exact hzm j (by omega)
    · simp at h3
      simp
      refine hE2 _ _ _ ?_
      simp
      try simp (disch := omega) only [wrap64]
      refine hN _ _ ⟨i' + 1, upF Z' i' zs, .int .i64 k, by simp, by omega, fun j => ?_, fun j hj k' hk' => ?_, ?_⟩ (by simp [slotN]; omega)
      · by_cases e : j = i'
        · subst e; rw [upF_at, hzl]
        · rw [upF_ne _ _ e, hZl]
      · by_cases e : j = i'
        · subst e; rw [upF_at]; exact hzm k' (by omega)
        · rw [upF_ne _ _ e]; exact hZm j (by omega) k' hk'
      · rw [big_set h, eFL]; exact s2.to (by ac_rfl)
  simp at h
  simp
  refine hE _ _ _ ?_
  simp
  have hin : i' = nl := by omega
  subst hin
  clear hN hE hR s
  have s3 : St w0 (A * bigA (GLf L Z') (fun _ => none) i') w' := by
    have e2 : bigA FL Z' i' = bigA (GLf L Z') (fun _ => none) i' := big_congr fun j hj => by rw [eFL]; simp only [GLf]; rw [hZl]
    rw [e2] at s'
    exact s'
  clear s'
  have hZ' : ∀ j, (Z' j).length ≤ 1048576 := fun j => by rw [hZl]; exact hZ j
  have hZm' : ∀ j, j < i' → ∀ k, k < (Z' j).length → (Z' j)[k]? = some (1000 * (j : Int) + k) := fun j hj k hk => hZm j hj k (by rw [← hZl]; exact hk)
  generalize hGL : GLf L Z' = GL at s3
  have eLn : ∀ j, GL j none = own 3 1 (L j) (Z' j).length (Gd.ints (Z' j)) := fun j => by rw [← hGL]; rfl
  have eLs : ∀ j g, GL j (some g) = grw 3 1 (L j) g (Z' j).length 40 (Gd.ints (Z' j)) (Gd.ints (freshM j 40)) := fun j g => by rw [← hGL]; rfl
  -- all lists are gone on with
  refine loopI (fun env w' => ∃ (m : Nat) (G2 : Nat → Option Value) (gl o6 o7 : Value), env = [.slice a2 i' c2, .bool false, .int .i64 i', o3, gl, .int .i64 m, o6, o7, undef, undef, undef, undef] ∧ m ≤ i' ∧
      (∀ j, j < m → ∃ g, G2 j = some g) ∧ (∀ j, m ≤ j → G2 j = none) ∧ St w0 (A * bigA GL G2 i' * own 44 1 gl m ((List.range m).map fun j => gv (G2 j))) w')
    (fun env _ => i' - slotN env 5) ⟨0, fun _ => none, _, _, _, rfl, by omega, fun j hj => by omega, fun _ _ => rfl, s3.own_nil _ _⟩ ?_
  clear s3
  rintro LQ env w' ⟨m, G2', gl, o6, o7, rfl, hm, hL1, hL2, s'⟩ hN hE hR
  simp
  refine cndI (fun h => ?_) (fun h => ?_)
  · simp at h
    obtain ⟨g2, b2, c2', hv, hc2⟩ := h2.at (by omega)
    cases hv
    simp [h]
    refine eff_ldc (hc2 _ s'.drop.drop m _ (range_at h)) ?_
    simp
    rw [big_at h, hL2 m (Nat.le_refl m), eLn] at s'
    have s1 := grw_start (s'.to (B := A * bigH GL G2' m i' * own 44 1 gl m ((List.range m).map fun j => gv (G2' j)) * own 3 1 (L m) (Z' m).length (Gd.ints (Z' m))) (by ac_rfl))
    refine loopI (fun env w' => ∃ (k : Nat) (g : Value), env = [.slice (some ⟨g2, b2, none⟩) i' c2, .bool false, .int .i64 i', o3, gl, .int .i64 m, g, .int .i64 k, undef, undef, undef, undef] ∧ k ≤ 40 ∧
        St w0 (A * bigH GL G2' m i' * own 44 1 gl m ((List.range m).map fun j => gv (G2' j)) * grw 3 1 (L m) g (Z' m).length k (Gd.ints (Z' m)) (Gd.ints (freshM m k))) w')
      (fun env _ => 40 - slotN env 7) ⟨0, L m, rfl, by omega, by have e0 : Gd.ints (freshM m 0) = [] := rfl; rw [e0]; exact s1⟩ ?_
    rintro LQ2 env w2 ⟨k, g, rfl, hk, s2⟩ hN2 hE2 hR2
    simp
    have hzL := hZ' m
    refine cndI (fun h3 => ?_) (fun h3 => ?_)
    · simp at h3
      obtain ⟨X, sX⟩ := grw_new s2
      obtain ⟨ga, gc, rfl, _⟩ := sX.own_val
      simp
      try simp (disch := omega) only [wrap64]
      refine eff_bsl1 s2 rfl ?_
      intro c w3 s3
      simp
      refine eff_appG (k := 1) (news := [.int .i64 (500000 + 1000 * (m : Int) + k)]) s3.swap rfl s3.cells_look (by simp [Value.oneCell']) (by decide) rfl (by omega) (by unfold maxLen; omega) (by omega) ?_
      intro v2 w4 s4
      rw [freshM_succ] at s4
      simp
      try simp (disch := omega) only [wrap64]
      exact hN2 _ _ ⟨k + 1, v2, by simp, by omega, s4.swap.drop⟩ (by simp [slotN]; omega)
    · simp at h3
      simp
      refine hE2 _ _ _ ?_
      simp
      have hk40 : k = 40 := by omega
      subst hk40
      obtain ⟨X, sX⟩ := grw_new s2
      obtain ⟨ga, gc, rfl, _⟩ := sX.own_val
      refine eff_bsl1 s2 rfl ?_
      intro c w3 s3
      simp
      have s3' := s3.to (B := A * bigH GL G2' m i' * pt c (.cells #[.slice ga ((Z' m).length + 40) gc] 44 (0, 0)) * grw 3 1 (L m) (.slice ga ((Z' m).length + 40) gc) (Z' m).length 40 (Gd.ints (Z' m)) (Gd.ints (freshM m 40)) * own 44 1 gl m ((List.range m).map fun j => gv (G2' j))) (by ac_rfl)
      refine eff_app (m := 1) (news := [.slice ga ((Z' m).length + 40) gc]) s3' rfl s3.cells_look (by simp [Value.oneCell']) (by decide) rfl (by unfold maxLen; omega) (by omega) ?_
      intro lv2 w4 s4
      simp
      try simp (disch := omega) only [wrap64]
      rw [gv_succ] at s4
      refine hN _ _ ⟨m + 1, upF G2' m (some (.slice ga ((Z' m).length + 40) gc)), lv2, .slice ga ((Z' m).length + 40) gc, .int .i64 40, by simp, by omega, fun j hj => ?_, fun j hj => ?_, ?_⟩ (by simp [slotN]; omega)
      · by_cases e : j = m
        · subst e; exact ⟨_, upF_at _ _ _⟩
        · rw [upF_ne _ _ e]; exact hL1 j (by omega)
      · rw [upF_ne _ _ (by omega)]; exact hL2 j (by omega)
      · rw [big_set h, eLs]
        exact St.cut (pt c (.cells #[.slice ga ((Z' m).length + 40) gc] 44 (0, 0))) s4 (by ac_rfl)
  simp at h
  simp
  refine hE _ _ _ ?_
  simp
  have hin : m = i' := by omega
  subst hin
  clear hN hE hR hL2
  -- all lists are looked at
  obtain ⟨ga0, gc0, rfl, _⟩ := s'.own_val
  generalize hLG : own 44 1 (.slice ga0 m gc0) m ((List.range m).map fun j => gv (G2' j)) = LG at s'
  have longAt : ∀ {j : Nat} {w : World}, j < m → St w0 (A * bigA GL G2' m * LG) w → ∃ b, ga0 = some ⟨b, 0, none⟩ ∧ w.cell? ⟨b, j, none⟩ = some (gv (G2' j)) := by
    intro j w hj s
    rw [← hLG] at s
    obtain ⟨b, cap, e1, _, hc⟩ := s.own_at (by omega)
    cases e1
    exact ⟨b, rfl, hc j _ (range_at (R := fun j => gv (G2' j)) hj)⟩
  have rowsAt : ∀ {j : Nat} {w : World}, j < m → St w0 (A * bigA GL G2' m * LG) w → ∃ (g : Value) (ra : Option Addr) (rc : Nat) (ga : Option Addr) (gc : Nat), G2' j = some g ∧ L j = .slice ra (Z' j).length rc ∧ g = .slice ga ((Z' j).length + 40) gc ∧
      (∀ (k : Nat), k < (Z' j).length → ∃ b, ra = some ⟨b, 0, none⟩ ∧ w.cell? ⟨b, k, none⟩ = some (.int .i64 (1000 * (j : Int) + k))) ∧
      (∀ (k : Nat), k < (Z' j).length → ∃ b, ga = some ⟨b, 0, none⟩ ∧ w.cell? ⟨b, k, none⟩ = some (.int .i64 (1000 * (j : Int) + k))) ∧
      (∀ (k : Nat), k < 40 → ∃ b, ga = some ⟨b, 0, none⟩ ∧ w.cell? ⟨b, (Z' j).length + k, none⟩ = some (.int .i64 (500000 + 1000 * (j : Int) + k))) := by
    intro j w hj s
    obtain ⟨g, eg⟩ := hL1 j hj
    have t := s.to (B := A * LG * bigH GL G2' j m * GL j (G2' j)) (by rw [big_at hj]; ac_rfl)
    rw [eg, eLs] at t
    obtain ⟨X, tX⟩ := grw_old t
    obtain ⟨X2, tX2⟩ := grw_new t
    obtain ⟨ra, rc, er, _⟩ := tX.own_val
    obtain ⟨ga, gc, eg2, _⟩ := tX2.own_val
    have hil : (Gd.ints (Z' j)).length = (Z' j).length := by simp [Gd.ints]
    have at1 : ∀ k, (hk : k < (Z' j).length) → (Gd.ints (Z' j))[k]? = some (.int .i64 (1000 * (j : Int) + k)) := fun k hk => by
      have hm := hZm' j hj k hk
      simp only [Gd.ints, List.getElem?_map, hm, Option.map_some]
    refine ⟨g, ra, rc, ga, gc, eg, er, eg2, fun k hk => ?_, fun k hk => ?_, fun k hk => ?_⟩
    · obtain ⟨b, cap, e1, _, hc⟩ := tX.own_at (by omega)
      rw [er] at e1
      cases e1
      exact ⟨b, rfl, hc _ _ (at1 k hk)⟩
    · obtain ⟨b, cap, e1, _, hc⟩ := tX2.own_at (by omega)
      rw [eg2] at e1
      cases e1
      exact ⟨b, rfl, hc _ _ (by rw [List.getElem?_append_left (by omega)]; exact at1 k hk)⟩
    · obtain ⟨b, cap, e1, _, hc⟩ := tX2.own_at (by omega)
      rw [eg2] at e1
      cases e1
      refine ⟨b, rfl, hc _ _ ?_⟩
      rw [List.getElem?_append_right (by omega), hil, show (Z' j).length + k - (Z' j).length = k by omega]
      simp [freshM, Gd.ints, hk]
  refine loopI (fun env w' => ∃ (q : Nat) (o9 o10 o11 : Value), env = [.slice a2 m c2, .bool false, .int .i64 m, o3, .slice ga0 m gc0, .int .i64 m, o6, o7, .int .i64 q, o9, o10, o11] ∧ q ≤ m ∧ St w0 (A * bigA GL G2' m * LG) w')
    (fun env _ => m - slotN env 8) ⟨0, _, _, _, rfl, by omega, s'⟩ ?_
  clear s'
  rintro LQ env w' ⟨q0, o9, o10, o11, rfl, hq, s'⟩ hN hE hR
  simp
  refine cndI (fun h => ?_) (fun h => ?_)
  · simp at h
    obtain ⟨g1, b1, c1', hv, hc1⟩ := h2.at (by omega)
    cases hv
    simp [h]
    obtain ⟨g, ra, rc, ga, gc, eg, er, eg2, _, _, _⟩ := rowsAt h s'
    have hload : ∀ w, St w0 (A * bigA GL G2' m * LG) w → w.cell? ⟨g1, b1 + q0, none⟩ = some (.slice ra (Z' q0).length rc) := fun w s => by
      rw [← er]; exact hc1 _ s.drop.drop q0 _ (range_at h)
    refine eff_ldc (hload _ s') ?_
    simp
    refine loopI (fun env w' => ∃ (k : Nat) (o11 : Value), env = [.slice (some ⟨g1, b1, none⟩) m c2, .bool false, .int .i64 m, o3, .slice ga0 m gc0, .int .i64 m, o6, o7, .int .i64 q0, .int .i64 (Z' q0).length, .int .i64 k, o11] ∧ k ≤ (Z' q0).length ∧ St w0 (A * bigA GL G2' m * LG) w')
      (fun env _ => (Z' q0).length - slotN env 10) ⟨0, _, rfl, by omega, s'⟩ ?_
    clear s'
    rintro LQ2 env w2 ⟨k, o11', rfl, hk, s2⟩ hN2 hE2 hR2
    have hzL := hZ' q0
    simp
    refine cndI (fun h3 => ?_) (fun h3 => ?_)
    · simp at h3
      obtain ⟨g', ra', rc', ga', gc', eg', er', eg2', hin1, hin2, _⟩ := rowsAt h s2
      rw [er] at er'
      cases er'
      rw [eg] at eg'
      cases eg'
      rw [eg2] at eg2'
      cases eg2'
      obtain ⟨b, rfl, hcell⟩ := hin1 k h3
      obtain ⟨b', rfl, hcell'⟩ := hin2 k h3
      obtain ⟨lb, rfl, hlong⟩ := longAt h s2
      rw [eg, eg2] at hlong
      change _ = some (Value.slice (some ⟨b', 0, none⟩) ((Z' q0).length + 40) gc) at hlong
      simp [h]
      refine eff_ldc (hload _ s2) ?_
      simp [h3]
      refine eff_ldc hcell ?_
      simp
      try simp (disch := omega) only [wrap64]
      simp [h]
      refine eff_ldc hlong ?_
      have hlt : (k : Int) < (Z' q0).length + 40 := by omega
      simp [hlt]
      refine eff_ldc hcell' ?_
      simp
      try simp (disch := omega) only [wrap64]
      simp
      try simp (disch := omega) only [wrap64]
      exact hN2 _ _ ⟨k + 1, _, by simp; rfl, by omega, s2⟩ (by simp [slotN]; omega)
    · simp at h3
      simp
      refine hE2 _ _ _ ?_
      simp
      refine loopI (fun env w' => ∃ (k' : Nat), env = [.slice (some ⟨g1, b1, none⟩) m c2, .bool false, .int .i64 m, o3, .slice ga0 m gc0, .int .i64 m, o6, o7, .int .i64 q0, .int .i64 (Z' q0).length, .int .i64 k, .int .i64 k'] ∧ k' ≤ 40 ∧ St w0 (A * bigA GL G2' m * LG) w')
        (fun env _ => 40 - slotN env 11) ⟨0, rfl, by omega, s2⟩ ?_
      rintro LQ3 env w3 ⟨k', rfl, hk', s3⟩ hN3 hE3 hR3
      simp
      refine cndI (fun h4 => ?_) (fun h4 => ?_)
      · simp at h4
        obtain ⟨g', ra', rc', ga', gc', eg', er', eg2', _, _, hin3⟩ := rowsAt h s3
        rw [er] at er'
        cases er'
        rw [eg] at eg'
        cases eg'
        rw [eg2] at eg2'
        cases eg2'
        have h40 : k' < 40 := by omega
        obtain ⟨b', rfl, hcell'⟩ := hin3 k' h40
        obtain ⟨lb, rfl, hlong⟩ := longAt h s3
        rw [eg, eg2] at hlong
        change _ = some (Value.slice (some ⟨b', 0, none⟩) ((Z' q0).length + 40) gc) at hlong
        simp [h]
        refine eff_ldc hlong ?_
        simp
        try simp (disch := omega) only [wrap64]
        have hlt : ((Z' q0).length : Int) + k' < (Z' q0).length + 40 := by omega
        have hnn : (0 : Int) ≤ (Z' q0).length + k' := by omega
        have htn : (((Z' q0).length : Int) + k').toNat = (Z' q0).length + k' := by omega
        simp [hlt, hnn, htn]
        refine eff_ldc hcell' ?_
        simp
        try simp (disch := omega) only [wrap64]
        simp
        try simp (disch := omega) only [wrap64]
        exact hN3 _ _ ⟨k' + 1, by simp, by omega, s3⟩ (by simp [slotN]; omega)
      · simp at h4
        simp
        refine hE3 _ _ _ ?_
        simp
        try simp (disch := omega) only [wrap64]
        exact hN _ _ ⟨q0 + 1, _, _, _, by simp; exact ⟨rfl, rfl, rfl⟩, by omega, s3⟩ (by simp [slotN]; omega)
  · simp at h
    simp
    refine hE _ _ _ ?_
    simp
    exact s'.drop.drop
end Go.HL.Es

namespace Go.HL.Nm
open Go.HL Go.Proofs
set_option maxRecDepth 4000
set_option linter.unusedSimpArgs false
set_option linter.unusedVariables false
/-- do these units stand here? -/
def hereF (us ps : List Int) (i : Nat) : Bool := (us.drop i).take ps.length == ps
def hasF (us ps : List Int) : Bool := (List.range (us.length + 1)).any fun i => decide (i + ps.length ≤ us.length) && hereF us ps i
theorem View.sub {w0 : World} {A : Asn} {k : IntKind} {a : Option Addr} {n cap i m : Nat} {xs : List Int} (h : View w0 A k (.slice a n cap) xs) (hi : i + m ≤ xs.length) :
    View w0 A k (.slice (if cap = i then a else a.map (fun x => x.add i)) m (cap - i)) ((xs.drop i).take m) := by
  obtain ⟨a', cap', hv, hc, h⟩ := h
  cases hv
  have hl : ((xs.drop i).take m).length = m := by simp; omega
  refine ⟨_, _, by rw [hl], by rw [hl]; omega, fun h0 => ?_⟩
  rw [hl] at h0
  obtain ⟨g, o, rfl, hw⟩ := h (by omega)
  refine ⟨g, o + i, ?_, fun w s j u hu => ?_⟩
  · rw [if_neg (by omega)]; simp
  · rw [List.getElem?_take] at hu
    split at hu
    · rw [List.getElem?_drop] at hu
      rw [Nat.add_assoc]
      exact hw w s _ _ hu
    · cases hu
end Go.HL.Nm

namespace Go.HL.Nm
open Go.HL Go.Proofs
set_option maxRecDepth 4000
set_option linter.unusedSimpArgs false
set_option linter.unusedVariables false
/-- the order of rows of numbers -/
def cmpL : List Int → List Int → Int
  | [], [] => 0
  | [], _ :: _ => -1
  | _ :: _, [] => 1
  | a :: l, b :: m => if a < b then -1 else if b < a then 1 else cmpL l m
def cmpB (x y : List UInt8) : Int := if Op.bytesLess x y then -1 else if x == y then 0 else 1
def compareF (x y : List UInt8) : Int := if cmpL (foldedF x) (foldedF y) = 0 then cmpB x y else cmpL (foldedF x) (foldedF y)
end Go.HL.Nm

namespace Go.HL.Nm
open Go.HL Go.Proofs
set_option maxRecDepth 4000
set_option linter.unusedSimpArgs false
set_option linter.unusedVariables false
end Go.HL.Nm
