/-
  What the claim leans on, part 15 of 15. Conditions: as each theorem says.
-/
import Derived.Test.YtiokklaedanjbaaEKMn
namespace Go.HL.Es
open Go.HL Go.Proofs
set_option maxRecDepth 4000
set_option linter.unusedSimpArgs false
set_option linter.unusedVariables false
-- bazaar/bazaarlaw17.num
def h9_0 : HC := (.seq (.reg (.done [(1, (.inp 0))] none)) .ret)
@[simp] theorem h9_0_wp {P : Program} {F : PF P} {Q : EX → List Value → World → Prop} {env : List Value} {w : World} : h9_0.wp F Q env w = HC.wp F (.seq (.reg (.done [(1, (.inp 0))] none)) .ret) Q env w := rfl
def l9 : Lifted := ⟨[0, 2], 4, [.slot 1], (.seq (.reg (.done [(1, (.cst (.int .i64 0)))] none)) h9_0)⟩
theorem l9_ok : liftFn E0 9 400 = some l9 := by kernel_rfl


theorem num_spec (u : Int) (w : World) : CallW Try.prog 9 [.int .i64 u] (fun r w' => r = .int .i64 u ∧ w' = w) w := by
  refine callW_of_lift l9_ok (by simp [l9]) ?_
  simp [l9]
noncomputable def numS : PS Try.prog where
  f := 9
  val args := match args with
    | [.int _ u] => .int .i64 u
    | _ => undef
  ok args := match args with
    | [.int k _] => k = .i64
    | _ => False
  sound args w h := by
    split at h
    · rename_i k u
      subst h
      exact num_spec u w
    · exact h.elim
noncomputable abbrev E2 : PF Try.prog := PF.of [numS]
@[simp] theorem E2_num_val (args : List Value) : E2.val 9 args = numS.val args := rfl
@[simp] theorem E2_num_ok (args : List Value) : E2.ok 9 args = numS.ok args := rfl
@[simp] theorem num_val (u : Int) : numS.val [.int .i64 u] = .int .i64 u := rfl
@[simp] theorem num_ok (u : Int) : numS.ok [.int .i64 u] = (IntKind.i64 = .i64) := rfl
-- bazaar/bazaarlaw17.ints
def h17_0 : HC := (.seq (.reg (.done [(2, (.cst (.bool true)))] none)) .ret)
@[simp] theorem h17_0_wp {P : Program} {F : PF P} {Q : EX → List Value → World → Prop} {env : List Value} {w : World} : h17_0.wp F Q env w = HC.wp F (.seq (.reg (.done [(2, (.cst (.bool true)))] none)) .ret) Q env w := rfl
def h17_1 : HC := (.reg (.chk none (.bin .add) (.cons (.inp 3) (.cons (.cst (.int .i64 1)) .nil)) (.done [(3, (.op (.bin .add) (.cons (.inp 3) (.cons (.cst (.int .i64 1)) .nil))))] none)))
@[simp] theorem h17_1_wp {P : Program} {F : PF P} {Q : EX → List Value → World → Prop} {env : List Value} {w : World} : h17_1.wp F Q env w = HC.wp F (.reg (.chk none (.bin .add) (.cons (.inp 3) (.cons (.cst (.int .i64 1)) .nil)) (.done [(3, (.op (.bin .add) (.cons (.inp 3) (.cons (.cst (.int .i64 1)) .nil))))] none))) Q env w := rfl
def h17_2 : HC := (.seq (.reg (.done [(2, (.cst (.bool false)))] none)) .ret)
@[simp] theorem h17_2_wp {P : Program} {F : PF P} {Q : EX → List Value → World → Prop} {env : List Value} {w : World} : h17_2.wp F Q env w = HC.wp F (.seq (.reg (.done [(2, (.cst (.bool false)))] none)) .ret) Q env w := rfl
def h17_3 : HC := (.brq (some 0) (.chk none (.idxL 1) (.cons (.inp 0) (.cons (.inp 3) .nil)) (.eff (.ld false 1) (.cons (.op (.idxL 1) (.cons (.inp 0) (.cons (.inp 3) .nil))) .nil) (.chk none (.idxL 1) (.cons (.inp 1) (.cons (.inp 3) .nil)) (.eff (.ld false 1) (.cons (.op (.idxL 1) (.cons (.inp 1) (.cons (.inp 3) .nil))) .nil) (.chk none (.bin .neq) (.cons (.bv 0) (.cons (.bv 1) .nil)) (.done [] (some (.op (.bin .neq) (.cons (.bv 0) (.cons (.bv 1) .nil)))))))))) h17_2 .skip)
@[simp] theorem h17_3_wp {P : Program} {F : PF P} {Q : EX → List Value → World → Prop} {env : List Value} {w : World} : h17_3.wp F Q env w = HC.wp F (.brq (some 0) (.chk none (.idxL 1) (.cons (.inp 0) (.cons (.inp 3) .nil)) (.eff (.ld false 1) (.cons (.op (.idxL 1) (.cons (.inp 0) (.cons (.inp 3) .nil))) .nil) (.chk none (.idxL 1) (.cons (.inp 1) (.cons (.inp 3) .nil)) (.eff (.ld false 1) (.cons (.op (.idxL 1) (.cons (.inp 1) (.cons (.inp 3) .nil))) .nil) (.chk none (.bin .neq) (.cons (.bv 0) (.cons (.bv 1) .nil)) (.done [] (some (.op (.bin .neq) (.cons (.bv 0) (.cons (.bv 1) .nil)))))))))) h17_2 .skip) Q env w := rfl
def h17_4 : HC := (.seq (.block 1 h17_3) h17_1)
@[simp] theorem h17_4_wp {P : Program} {F : PF P} {Q : EX → List Value → World → Prop} {env : List Value} {w : World} : h17_4.wp F Q env w = HC.wp F (.seq (.block 1 h17_3) h17_1) Q env w := rfl
def h17_5 : HC := (.seq (.br (.chk none .lenL (.cons (.inp 0) .nil) (.chk none (.bin .lss) (.cons (.inp 3) (.cons (.op .lenL (.cons (.inp 0) .nil)) .nil)) (.done [] (some (.op (.bin .lss) (.cons (.inp 3) (.cons (.op .lenL (.cons (.inp 0) .nil)) .nil))))))) .skip (.exit 0)) h17_4)
@[simp] theorem h17_5_wp {P : Program} {F : PF P} {Q : EX → List Value → World → Prop} {env : List Value} {w : World} : h17_5.wp F Q env w = HC.wp F (.seq (.br (.chk none .lenL (.cons (.inp 0) .nil) (.chk none (.bin .lss) (.cons (.inp 3) (.cons (.op .lenL (.cons (.inp 0) .nil)) .nil)) (.done [] (some (.op (.bin .lss) (.cons (.inp 3) (.cons (.op .lenL (.cons (.inp 0) .nil)) .nil))))))) .skip (.exit 0)) h17_4) Q env w := rfl
def h17_6 : HC := (.loop h17_5)
@[simp] theorem h17_6_wp {P : Program} {F : PF P} {Q : EX → List Value → World → Prop} {env : List Value} {w : World} : h17_6.wp F Q env w = HC.wp F (.loop h17_5) Q env w := rfl
def h17_7 : HC := (.seq (.block 0 h17_6) h17_0)
@[simp] theorem h17_7_wp {P : Program} {F : PF P} {Q : EX → List Value → World → Prop} {env : List Value} {w : World} : h17_7.wp F Q env w = HC.wp F (.seq (.block 0 h17_6) h17_0) Q env w := rfl
def h17_8 : HC := (.seq (.reg (.done [(3, (.cst (.int .i64 0)))] none)) h17_7)
@[simp] theorem h17_8_wp {P : Program} {F : PF P} {Q : EX → List Value → World → Prop} {env : List Value} {w : World} : h17_8.wp F Q env w = HC.wp F (.seq (.reg (.done [(3, (.cst (.int .i64 0)))] none)) h17_7) Q env w := rfl
def h17_9 : HC := (.seq (.reg (.done [(2, (.cst (.bool false)))] none)) .ret)
@[simp] theorem h17_9_wp {P : Program} {F : PF P} {Q : EX → List Value → World → Prop} {env : List Value} {w : World} : h17_9.wp F Q env w = HC.wp F (.seq (.reg (.done [(2, (.cst (.bool false)))] none)) .ret) Q env w := rfl
def h17_10 : HC := (.seq (.br (.chk none .lenL (.cons (.inp 0) .nil) (.chk none .lenL (.cons (.inp 1) .nil) (.chk none (.bin .neq) (.cons (.op .lenL (.cons (.inp 0) .nil)) (.cons (.op .lenL (.cons (.inp 1) .nil)) .nil)) (.done [] (some (.op (.bin .neq) (.cons (.op .lenL (.cons (.inp 0) .nil)) (.cons (.op .lenL (.cons (.inp 1) .nil)) .nil)))))))) h17_9 .skip) h17_8)
@[simp] theorem h17_10_wp {P : Program} {F : PF P} {Q : EX → List Value → World → Prop} {env : List Value} {w : World} : h17_10.wp F Q env w = HC.wp F (.seq (.br (.chk none .lenL (.cons (.inp 0) .nil) (.chk none .lenL (.cons (.inp 1) .nil) (.chk none (.bin .neq) (.cons (.op .lenL (.cons (.inp 0) .nil)) (.cons (.op .lenL (.cons (.inp 1) .nil)) .nil)) (.done [] (some (.op (.bin .neq) (.cons (.op .lenL (.cons (.inp 0) .nil)) (.cons (.op .lenL (.cons (.inp 1) .nil)) .nil)))))))) h17_9 .skip) h17_8) Q env w := rfl
def l17 : Lifted := ⟨[0, 1, 4, 5], 26, [.slot 2], (.seq (.reg (.done [(2, (.cst (.bool false)))] none)) h17_10)⟩
theorem l17_ok : liftFn E2 17 400 = some l17 := by kernel_rfl

-- bazaar/bazaarlaw17.items
-- bazaar/bazaarlaw17.accounts
-- bazaar/bazaarlaw17.has
def h27_0 : HC := (.seq (.reg (.chk none (.cal 9) (.cons (.inp 5) .nil) (.chk none (.bin .eql) (.cons (.op (.cal 9) (.cons (.inp 5) .nil)) (.cons (.cst (.int .i64 0)) .nil)) (.bnd (.op (.bin .eql) (.cons (.op (.cal 9) (.cons (.inp 5) .nil)) (.cons (.cst (.int .i64 0)) .nil))) (.chk (some ((.bv 0), true)) (.fld 1) (.cons (.inp 4) .nil) (.ite (.bv 0) true (.eff (.ld false 1) (.cons (.ite (.bv 0) true (.op (.fld 1) (.cons (.inp 4) .nil)) (.cst (.tuple #[]))) .nil) (.chk none (.bin .eql) (.cons (.bv 1) (.cons (.inp 2) .nil)) (.isb none (.bv 0) (.done [(3, (.op (.bin .eql) (.cons (.bv 1) (.cons (.inp 2) .nil))))] none)))) (.isb none (.bv 0) (.done [(3, (.cst (.bool false)))] none)))))))) .ret)
@[simp] theorem h27_0_wp {P : Program} {F : PF P} {Q : EX → List Value → World → Prop} {env : List Value} {w : World} : h27_0.wp F Q env w = HC.wp F (.seq (.reg (.chk none (.cal 9) (.cons (.inp 5) .nil) (.chk none (.bin .eql) (.cons (.op (.cal 9) (.cons (.inp 5) .nil)) (.cons (.cst (.int .i64 0)) .nil)) (.bnd (.op (.bin .eql) (.cons (.op (.cal 9) (.cons (.inp 5) .nil)) (.cons (.cst (.int .i64 0)) .nil))) (.chk (some ((.bv 0), true)) (.fld 1) (.cons (.inp 4) .nil) (.ite (.bv 0) true (.eff (.ld false 1) (.cons (.ite (.bv 0) true (.op (.fld 1) (.cons (.inp 4) .nil)) (.cst (.tuple #[]))) .nil) (.chk none (.bin .eql) (.cons (.bv 1) (.cons (.inp 2) .nil)) (.isb none (.bv 0) (.done [(3, (.op (.bin .eql) (.cons (.bv 1) (.cons (.inp 2) .nil))))] none)))) (.isb none (.bv 0) (.done [(3, (.cst (.bool false)))] none)))))))) .ret) Q env w := rfl
def h27_1 : HC := (.seq (.reg (.eff (.call 50) (.cons (.inp 0) (.cons (.inp 1) .nil)) (.chk none (.ext 0) (.cons (.bv 0) .nil) (.chk none (.ext 1) (.cons (.bv 0) .nil) (.eff (.new 76 (.agg #[(.string ⟨#[]⟩), (.int .u64 0)])) .nil (.eff (.st 2) (.cons (.bv 1) (.cons (.op (.ext 0) (.cons (.bv 0) .nil)) .nil)) (.done [(4, (.bv 1)), (5, (.op (.ext 1) (.cons (.bv 0) .nil)))] none))))))) h27_0)
@[simp] theorem h27_1_wp {P : Program} {F : PF P} {Q : EX → List Value → World → Prop} {env : List Value} {w : World} : h27_1.wp F Q env w = HC.wp F (.seq (.reg (.eff (.call 50) (.cons (.inp 0) (.cons (.inp 1) .nil)) (.chk none (.ext 0) (.cons (.bv 0) .nil) (.chk none (.ext 1) (.cons (.bv 0) .nil) (.eff (.new 76 (.agg #[(.string ⟨#[]⟩), (.int .u64 0)])) .nil (.eff (.st 2) (.cons (.bv 1) (.cons (.op (.ext 0) (.cons (.bv 0) .nil)) .nil)) (.done [(4, (.bv 1)), (5, (.op (.ext 1) (.cons (.bv 0) .nil)))] none))))))) h27_0) Q env w := rfl
def l27 : Lifted := ⟨[0, 1, 2, 6, 7, 8], 24, [.slot 3], (.seq (.reg (.done [(3, (.cst (.bool false)))] none)) h27_1)⟩
theorem l27_ok : liftFn E2 27 400 = some l27 := by kernel_rfl

-- bazaar/bazaarlaw17.given
def h26_0 : HC := (.seq (.reg (.done [(0, (.inp 3)), (1, (.inp 5)), (2, (.inp 7))] none)) .ret)
@[simp] theorem h26_0_wp {P : Program} {F : PF P} {Q : EX → List Value → World → Prop} {env : List Value} {w : World} : h26_0.wp F Q env w = HC.wp F (.seq (.reg (.done [(0, (.inp 3)), (1, (.inp 5)), (2, (.inp 7))] none)) .ret) Q env w := rfl
def h26_1 : HC := (.seq (.reg (.eff (.call 30) (.cons (.inp 3) (.cons (.inp 5) .nil)) (.chk none (.ext 0) (.cons (.bv 0) .nil) (.chk none (.ext 1) (.cons (.bv 0) .nil) (.done [(7, (.op (.ext 0) (.cons (.bv 0) .nil)))] none))))) h26_0)
@[simp] theorem h26_1_wp {P : Program} {F : PF P} {Q : EX → List Value → World → Prop} {env : List Value} {w : World} : h26_1.wp F Q env w = HC.wp F (.seq (.reg (.eff (.call 30) (.cons (.inp 3) (.cons (.inp 5) .nil)) (.chk none (.ext 0) (.cons (.bv 0) .nil) (.chk none (.ext 1) (.cons (.bv 0) .nil) (.done [(7, (.op (.ext 0) (.cons (.bv 0) .nil)))] none))))) h26_0) Q env w := rfl
def h26_2 : HC := (.seq (.reg (.eff (.call 49) (.cons (.inp 5) (.cons (.cst (.int .i64 0)) (.cons (.cst (.int .i64 2)) .nil))) (.done [] none))) h26_1)
@[simp] theorem h26_2_wp {P : Program} {F : PF P} {Q : EX → List Value → World → Prop} {env : List Value} {w : World} : h26_2.wp F Q env w = HC.wp F (.seq (.reg (.eff (.call 49) (.cons (.inp 5) (.cons (.cst (.int .i64 0)) (.cons (.cst (.int .i64 2)) .nil))) (.done [] none))) h26_1) Q env w := rfl
def h26_3 : HC := (.seq (.reg (.eff (.call 49) (.cons (.inp 5) (.cons (.cst (.int .i64 0)) (.cons (.cst (.int .i64 1)) .nil))) (.done [] none))) h26_2)
@[simp] theorem h26_3_wp {P : Program} {F : PF P} {Q : EX → List Value → World → Prop} {env : List Value} {w : World} : h26_3.wp F Q env w = HC.wp F (.seq (.reg (.eff (.call 49) (.cons (.inp 5) (.cons (.cst (.int .i64 0)) (.cons (.cst (.int .i64 1)) .nil))) (.done [] none))) h26_2) Q env w := rfl
def h26_4 : HC := (.seq (.reg (.eff (.call 48) (.cons (.inp 3) (.cons (.cst (.int .i64 2)) (.cons (.cst (.int .u64 50)) .nil))) (.done [] none))) h26_3)
@[simp] theorem h26_4_wp {P : Program} {F : PF P} {Q : EX → List Value → World → Prop} {env : List Value} {w : World} : h26_4.wp F Q env w = HC.wp F (.seq (.reg (.eff (.call 48) (.cons (.inp 3) (.cons (.cst (.int .i64 2)) (.cons (.cst (.int .u64 50)) .nil))) (.done [] none))) h26_3) Q env w := rfl
def h26_5 : HC := (.seq (.reg (.eff (.call 48) (.cons (.inp 3) (.cons (.cst (.int .i64 1)) (.cons (.cst (.int .u64 100)) .nil))) (.done [] none))) h26_4)
@[simp] theorem h26_5_wp {P : Program} {F : PF P} {Q : EX → List Value → World → Prop} {env : List Value} {w : World} : h26_5.wp F Q env w = HC.wp F (.seq (.reg (.eff (.call 48) (.cons (.inp 3) (.cons (.cst (.int .i64 1)) (.cons (.cst (.int .u64 100)) .nil))) (.done [] none))) h26_4) Q env w := rfl
def h26_6 : HC := (.seq (.reg (.eff (.call 32) (.cons (.inp 3) (.cons (.cst (.string ⟨#[66, 111, 98]⟩)) .nil)) (.done [] none))) h26_5)
@[simp] theorem h26_6_wp {P : Program} {F : PF P} {Q : EX → List Value → World → Prop} {env : List Value} {w : World} : h26_6.wp F Q env w = HC.wp F (.seq (.reg (.eff (.call 32) (.cons (.inp 3) (.cons (.cst (.string ⟨#[66, 111, 98]⟩)) .nil)) (.done [] none))) h26_5) Q env w := rfl
def h26_7 : HC := (.seq (.reg (.eff (.call 32) (.cons (.inp 3) (.cons (.cst (.string ⟨#[65, 110, 110]⟩)) .nil)) (.done [] none))) h26_6)
@[simp] theorem h26_7_wp {P : Program} {F : PF P} {Q : EX → List Value → World → Prop} {env : List Value} {w : World} : h26_7.wp F Q env w = HC.wp F (.seq (.reg (.eff (.call 32) (.cons (.inp 3) (.cons (.cst (.string ⟨#[65, 110, 110]⟩)) .nil)) (.done [] none))) h26_6) Q env w := rfl
def h26_8 : HC := (.seq (.reg (.done [(0, (.cst (.pointer none))), (1, (.cst (.pointer none))), (2, (.cst (.pointer none)))] none)) .ret)
@[simp] theorem h26_8_wp {P : Program} {F : PF P} {Q : EX → List Value → World → Prop} {env : List Value} {w : World} : h26_8.wp F Q env w = HC.wp F (.seq (.reg (.done [(0, (.cst (.pointer none))), (1, (.cst (.pointer none))), (2, (.cst (.pointer none)))] none)) .ret) Q env w := rfl
def h26_9 : HC := (.seq (.br (.chk none (.cal 9) (.cons (.inp 4) .nil) (.chk none (.bin .neq) (.cons (.op (.cal 9) (.cons (.inp 4) .nil)) (.cons (.cst (.int .i64 0)) .nil)) (.bnd (.op (.bin .neq) (.cons (.op (.cal 9) (.cons (.inp 4) .nil)) (.cons (.cst (.int .i64 0)) .nil))) (.chk (some ((.bv 0), false)) (.cal 9) (.cons (.inp 6) .nil) (.chk (some ((.bv 0), false)) (.bin .neq) (.cons (.op (.cal 9) (.cons (.inp 6) .nil)) (.cons (.cst (.int .i64 0)) .nil)) (.isb none (.bv 0) (.bnd (.ite (.bv 0) true (.cst (.bool true)) (.op (.bin .neq) (.cons (.op (.cal 9) (.cons (.inp 6) .nil)) (.cons (.cst (.int .i64 0)) .nil)))) (.chk (some ((.bv 1), false)) (.eqNil false (.pointer 81) (.pointer none)) (.cons (.inp 3) .nil) (.isb none (.bv 1) (.bnd (.ite (.bv 1) true (.cst (.bool true)) (.op (.eqNil false (.pointer 81) (.pointer none)) (.cons (.inp 3) .nil))) (.chk (some ((.bv 2), false)) (.eqNil false (.pointer 92) (.pointer none)) (.cons (.inp 5) .nil) (.isb none (.bv 2) (.done [] (some (.ite (.bv 2) true (.cst (.bool true)) (.op (.eqNil false (.pointer 92) (.pointer none)) (.cons (.inp 5) .nil))))))))))))))))) h26_8 .skip) h26_7)
@[simp] theorem h26_9_wp {P : Program} {F : PF P} {Q : EX → List Value → World → Prop} {env : List Value} {w : World} : h26_9.wp F Q env w = HC.wp F (.seq (.br (.chk none (.cal 9) (.cons (.inp 4) .nil) (.chk none (.bin .neq) (.cons (.op (.cal 9) (.cons (.inp 4) .nil)) (.cons (.cst (.int .i64 0)) .nil)) (.bnd (.op (.bin .neq) (.cons (.op (.cal 9) (.cons (.inp 4) .nil)) (.cons (.cst (.int .i64 0)) .nil))) (.chk (some ((.bv 0), false)) (.cal 9) (.cons (.inp 6) .nil) (.chk (some ((.bv 0), false)) (.bin .neq) (.cons (.op (.cal 9) (.cons (.inp 6) .nil)) (.cons (.cst (.int .i64 0)) .nil)) (.isb none (.bv 0) (.bnd (.ite (.bv 0) true (.cst (.bool true)) (.op (.bin .neq) (.cons (.op (.cal 9) (.cons (.inp 6) .nil)) (.cons (.cst (.int .i64 0)) .nil)))) (.chk (some ((.bv 1), false)) (.eqNil false (.pointer 81) (.pointer none)) (.cons (.inp 3) .nil) (.isb none (.bv 1) (.bnd (.ite (.bv 1) true (.cst (.bool true)) (.op (.eqNil false (.pointer 81) (.pointer none)) (.cons (.inp 3) .nil))) (.chk (some ((.bv 2), false)) (.eqNil false (.pointer 92) (.pointer none)) (.cons (.inp 5) .nil) (.isb none (.bv 2) (.done [] (some (.ite (.bv 2) true (.cst (.bool true)) (.op (.eqNil false (.pointer 92) (.pointer none)) (.cons (.inp 5) .nil))))))))))))))))) h26_8 .skip) h26_7) Q env w := rfl
def h26_10 : HC := (.seq (.reg (.eff (.call 34) (.cons (.cst (.int .i64 9)) .nil) (.chk none (.ext 0) (.cons (.bv 0) .nil) (.chk none (.ext 1) (.cons (.bv 0) .nil) (.done [(5, (.op (.ext 0) (.cons (.bv 0) .nil))), (6, (.op (.ext 1) (.cons (.bv 0) .nil)))] none))))) h26_9)
@[simp] theorem h26_10_wp {P : Program} {F : PF P} {Q : EX → List Value → World → Prop} {env : List Value} {w : World} : h26_10.wp F Q env w = HC.wp F (.seq (.reg (.eff (.call 34) (.cons (.cst (.int .i64 9)) .nil) (.chk none (.ext 0) (.cons (.bv 0) .nil) (.chk none (.ext 1) (.cons (.bv 0) .nil) (.done [(5, (.op (.ext 0) (.cons (.bv 0) .nil))), (6, (.op (.ext 1) (.cons (.bv 0) .nil)))] none))))) h26_9) Q env w := rfl
def h26_11 : HC := (.seq (.reg (.eff (.call 47) (.cons (.cst (.int .i64 3)) .nil) (.chk none (.ext 0) (.cons (.bv 0) .nil) (.chk none (.ext 1) (.cons (.bv 0) .nil) (.done [(3, (.op (.ext 0) (.cons (.bv 0) .nil))), (4, (.op (.ext 1) (.cons (.bv 0) .nil)))] none))))) h26_10)
@[simp] theorem h26_11_wp {P : Program} {F : PF P} {Q : EX → List Value → World → Prop} {env : List Value} {w : World} : h26_11.wp F Q env w = HC.wp F (.seq (.reg (.eff (.call 47) (.cons (.cst (.int .i64 3)) .nil) (.chk none (.ext 0) (.cons (.bv 0) .nil) (.chk none (.ext 1) (.cons (.bv 0) .nil) (.done [(3, (.op (.ext 0) (.cons (.bv 0) .nil))), (4, (.op (.ext 1) (.cons (.bv 0) .nil)))] none))))) h26_10) Q env w := rfl
def l26 : Lifted := ⟨[0, 1, 2, 3, 4, 5, 6, 7], 54, [.slot 0, .slot 1, .slot 2], (.seq (.reg (.done [(0, (.cst (.pointer none))), (1, (.cst (.pointer none))), (2, (.cst (.pointer none)))] none)) h26_11)⟩
theorem l26_ok : liftFn E2 26 400 = some l26 := by kernel_rfl

-- bazaar/bazaarlaw17.awake
def h6_0 : HC := (.seq (.reg (.chk none (.cal 9) (.cons (.inp 4) .nil) (.chk none (.bin .eql) (.cons (.op (.cal 9) (.cons (.inp 4) .nil)) (.cons (.cst (.int .i64 0)) .nil)) (.bnd (.op (.bin .eql) (.cons (.op (.cal 9) (.cons (.inp 4) .nil)) (.cons (.cst (.int .i64 0)) .nil))) (.ite (.bv 0) true (.eff (.call 20) (.cons (.ite (.bv 0) true (.inp 3) (.cst (.tuple #[]))) (.cons (.cst (.int .i64 7)) .nil)) (.chk none (.bin .eql) (.cons (.bv 1) (.cons (.cst (.int .u64 30)) .nil)) (.isb none (.bv 0) (.bnd (.op (.bin .eql) (.cons (.bv 1) (.cons (.cst (.int .u64 30)) .nil))) (.ite (.bv 2) true (.eff (.call 16) (.cons (.ite (.bv 2) true (.inp 3) (.cst (.tuple #[]))) (.cons (.cst (.int .i64 7)) .nil)) (.eff (.bsl 3 1 1 #[(.int .i64 0)] [0]) (.cons (.cst (.int .i64 1)) .nil) (.eff (.call 17) (.cons (.bv 3) (.cons (.bv 4) .nil)) (.isb none (.bv 2) (.ite (.bv 5) true (.eff (.call 29) (.cons (.ite (.bv 5) true (.inp 1) (.cst (.tuple #[]))) .nil) (.chk none (.bin .eql) (.cons (.bv 6) (.cons (.cst (.int .u64 30)) .nil)) (.isb none (.bv 5) (.bnd (.op (.bin .eql) (.cons (.bv 6) (.cons (.cst (.int .u64 30)) .nil))) (.ite (.bv 7) true (.eff (.call 27) (.cons (.ite (.bv 7) true (.inp 1) (.cst (.tuple #[]))) (.cons (.cst (.int .i64 1)) (.cons (.cst (.int .u64 70)) .nil))) (.isb none (.bv 7) (.chk (some ((.bv 8), true)) (.cal 9) (.cons (.inp 6) .nil) (.chk (some ((.bv 8), true)) (.bin .eql) (.cons (.op (.cal 9) (.cons (.inp 6) .nil)) (.cons (.cst (.int .i64 0)) .nil)) (.isb none (.bv 8) (.bnd (.ite (.bv 8) true (.op (.bin .eql) (.cons (.op (.cal 9) (.cons (.inp 6) .nil)) (.cons (.cst (.int .i64 0)) .nil))) (.cst (.bool false))) (.chk (some ((.bv 9), true)) (.fld 3) (.cons (.inp 5) .nil) (.ite (.bv 9) true (.eff (.ld false 1) (.cons (.ite (.bv 9) true (.op (.fld 3) (.cons (.inp 5) .nil)) (.cst (.tuple #[]))) .nil) (.chk none (.bin .eql) (.cons (.bv 10) (.cons (.cst (.int .i64 7)) .nil)) (.isb none (.bv 9) (.done [(0, (.op (.bin .eql) (.cons (.bv 10) (.cons (.cst (.int .i64 7)) .nil))))] none)))) (.isb none (.bv 9) (.done [(0, (.cst (.bool false)))] none)))))))))) (.isb none (.bv 7) (.isb none (.cst (.bool false)) (.isb none (.cst (.bool false)) (.done [(0, (.cst (.bool false)))] none))))))))) (.isb none (.bv 5) (.isb none (.cst (.bool false)) (.isb none (.cst (.bool false)) (.isb none (.cst (.bool false)) (.done [(0, (.cst (.bool false)))] none)))))))))) (.isb none (.bv 2) (.isb none (.cst (.bool false)) (.isb none (.cst (.bool false)) (.isb none (.cst (.bool false)) (.isb none (.cst (.bool false)) (.done [(0, (.cst (.bool false)))] none))))))))))) (.isb none (.bv 0) (.isb none (.cst (.bool false)) (.isb none (.cst (.bool false)) (.isb none (.cst (.bool false)) (.isb none (.cst (.bool false)) (.isb none (.cst (.bool false)) (.done [(0, (.cst (.bool false)))] none)))))))))))) .ret)
@[simp] theorem h6_0_wp {P : Program} {F : PF P} {Q : EX → List Value → World → Prop} {env : List Value} {w : World} : h6_0.wp F Q env w = HC.wp F (.seq (.reg (.chk none (.cal 9) (.cons (.inp 4) .nil) (.chk none (.bin .eql) (.cons (.op (.cal 9) (.cons (.inp 4) .nil)) (.cons (.cst (.int .i64 0)) .nil)) (.bnd (.op (.bin .eql) (.cons (.op (.cal 9) (.cons (.inp 4) .nil)) (.cons (.cst (.int .i64 0)) .nil))) (.ite (.bv 0) true (.eff (.call 20) (.cons (.ite (.bv 0) true (.inp 3) (.cst (.tuple #[]))) (.cons (.cst (.int .i64 7)) .nil)) (.chk none (.bin .eql) (.cons (.bv 1) (.cons (.cst (.int .u64 30)) .nil)) (.isb none (.bv 0) (.bnd (.op (.bin .eql) (.cons (.bv 1) (.cons (.cst (.int .u64 30)) .nil))) (.ite (.bv 2) true (.eff (.call 16) (.cons (.ite (.bv 2) true (.inp 3) (.cst (.tuple #[]))) (.cons (.cst (.int .i64 7)) .nil)) (.eff (.bsl 3 1 1 #[(.int .i64 0)] [0]) (.cons (.cst (.int .i64 1)) .nil) (.eff (.call 17) (.cons (.bv 3) (.cons (.bv 4) .nil)) (.isb none (.bv 2) (.ite (.bv 5) true (.eff (.call 29) (.cons (.ite (.bv 5) true (.inp 1) (.cst (.tuple #[]))) .nil) (.chk none (.bin .eql) (.cons (.bv 6) (.cons (.cst (.int .u64 30)) .nil)) (.isb none (.bv 5) (.bnd (.op (.bin .eql) (.cons (.bv 6) (.cons (.cst (.int .u64 30)) .nil))) (.ite (.bv 7) true (.eff (.call 27) (.cons (.ite (.bv 7) true (.inp 1) (.cst (.tuple #[]))) (.cons (.cst (.int .i64 1)) (.cons (.cst (.int .u64 70)) .nil))) (.isb none (.bv 7) (.chk (some ((.bv 8), true)) (.cal 9) (.cons (.inp 6) .nil) (.chk (some ((.bv 8), true)) (.bin .eql) (.cons (.op (.cal 9) (.cons (.inp 6) .nil)) (.cons (.cst (.int .i64 0)) .nil)) (.isb none (.bv 8) (.bnd (.ite (.bv 8) true (.op (.bin .eql) (.cons (.op (.cal 9) (.cons (.inp 6) .nil)) (.cons (.cst (.int .i64 0)) .nil))) (.cst (.bool false))) (.chk (some ((.bv 9), true)) (.fld 3) (.cons (.inp 5) .nil) (.ite (.bv 9) true (.eff (.ld false 1) (.cons (.ite (.bv 9) true (.op (.fld 3) (.cons (.inp 5) .nil)) (.cst (.tuple #[]))) .nil) (.chk none (.bin .eql) (.cons (.bv 10) (.cons (.cst (.int .i64 7)) .nil)) (.isb none (.bv 9) (.done [(0, (.op (.bin .eql) (.cons (.bv 10) (.cons (.cst (.int .i64 7)) .nil))))] none)))) (.isb none (.bv 9) (.done [(0, (.cst (.bool false)))] none)))))))))) (.isb none (.bv 7) (.isb none (.cst (.bool false)) (.isb none (.cst (.bool false)) (.done [(0, (.cst (.bool false)))] none))))))))) (.isb none (.bv 5) (.isb none (.cst (.bool false)) (.isb none (.cst (.bool false)) (.isb none (.cst (.bool false)) (.done [(0, (.cst (.bool false)))] none)))))))))) (.isb none (.bv 2) (.isb none (.cst (.bool false)) (.isb none (.cst (.bool false)) (.isb none (.cst (.bool false)) (.isb none (.cst (.bool false)) (.done [(0, (.cst (.bool false)))] none))))))))))) (.isb none (.bv 0) (.isb none (.cst (.bool false)) (.isb none (.cst (.bool false)) (.isb none (.cst (.bool false)) (.isb none (.cst (.bool false)) (.isb none (.cst (.bool false)) (.done [(0, (.cst (.bool false)))] none)))))))))))) .ret) Q env w := rfl
def h6_1 : HC := (.seq (.reg (.eff (.call 31) (.cons (.inp 2) (.cons (.cst (.int .i64 1)) .nil)) (.chk none (.ext 0) (.cons (.bv 0) .nil) (.chk none (.ext 1) (.cons (.bv 0) .nil) (.eff (.new 72 (.agg #[(.int .i64 0), (.int .i64 0), (.int .i64 0), (.int .i64 0)])) .nil (.eff (.st 4) (.cons (.bv 1) (.cons (.op (.ext 0) (.cons (.bv 0) .nil)) .nil)) (.done [(5, (.bv 1)), (6, (.op (.ext 1) (.cons (.bv 0) .nil)))] none))))))) h6_0)
@[simp] theorem h6_1_wp {P : Program} {F : PF P} {Q : EX → List Value → World → Prop} {env : List Value} {w : World} : h6_1.wp F Q env w = HC.wp F (.seq (.reg (.eff (.call 31) (.cons (.inp 2) (.cons (.cst (.int .i64 1)) .nil)) (.chk none (.ext 0) (.cons (.bv 0) .nil) (.chk none (.ext 1) (.cons (.bv 0) .nil) (.eff (.new 72 (.agg #[(.int .i64 0), (.int .i64 0), (.int .i64 0), (.int .i64 0)])) .nil (.eff (.st 4) (.cons (.bv 1) (.cons (.op (.ext 0) (.cons (.bv 0) .nil)) .nil)) (.done [(5, (.bv 1)), (6, (.op (.ext 1) (.cons (.bv 0) .nil)))] none))))))) h6_0) Q env w := rfl
def h6_2 : HC := (.seq (.reg (.chk none (.build #[(.int .i64 0), (.int .i64 0), (.int .u64 0), (.int .u64 0), (.slice none 0 0)] [(0, 1), (1, 1), (2, 1), (3, 1), (4, 1)] [0, 1, 2]) (.cons (.cst (.int .i64 1)) (.cons (.cst (.int .i64 1)) (.cons (.cst (.int .u64 30)) .nil))) (.eff (.call 14) (.cons (.inp 3) (.cons (.cst (.int .i64 7)) (.cons (.op (.build #[(.int .i64 0), (.int .i64 0), (.int .u64 0), (.int .u64 0), (.slice none 0 0)] [(0, 1), (1, 1), (2, 1), (3, 1), (4, 1)] [0, 1, 2]) (.cons (.cst (.int .i64 1)) (.cons (.cst (.int .i64 1)) (.cons (.cst (.int .u64 30)) .nil)))) .nil))) (.done [(4, (.bv 0))] none)))) h6_1)
@[simp] theorem h6_2_wp {P : Program} {F : PF P} {Q : EX → List Value → World → Prop} {env : List Value} {w : World} : h6_2.wp F Q env w = HC.wp F (.seq (.reg (.chk none (.build #[(.int .i64 0), (.int .i64 0), (.int .u64 0), (.int .u64 0), (.slice none 0 0)] [(0, 1), (1, 1), (2, 1), (3, 1), (4, 1)] [0, 1, 2]) (.cons (.cst (.int .i64 1)) (.cons (.cst (.int .i64 1)) (.cons (.cst (.int .u64 30)) .nil))) (.eff (.call 14) (.cons (.inp 3) (.cons (.cst (.int .i64 7)) (.cons (.op (.build #[(.int .i64 0), (.int .i64 0), (.int .u64 0), (.int .u64 0), (.slice none 0 0)] [(0, 1), (1, 1), (2, 1), (3, 1), (4, 1)] [0, 1, 2]) (.cons (.cst (.int .i64 1)) (.cons (.cst (.int .i64 1)) (.cons (.cst (.int .u64 30)) .nil)))) .nil))) (.done [(4, (.bv 0))] none)))) h6_1) Q env w := rfl
def h6_3 : HC := (.seq (.reg (.done [(0, (.cst (.bool false)))] none)) .ret)
@[simp] theorem h6_3_wp {P : Program} {F : PF P} {Q : EX → List Value → World → Prop} {env : List Value} {w : World} : h6_3.wp F Q env w = HC.wp F (.seq (.reg (.done [(0, (.cst (.bool false)))] none)) .ret) Q env w := rfl
def h6_4 : HC := (.seq (.br (.chk none (.eqNil false (.pointer 95) (.pointer none)) (.cons (.inp 3) .nil) (.done [] (some (.op (.eqNil false (.pointer 95) (.pointer none)) (.cons (.inp 3) .nil))))) h6_3 .skip) h6_2)
@[simp] theorem h6_4_wp {P : Program} {F : PF P} {Q : EX → List Value → World → Prop} {env : List Value} {w : World} : h6_4.wp F Q env w = HC.wp F (.seq (.br (.chk none (.eqNil false (.pointer 95) (.pointer none)) (.cons (.inp 3) .nil) (.done [] (some (.op (.eqNil false (.pointer 95) (.pointer none)) (.cons (.inp 3) .nil))))) h6_3 .skip) h6_2) Q env w := rfl
def h6_5 : HC := (.seq (.reg (.eff (.call 26) .nil (.chk none (.ext 0) (.cons (.bv 0) .nil) (.chk none (.ext 1) (.cons (.bv 0) .nil) (.chk none (.ext 2) (.cons (.bv 0) .nil) (.done [(1, (.op (.ext 0) (.cons (.bv 0) .nil))), (2, (.op (.ext 1) (.cons (.bv 0) .nil))), (3, (.op (.ext 2) (.cons (.bv 0) .nil)))] none)))))) h6_4)
@[simp] theorem h6_5_wp {P : Program} {F : PF P} {Q : EX → List Value → World → Prop} {env : List Value} {w : World} : h6_5.wp F Q env w = HC.wp F (.seq (.reg (.eff (.call 26) .nil (.chk none (.ext 0) (.cons (.bv 0) .nil) (.chk none (.ext 1) (.cons (.bv 0) .nil) (.chk none (.ext 2) (.cons (.bv 0) .nil) (.done [(1, (.op (.ext 0) (.cons (.bv 0) .nil))), (2, (.op (.ext 1) (.cons (.bv 0) .nil))), (3, (.op (.ext 2) (.cons (.bv 0) .nil)))] none)))))) h6_4) Q env w := rfl
def l6 : Lifted := ⟨[0, 1, 2, 3, 4, 5, 6], 55, [.slot 0], (.seq (.reg (.done [(0, (.cst (.bool false)))] none)) h6_5)⟩
theorem l6_ok : liftFn E2 6 400 = some l6 := by kernel_rfl


theorem ints_spec (x y : List Int) (v1 v2 : Value) (w0 w : World) (A : Asn) (hx : x.length ≤ 1048576) (h1 : Row w0 A v1 x.length 1 (Gd.ints x)) (h2 : Row w0 A v2 y.length 1 (Gd.ints y)) (s : St w0 A w) :
    CallW Try.prog 17 [v1, v2] (fun r w' => r = .bool (x == y) ∧ St w0 A w') w := by
  obtain ⟨a1, c1, rfl⟩ := h1.val
  obtain ⟨a2, c2, rfl⟩ := h2.val
  refine callW_of_lift l17_ok (by simp [l17]) ?_
  simp [l17]
  refine cndI (fun h => ?_) (fun h => ?_)
  · simp at h
    have : (x == y) = false := by
      simp only [beq_eq_false_iff_ne]
      rintro rfl
      exact h rfl
    simp [this]
    exact s
  simp at h
  simp
  refine loopI (fun env w' => ∃ (i : Nat), env = [.slice a1 x.length c1, .slice a2 y.length c2, .bool false, .int .i64 i] ∧ i ≤ x.length ∧ x.take i = y.take i ∧ St w0 A w')
    (fun env _ => x.length - slotN env 3) ⟨0, rfl, by omega, rfl, s⟩ ?_
  rintro LQ env w' ⟨i, rfl, hi, ht, s'⟩ hN hE hR
  simp
  refine cndI (fun h3 => ?_) (fun h3 => ?_)
  · simp at h3
    obtain ⟨g1, o1, c1', e1, k1⟩ := h1.at (by omega)
    cases e1
    obtain ⟨g2, o2, c2', e2, k2⟩ := h2.at (by omega)
    cases e2
    have hy : i < y.length := by omega
    refine brqI s' ?_
    simp [h3]
    refine effq_ldc (fun w s => k1 w s i _ (Gd.ints_at h3)) ?_
    simp [hy]
    refine effq_ldc (fun w s => k2 w s i _ (Gd.ints_at hy)) ?_
    simp
    intro w2 s2
    refine cndI (fun h4 => ?_) (fun h4 => ?_)
    · simp at h4
      have : (x == y) = false := by
        simp only [beq_eq_false_iff_ne]
        rintro rfl
        exact h4 rfl
      simp
      refine hR _ _ ?_
      simp [this]
      exact s2
    · simp at h4
      simp [thenQ]
      try simp (disch := omega) only [wrap64]
      refine hN _ _ ⟨i + 1, by simp, by omega, ?_, s2⟩ (by simp [slotN]; omega)
      rw [List.take_succ_eq_append_getElem h3, List.take_succ_eq_append_getElem hy, ht, h4]
  · simp at h3
    simp
    refine hE _ _ _ ?_
    simp
    have e : i = x.length := by omega
    have e2 : i = y.length := by omega
    rw [e, List.take_length, ← e, e2, List.take_length] at ht
    subst ht
    simp
    exact s'
theorem has_spec (p : Nat) (P : Pu.Ps) (n k : Int) (w0 w : World) (A : Asn) (hP : P.rows.length ≤ 64) (s : St w0 (A * Pu.pur p P) w) :
    CallW Try.prog 27 [.pointer (some ⟨p, 0, none⟩), .int .i64 n, .int .u64 k] (fun r w' => r = .bool (decide ((Pu.getF P n).2 = 0 ∧ (Pu.getF P n).1.coins = k)) ∧ St w0 (A * Pu.pur p P) w') w := by
  refine callW_of_lift l27_ok (by simp [l27]) ?_
  simp [l27]
  refine eff_call ((Pu.Get_spec p P n w0 w A hP s).mono ?_)
  rintro r w1 ⟨rfl, s1⟩
  simp
  refine eff_new s1 fun b w2 s2 => ?_
  simp
  refine eff_stA (vs := (Pu.getF P n).1.cs) s2 rfl rfl (Pu.cs_one _) (by simp) fun w3 s3 => ?_
  simp
  have s4 : St w0 (A * Pu.pur p P * pt b (.cells (Pu.getF P n).1.cs.toArray 76 (0, 0))) w3 := by simpa [Pu.Ac.cs] using s3
  by_cases h : (Pu.getF P n).2 = 0
  · simp [h]
    refine eff_ldc (v := .int .u64 (Pu.getF P n).1.coins) ((cell_of s4.look).trans rfl) ?_
    simp
    exact s4.drop
  · simp [h]
    exact s4.drop
/-- New: nothing is held -/
theorem New_spec (p g : Nat) (lp lg : Int) (P : Pu.Ps) (its : List Gd.It) (w0 w : World) (A : Asn) (hP : Pu.PI lp P) (h0 : P.held = 0) (h : St w0 (A * Pu.pur p P * Gd.gds g lg its) w) :
    CallW Try.prog 30 [.pointer (some ⟨p, 0, none⟩), .pointer (some ⟨g, 0, none⟩)]
      (fun r w' => ∃ s, r = .tuple #[.pointer (some ⟨s, 0, none⟩), .int .i64 0] ∧ St w0 (A * ecoA p g s lg ⟨P, its, []⟩) w') w := by
  refine callW_of_lift l30_ok (by simp [l30]) ?_
  simp [l30]
  have hz : escE [] P.held = 0 := by unfold escE; rw [h0]; decide
  refine eff_call ((Load_spec p g lp lg [] (.slice none 0 0) P its w0 w A hP (by simp) (by simp) (row_nil w0 A 2) h).mono ?_)
  rintro r w1 (⟨_, s, rfl, h1⟩ | ⟨hn, _⟩)
  · simp
    exact h1
  · exact absurd hz hn
/-- the chapter's economy -/
def PG1 : Pu.Ps := ⟨3, [⟨Pu.bankB, 0⟩, ⟨[65, 110, 110], 0⟩], 0, 0⟩
def PG2 : Pu.Ps := ⟨3, [⟨Pu.bankB, 0⟩, ⟨[65, 110, 110], 0⟩, ⟨[66, 111, 98], 0⟩], 0, 0⟩
def PG3 : Pu.Ps := ⟨3, [⟨Pu.bankB, 0⟩, ⟨[65, 110, 110], 100⟩, ⟨[66, 111, 98], 0⟩], 100, 0⟩
def PG4 : Pu.Ps := ⟨3, [⟨Pu.bankB, 0⟩, ⟨[65, 110, 110], 100⟩, ⟨[66, 111, 98], 50⟩], 150, 0⟩
def IG : List Gd.It := [⟨1, 0, 1, 0⟩, ⟨2, 0, 2, 0⟩]
def EG : Eco := ⟨PG4, IG, []⟩
theorem eg_ei : EI 3 9 EG := by
  refine ⟨⟨rfl, by decide, by decide, by decide, by decide, by decide, by decide, fun i h => ?_⟩, ⟨⟨fun i h => ?_, by decide⟩, by decide, by decide, by decide⟩, ⟨by decide, by decide⟩, by decide⟩
  · have : i = 0 ∨ i = 1 ∨ i = 2 := by
      have : i < 3 := h
      omega
    rcases this with rfl | rfl | rfl <;> decide +revert
  · have : i = 0 ∨ i = 1 := by
      have : i < 2 := h
      omega
    rcases this with rfl | rfl <;> rfl
set_option maxHeartbeats 1000000 in
theorem given_spec (w0 w : World) (A : Asn) (s : St w0 A w) :
    CallW Try.prog 26 [] (fun r w' => ∃ p g s, r = .tuple #[.pointer (some ⟨p, 0, none⟩), .pointer (some ⟨g, 0, none⟩), .pointer (some ⟨s, 0, none⟩)] ∧ St w0 (A * ecoA p g s 9 EG) w') w := by
  refine callW_of_lift l26_ok (by simp [l26]) ?_
  simp [l26]
  refine eff_call ((Pu.New_spec 3 w0 w A s).mono ?_)
  intro r w1 h1
  rw [if_pos (by decide)] at h1
  obtain ⟨p, rfl, s1⟩ := h1
  simp
  refine eff_call ((Gd.New_spec 9 w0 w1 _ s1).mono ?_)
  intro r w2 h2
  rw [if_pos (by decide)] at h2
  obtain ⟨g, rfl, s2⟩ := h2
  simp
  have e1 : Pu.openF ⟨3, [⟨Pu.bankB, 0⟩], 0, 0⟩ [65, 110, 110] = (1, 0, PG1) := by decide +kernel
  have e2 : Pu.openF PG1 [66, 111, 98] = (2, 0, PG2) := by decide +kernel
  have e3 : Pu.mintF PG2 1 100 = (0, PG3) := by decide +kernel
  have e4 : Pu.mintF PG3 2 50 = (0, PG4) := by decide +kernel
  refine eff_call ((Pu.Open_spec p _ [65, 110, 110] w0 w2 (A * Gd.gds g 9 []) (by decide) (by decide) s2.swap).mono ?_)
  rintro r w3 ⟨rfl, s3⟩
  rw [e1] at s3
  simp
  refine eff_call ((Pu.Open_spec p _ [66, 111, 98] w0 w3 (A * Gd.gds g 9 []) (by decide) (by decide) s3).mono ?_)
  rintro r w4 ⟨rfl, s4⟩
  rw [e2] at s4
  simp
  refine eff_call ((Pu.Mint_spec p _ 1 100 w0 w4 (A * Gd.gds g 9 []) (Pu.bd_of (by decide +kernel)) (by decide) s4).mono ?_)
  rintro r w5 ⟨rfl, s5⟩
  rw [e3] at s5
  simp
  refine eff_call ((Pu.Mint_spec p _ 2 50 w0 w5 (A * Gd.gds g 9 []) (Pu.bd_of (by decide +kernel)) (by decide) s5).mono ?_)
  rintro r w6 ⟨rfl, s6⟩
  rw [e4] at s6
  simp
  refine eff_call ((Gd.Make_spec g 9 [] 0 1 w0 w6 (A * Pu.pur p PG4) (by decide) s6.swap).mono ?_)
  rintro r w7 ⟨rfl, s7⟩
  simp
  refine eff_call ((Gd.Make_spec g 9 _ 0 2 w0 w7 (A * Pu.pur p PG4) (by decide) s7).mono ?_)
  rintro r w8 ⟨rfl, s8⟩
  simp
  have s8 : St w0 (A * Pu.pur p PG4 * Gd.gds g 9 IG) w8 := s8
  refine eff_call ((New_spec p g 3 9 PG4 IG w0 w8 A eg_ei.P rfl s8).mono ?_)
  rintro r w9 ⟨s, rfl, s9⟩
  simp
  exact ⟨p, g, s, ⟨rfl, rfl, rfl⟩, s9⟩
def EA : Eco := ⟨⟨3, [⟨Pu.bankB, 0⟩, ⟨[65, 110, 110], 70⟩, ⟨[66, 111, 98], 50⟩], 150, 30⟩, [⟨1, 0, -1, 7⟩, ⟨2, 0, 2, 0⟩], [(7, 30)]⟩
def ent1 : Et := ⟨1, 1, 30⟩
theorem put_ea : turnF 7 [] (putE 7 ent1) EG = (0, EA) := by decide +kernel
theorem ea_ei : EI 3 9 EA := by
  have := turn_ei (lp := 3) (lg := 9) (c := 7) (gs := []) (bes := putE 7 ent1) eg_ei (by decide) (by simp) (fun E h1 h => put_ei h ⟨h1, by decide⟩ (by decide))
  rw [put_ea] at this
  exact this
set_option maxHeartbeats 1000000 in
theorem awake_spec (w0 w : World) (A : Asn) (s : St w0 A w) : CallW Try.prog 6 [] (fun r w' => r = .bool true ∧ St w0 A w') w := by
  refine callW_of_lift l6_ok (by simp [l6]) ?_
  simp [l6]
  refine eff_call ((given_spec w0 w A s).mono ?_)
  rintro r w1 ⟨p, g, s, rfl, s1⟩
  simp [Instr.fill, Value.cells]
  refine eff_call ((Put_spec p g s 3 9 7 0 ent1 (.slice none 0 0) EG w0 w1 A eg_ei (by decide) (by decide) s1).mono ?_)
  rintro r w2 ⟨rfl, s2⟩
  rw [put_ea] at s2 ⊢
  simp
  have s2 : St w0 (A * Pu.pur p EA.P * Gd.gds g 9 EA.its * esc s p g EA.l) w2 := s2.to (by simp only [ecoA]; ac_rfl)
  refine eff_call ((Gd.Get_spec g 9 EA.its 1 w0 w2 (A * Pu.pur p EA.P * esc s p g EA.l) (by decide) (s2.to (by ac_rfl))).mono ?_)
  rintro r w3 ⟨rfl, s3⟩
  simp
  refine eff_new s3 fun b w4 s4 => ?_
  simp
  refine eff_stA (vs := (Gd.getF EA.its 1).1.cs) s4 rfl rfl (Gd.cs_one _) (by simp) fun w5 s5 => ?_
  simp
  have s6 : St w0 (A * Pu.pur p EA.P * esc s p g EA.l * Gd.gds g 9 EA.its * pt b (.cells (Gd.getF EA.its 1).1.cs.toArray 72 (0, 0))) w5 := by simpa [Gd.It.cs] using s5
  refine eff_call ((Coins_spec s p g EA.l 7 w0 w5 (A * Pu.pur p EA.P * Gd.gds g 9 EA.its * pt b (.cells (Gd.getF EA.its 1).1.cs.toArray 72 (0, 0))) ea_ei.R (s6.to (by ac_rfl))).mono ?_)
  rintro r w6 ⟨rfl, rfl⟩
  rw [show cns EA.l 7 = 30 by decide]
  simp
  refine eff_call ((Items_spec p g s 3 9 7 EA w0 w6 (A * pt b (.cells (Gd.getF EA.its 1).1.cs.toArray 72 (0, 0))) ea_ei (s6.to (by simp only [ecoA]; ac_rfl))).mono ?_)
  intro r w7 s7
  rw [show Gd.inF EA.its 7 = [1] by decide] at s7
  obtain ⟨ia, icap, rfl, _⟩ := s7.own_val
  simp
  refine eff_bslO s7 (vs := [.int .i64 1]) (by simp [Value.oneCell']) rfl rfl (by decide) fun cv w8 s8 => ?_
  simp
  generalize hB : A * pt b (.cells (Gd.getF EA.its 1).1.cs.toArray 72 (0, 0)) = B at *
  refine eff_call ((ints_spec [1] [1] (.slice ia 1 icap) cv w0 w8 _ (by decide) (row_in (e := 3) (B := B * ecoA p g s 9 EA * own 3 1 cv 1 [.int .i64 1]) s8 (by simp only [Gd.ints, List.map_cons, List.map_nil, List.length_cons, List.length_nil] <;> ac_rfl)) (row_in (e := 3) (B := B * ecoA p g s 9 EA * own 3 1 (.slice ia 1 icap) 1 [.int .i64 1]) s8 (by simp only [Gd.ints, List.map_cons, List.map_nil, List.length_cons, List.length_nil] <;> ac_rfl)) s8).mono ?_)
  rintro r w9 ⟨rfl, s9⟩
  simp
  have s10 : St w0 (B * Gd.gds g 9 EA.its * esc s p g EA.l * Pu.pur p EA.P) w9 := s9.drop.drop.to (by simp only [ecoA]; ac_rfl)
  refine eff_call ((Pu.Held_spec p EA.P w0 w9 _ s10).mono ?_)
  rintro r w10 ⟨rfl, s11⟩
  rw [show EA.P.held = 30 by rfl]
  simp
  refine eff_call ((has_spec p EA.P 1 70 w0 w10 _ (by decide) s11).mono ?_)
  rintro r w11 ⟨rfl, s12⟩
  rw [show decide ((Pu.getF EA.P 1).2 = 0 ∧ (Pu.getF EA.P 1).1.coins = 70) = true by decide +kernel, show (Gd.getF EA.its 1).2 = 0 by decide]
  simp
  have s13 : St w0 (B * Gd.gds g 9 EA.its * esc s p g EA.l * Pu.pur p EA.P) w11 := s12
  rw [← hB] at s13
  have sA := s13.cut (B := A * pt b (.cells (Gd.getF EA.its 1).1.cs.toArray 72 (0, 0))) (Gd.gds g 9 EA.its * esc s p g EA.l * Pu.pur p EA.P) (by ac_rfl)
  refine eff_ldc (v := .int .i64 7) ((cell_of sA.look).trans rfl) ?_
  simp
  exact sA.drop
end Go.HL.Es

namespace Go.HL.Es
open Go.HL Go.Proofs
set_option maxRecDepth 4000
set_option linter.unusedSimpArgs false
set_option linter.unusedVariables false
theorem turn_nil (c : Int) (gv bv : Value) (w0 w : World) (A : Asn) (s : St w0 A w) : CallW Try.prog 39 [.pointer none, .int .i64 c, gv, bv] (fun r w' => r = .int .i64 1 ∧ St w0 A w') w := by
  refine callW_of_liftD l39_ok (by simp [l39]) ?_
  simp [l39]
  refine eff_new s fun Be w1 h1 => ?_
  simp
  have h1 : St w0 (A * pt Be (.cells #[.int .i64 0] 31 (0, 0))) w1 := h1
  refine eff_call ((asked_nil c w1).mono ?_)
  rintro r w2 ⟨rfl, rfl⟩
  simp
  refine eff_st1 h1 rfl (by simp) fun w3 h3 => ?_
  have h3 : St w0 (A * pt Be (.cells #[.int .i64 1] 31 (0, 0))) w3 := by simpa using h3
  simp [dfrQ]
  refine rv_cell1 (a := ⟨Be, 0, none⟩) (v := .int .i64 1) rfl ((cell_of h3.look).trans rfl) ?_
  simp
  exact h3.drop
theorem Turn_nil (c : Int) (gv ev : Value) (w0 w : World) (A : Asn) (s : St w0 A w) : CallW Try.prog 13 [.pointer none, .int .i64 c, gv, ev] (fun r w' => r = .int .i64 1 ∧ St w0 A w') w := by
  refine callW_of_lift l13_ok (by simp [l13]) ?_
  simp [l13]
  refine eff_box s fun b4 w1 h1 => ?_
  simp
  refine eff_box h1 fun b5 w2 h2 => ?_
  simp
  refine eff_box h2 fun b6 w3 h3 => ?_
  simp
  refine eff_ldc (v := .pointer none) ((cell_of h3.drop.drop.look).trans rfl) ?_
  simp
  refine eff_ldc (v := .int .i64 c) ((cell_of h3.drop.look).trans rfl) ?_
  simp
  refine eff_call ((turn_nil c gv _ w0 w3 _ h3).mono ?_)
  rintro r w4 ⟨rfl, h4⟩
  simp
  exact h4.drop.drop.drop
theorem Put_nil (c pr : Int) (x : Et) (wv : Value) (w0 w : World) (A : Asn) (s : St w0 A w) : CallW Try.prog 14 [.pointer none, .int .i64 c, .agg (x.cs pr wv).toArray] (fun r w' => r = .int .i64 1 ∧ St w0 A w') w := by
  refine callW_of_lift l14_ok (by simp [l14]) ?_
  simp [l14]
  refine eff_box s fun b w1 h1 => ?_
  simp
  have h2 : St w0 (A * pt b (.cells (x.cs pr wv).toArray 46 (0, 0))) w1 := h1
  refine eff_ldcs (vs := x.cs pr wv) h2.row_cells rfl ?_
  simp
  refine eff_call ((Turn_nil c _ _ w0 w1 _ h2).mono ?_)
  rintro r w2 ⟨rfl, h3⟩
  simp
  exact h3.drop
theorem End_nil (c : Int) (gv : Value) (w0 w : World) (A : Asn) (s : St w0 A w) : CallW Try.prog 23 [.pointer none, .int .i64 c, gv] (fun r w' => r = .int .i64 1 ∧ St w0 A w') w := by
  refine callW_of_lift l23_ok (by simp [l23]) ?_
  simp [l23]
  refine eff_box s fun b4 w1 h1 => ?_
  simp
  refine eff_box h1 fun b5 w2 h2 => ?_
  simp
  refine eff_ldc (v := .pointer none) ((cell_of h2.drop.look).trans rfl) ?_
  simp
  refine eff_ldc (v := .int .i64 c) ((cell_of h2.look).trans rfl) ?_
  simp
  refine eff_call ((turn_nil c gv _ w0 w2 _ h2).mono ?_)
  rintro r w4 ⟨rfl, h4⟩
  simp
  exact h4.drop.drop
theorem Coins_nil (c : Int) (w : World) : CallW Try.prog 20 [.pointer none, .int .i64 c] (fun r w' => r = .int .u64 0 ∧ w' = w) w := by
  refine callW_of_lift l20_ok (by simp [l20]) ?_
  simp [l20]
theorem Items_nil (c : Int) (w : World) : CallW Try.prog 16 [.pointer none, .int .i64 c] (fun r w' => r = .slice none 0 0 ∧ w' = w) w := by
  refine callW_of_lift l16_ok (by simp [l16]) ?_
  simp [l16]
theorem Load_nil (q : Option Addr) (v : Value) (w : World) : CallW Try.prog 10 [.pointer q, .pointer none, v] (fun r w' => r = .tuple #[.pointer none, .int .i64 1] ∧ w' = w) w := by
  refine callW_of_lift l10_ok (by simp [l10]) ?_
  cases q <;> simp [l10]
theorem New_nil (w : World) : CallW Try.prog 30 [.pointer none, .pointer none] (fun r w' => r = .tuple #[.pointer none, .int .i64 1] ∧ w' = w) w := by
  refine callW_of_lift l30_ok (by simp [l30]) ?_
  simp [l30]
  refine eff_call ((Load_nil none _ w).mono ?_)
  rintro r w1 ⟨rfl, rfl⟩
  simp
def EB : Eco := ⟨⟨3, [⟨Pu.bankB, 0⟩, ⟨[65, 110, 110], 0⟩, ⟨[66, 111, 98], 50⟩], 150, 100⟩, [⟨1, 0, -1, 7⟩, ⟨2, 0, 2, 0⟩], [(7, 100)]⟩
def EC : Eco := ⟨⟨3, [⟨Pu.bankB, 0⟩, ⟨[65, 110, 110], 60⟩, ⟨[66, 111, 98], 90⟩], 150, 0⟩, [⟨1, 0, 2, 0⟩, ⟨2, 0, 2, 0⟩], []⟩
theorem st_a : turnF 7 [] (putE 7 ⟨1, 1, 0⟩) EA = (151, EA) := by decide +kernel
theorem st_b : turnF 7 [] (putE 7 ⟨2, 0, 51⟩) EA = (143, EA) := by decide +kernel
theorem st_c : turnF 7 [] (putE 7 ⟨3, 0, 0⟩) EA = (142, EA) := by decide +kernel
theorem st_d : turnF 0 [] (putE 0 ⟨1, 0, 0⟩) EA = (2, EA) := by decide +kernel
theorem st_e : turnF 7 [⟨1, 0, 30⟩] (putE 7 ⟨1, 0, 100⟩) EA = (0, EB) := by decide +kernel
theorem st_f : turnF 7 [⟨2, 0, 100⟩] (putE 7 ⟨2, 0, 151⟩) EB = (143, EB) := by decide +kernel
theorem st_g : turnF 7 [⟨2, 1, 0⟩] (endE 7) EB = (170, EB) := by decide +kernel
theorem st_h : turnF 7 [⟨2, 1, 0⟩, ⟨1, 0, 101⟩] (endE 7) EB = (170, EB) := by decide +kernel
theorem st_i : turnF 7 [⟨1, 2, 0⟩] (endE 7) EB = (170, EB) := by decide +kernel
theorem st_j : turnF 7 [⟨2, 1, 0⟩, ⟨1, 0, 60⟩, ⟨2, 0, 40⟩] (endE 7) EB = (0, EC) := by decide +kernel
theorem end_ei {lp lg c : Int} {E : Eco} (h : EI lp lg E) : EI lp lg (endE c E).2 := h
theorem eb_ei : EI 3 9 EB := by
  have := turn_ei (lp := 3) (lg := 9) (c := 7) (gs := [⟨1, 0, 30⟩]) (bes := putE 7 ⟨1, 0, 100⟩) ea_ei (by decide) (by decide) (fun E h1 h => put_ei h ⟨h1, by decide⟩ (by decide))
  rw [st_e] at this
  exact this
theorem ec_ei : EI 3 9 EC := by
  have := turn_ei (lp := 3) (lg := 9) (c := 7) (gs := [⟨2, 1, 0⟩, ⟨1, 0, 60⟩, ⟨2, 0, 40⟩]) (bes := endE 7) eb_ei (by decide) (by decide) (fun E h1 h => end_ei h)
  rw [st_j] at this
  exact this
/-- a slice of gifts, built -/
theorem eff_gifts {K : Value → World → Prop} {w w0 : World} {F : Asn} {n : Nat} {z : Array Value} {gs : List Gf} {ix : List Nat} {vs : List Value} (s : St w0 F w) (hv : vs = gs.map fun x => .agg x.cs.toArray) (hn : gs.length = n) (hix : ix = List.range' 0 n) (hm : n ≤ maxLen)
    (hk : ∀ v w', St w0 (F * own 60 3 v gs.length (gflat gs)) w' → K v w') : EffW Try.prog (.bsl 60 n 3 z ix) vs K w := by
  subst hv hn
  refine eff_bslN s (by intro v hv; obtain ⟨x, _, rfl⟩ := List.mem_map.1 hv; rfl) (by simp) hix hm fun v w' h => hk v w' ?_
  have e : ((gs.map fun x => Value.agg x.cs.toArray).flatMap fun v => v.cells.toList) = gflat gs := by
    clear h s hm hix hk
    induction gs with
    | nil => rfl
    | cons x t ih => simp only [List.map_cons, List.flatMap_cons, gflat, cells_agg] at ih ⊢; rw [ih]
  rw [e] at h
  exact h
end Go.HL.Es

namespace Go.HL.Es
open Go.HL Go.Proofs
set_option maxRecDepth 4000
set_option linter.unusedSimpArgs false
set_option linter.unusedVariables false
-- bazaar/bazaarlaw17.EscrowKnown
def h5_0 : HC := (.seq (.reg (.chk none (.eqNil false (.pointer 95) (.pointer none)) (.cons (.inp 13) .nil) (.bnd (.op (.eqNil false (.pointer 95) (.pointer none)) (.cons (.inp 13) .nil)) (.chk (some ((.bv 0), true)) (.eqNil false (.pointer 95) (.pointer none)) (.cons (.inp 15) .nil) (.isb none (.bv 0) (.bnd (.ite (.bv 0) true (.op (.eqNil false (.pointer 95) (.pointer none)) (.cons (.inp 15) .nil)) (.cst (.bool false))) (.chk (some ((.bv 1), true)) (.cal 9) (.cons (.inp 14) .nil) (.chk (some ((.bv 1), true)) (.bin .eql) (.cons (.op (.cal 9) (.cons (.inp 14) .nil)) (.cons (.cst (.int .i64 1)) .nil)) (.isb none (.bv 1) (.bnd (.ite (.bv 1) true (.op (.bin .eql) (.cons (.op (.cal 9) (.cons (.inp 14) .nil)) (.cons (.cst (.int .i64 1)) .nil))) (.cst (.bool false))) (.chk (some ((.bv 2), true)) (.cal 9) (.cons (.inp 16) .nil) (.chk (some ((.bv 2), true)) (.bin .eql) (.cons (.op (.cal 9) (.cons (.inp 16) .nil)) (.cons (.cst (.int .i64 1)) .nil)) (.isb none (.bv 2) (.bnd (.ite (.bv 2) true (.op (.bin .eql) (.cons (.op (.cal 9) (.cons (.inp 16) .nil)) (.cons (.cst (.int .i64 1)) .nil))) (.cst (.bool false))) (.chk (some ((.bv 3), true)) (.cal 9) (.cons (.inp 18) .nil) (.chk (some ((.bv 3), true)) (.bin .eql) (.cons (.op (.cal 9) (.cons (.inp 18) .nil)) (.cons (.cst (.int .i64 1)) .nil)) (.isb none (.bv 3) (.bnd (.ite (.bv 3) true (.op (.bin .eql) (.cons (.op (.cal 9) (.cons (.inp 18) .nil)) (.cons (.cst (.int .i64 1)) .nil))) (.cst (.bool false))) (.chk (some ((.bv 4), true)) (.cal 9) (.cons (.inp 19) .nil) (.chk (some ((.bv 4), true)) (.bin .eql) (.cons (.op (.cal 9) (.cons (.inp 19) .nil)) (.cons (.cst (.int .i64 1)) .nil)) (.isb none (.bv 4) (.bnd (.ite (.bv 4) true (.op (.bin .eql) (.cons (.op (.cal 9) (.cons (.inp 19) .nil)) (.cons (.cst (.int .i64 1)) .nil))) (.cst (.bool false))) (.chk (some ((.bv 5), true)) (.cal 9) (.cons (.inp 20) .nil) (.chk (some ((.bv 5), true)) (.bin .eql) (.cons (.op (.cal 9) (.cons (.inp 20) .nil)) (.cons (.cst (.int .i64 1)) .nil)) (.isb none (.bv 5) (.bnd (.ite (.bv 5) true (.op (.bin .eql) (.cons (.op (.cal 9) (.cons (.inp 20) .nil)) (.cons (.cst (.int .i64 1)) .nil))) (.cst (.bool false))) (.ite (.bv 6) true (.eff (.call 20) (.cons (.ite (.bv 6) true (.inp 17) (.cst (.tuple #[]))) (.cons (.cst (.int .i64 1)) .nil)) (.chk none (.bin .eql) (.cons (.bv 7) (.cons (.cst (.int .u64 0)) .nil)) (.isb none (.bv 6) (.bnd (.op (.bin .eql) (.cons (.bv 7) (.cons (.cst (.int .u64 0)) .nil))) (.ite (.bv 8) true (.eff (.call 16) (.cons (.ite (.bv 8) true (.inp 17) (.cst (.tuple #[]))) (.cons (.cst (.int .i64 1)) .nil)) (.chk none .lenL (.cons (.bv 9) .nil) (.chk none (.bin .eql) (.cons (.op .lenL (.cons (.bv 9) .nil)) (.cons (.cst (.int .i64 0)) .nil)) (.isb none (.bv 8) (.bnd (.op (.bin .eql) (.cons (.op .lenL (.cons (.bv 9) .nil)) (.cons (.cst (.int .i64 0)) .nil))) (.ite (.bv 10) true (.eff (.call 28) (.cons (.ite (.bv 10) true (.inp 17) (.cst (.tuple #[]))) .nil) (.chk none .lenL (.cons (.bv 11) .nil) (.chk none (.bin .eql) (.cons (.op .lenL (.cons (.bv 11) .nil)) (.cons (.cst (.int .i64 0)) .nil)) (.isb none (.bv 10) (.done [(0, (.op (.bin .eql) (.cons (.op .lenL (.cons (.bv 11) .nil)) (.cons (.cst (.int .i64 0)) .nil))))] none))))) (.isb none (.bv 10) (.done [(0, (.cst (.bool false)))] none)))))))) (.isb none (.bv 8) (.isb none (.cst (.bool false)) (.done [(0, (.cst (.bool false)))] none)))))))) (.isb none (.bv 6) (.isb none (.cst (.bool false)) (.isb none (.cst (.bool false)) (.done [(0, (.cst (.bool false)))] none))))))))))))))))))))))))))))))) .ret)
@[simp] theorem h5_0_wp {P : Program} {F : PF P} {Q : EX → List Value → World → Prop} {env : List Value} {w : World} : h5_0.wp F Q env w = HC.wp F (.seq (.reg (.chk none (.eqNil false (.pointer 95) (.pointer none)) (.cons (.inp 13) .nil) (.bnd (.op (.eqNil false (.pointer 95) (.pointer none)) (.cons (.inp 13) .nil)) (.chk (some ((.bv 0), true)) (.eqNil false (.pointer 95) (.pointer none)) (.cons (.inp 15) .nil) (.isb none (.bv 0) (.bnd (.ite (.bv 0) true (.op (.eqNil false (.pointer 95) (.pointer none)) (.cons (.inp 15) .nil)) (.cst (.bool false))) (.chk (some ((.bv 1), true)) (.cal 9) (.cons (.inp 14) .nil) (.chk (some ((.bv 1), true)) (.bin .eql) (.cons (.op (.cal 9) (.cons (.inp 14) .nil)) (.cons (.cst (.int .i64 1)) .nil)) (.isb none (.bv 1) (.bnd (.ite (.bv 1) true (.op (.bin .eql) (.cons (.op (.cal 9) (.cons (.inp 14) .nil)) (.cons (.cst (.int .i64 1)) .nil))) (.cst (.bool false))) (.chk (some ((.bv 2), true)) (.cal 9) (.cons (.inp 16) .nil) (.chk (some ((.bv 2), true)) (.bin .eql) (.cons (.op (.cal 9) (.cons (.inp 16) .nil)) (.cons (.cst (.int .i64 1)) .nil)) (.isb none (.bv 2) (.bnd (.ite (.bv 2) true (.op (.bin .eql) (.cons (.op (.cal 9) (.cons (.inp 16) .nil)) (.cons (.cst (.int .i64 1)) .nil))) (.cst (.bool false))) (.chk (some ((.bv 3), true)) (.cal 9) (.cons (.inp 18) .nil) (.chk (some ((.bv 3), true)) (.bin .eql) (.cons (.op (.cal 9) (.cons (.inp 18) .nil)) (.cons (.cst (.int .i64 1)) .nil)) (.isb none (.bv 3) (.bnd (.ite (.bv 3) true (.op (.bin .eql) (.cons (.op (.cal 9) (.cons (.inp 18) .nil)) (.cons (.cst (.int .i64 1)) .nil))) (.cst (.bool false))) (.chk (some ((.bv 4), true)) (.cal 9) (.cons (.inp 19) .nil) (.chk (some ((.bv 4), true)) (.bin .eql) (.cons (.op (.cal 9) (.cons (.inp 19) .nil)) (.cons (.cst (.int .i64 1)) .nil)) (.isb none (.bv 4) (.bnd (.ite (.bv 4) true (.op (.bin .eql) (.cons (.op (.cal 9) (.cons (.inp 19) .nil)) (.cons (.cst (.int .i64 1)) .nil))) (.cst (.bool false))) (.chk (some ((.bv 5), true)) (.cal 9) (.cons (.inp 20) .nil) (.chk (some ((.bv 5), true)) (.bin .eql) (.cons (.op (.cal 9) (.cons (.inp 20) .nil)) (.cons (.cst (.int .i64 1)) .nil)) (.isb none (.bv 5) (.bnd (.ite (.bv 5) true (.op (.bin .eql) (.cons (.op (.cal 9) (.cons (.inp 20) .nil)) (.cons (.cst (.int .i64 1)) .nil))) (.cst (.bool false))) (.ite (.bv 6) true (.eff (.call 20) (.cons (.ite (.bv 6) true (.inp 17) (.cst (.tuple #[]))) (.cons (.cst (.int .i64 1)) .nil)) (.chk none (.bin .eql) (.cons (.bv 7) (.cons (.cst (.int .u64 0)) .nil)) (.isb none (.bv 6) (.bnd (.op (.bin .eql) (.cons (.bv 7) (.cons (.cst (.int .u64 0)) .nil))) (.ite (.bv 8) true (.eff (.call 16) (.cons (.ite (.bv 8) true (.inp 17) (.cst (.tuple #[]))) (.cons (.cst (.int .i64 1)) .nil)) (.chk none .lenL (.cons (.bv 9) .nil) (.chk none (.bin .eql) (.cons (.op .lenL (.cons (.bv 9) .nil)) (.cons (.cst (.int .i64 0)) .nil)) (.isb none (.bv 8) (.bnd (.op (.bin .eql) (.cons (.op .lenL (.cons (.bv 9) .nil)) (.cons (.cst (.int .i64 0)) .nil))) (.ite (.bv 10) true (.eff (.call 28) (.cons (.ite (.bv 10) true (.inp 17) (.cst (.tuple #[]))) .nil) (.chk none .lenL (.cons (.bv 11) .nil) (.chk none (.bin .eql) (.cons (.op .lenL (.cons (.bv 11) .nil)) (.cons (.cst (.int .i64 0)) .nil)) (.isb none (.bv 10) (.done [(0, (.op (.bin .eql) (.cons (.op .lenL (.cons (.bv 11) .nil)) (.cons (.cst (.int .i64 0)) .nil))))] none))))) (.isb none (.bv 10) (.done [(0, (.cst (.bool false)))] none)))))))) (.isb none (.bv 8) (.isb none (.cst (.bool false)) (.done [(0, (.cst (.bool false)))] none)))))))) (.isb none (.bv 6) (.isb none (.cst (.bool false)) (.isb none (.cst (.bool false)) (.done [(0, (.cst (.bool false)))] none))))))))))))))))))))))))))))))) .ret) Q env w := rfl
def h5_1 : HC := (.seq (.reg (.eff (.call 23) (.cons (.inp 17) (.cons (.cst (.int .i64 0)) (.cons (.cst (.slice none 0 0)) .nil))) (.done [(20, (.bv 0))] none))) h5_0)
@[simp] theorem h5_1_wp {P : Program} {F : PF P} {Q : EX → List Value → World → Prop} {env : List Value} {w : World} : h5_1.wp F Q env w = HC.wp F (.seq (.reg (.eff (.call 23) (.cons (.inp 17) (.cons (.cst (.int .i64 0)) (.cons (.cst (.slice none 0 0)) .nil))) (.done [(20, (.bv 0))] none))) h5_0) Q env w := rfl
def h5_2 : HC := (.seq (.reg (.chk none (.build #[(.int .i64 0), (.int .i64 0), (.int .u64 0), (.int .u64 0), (.slice none 0 0)] [(0, 1), (1, 1), (2, 1), (3, 1), (4, 1)] []) .nil (.eff (.call 13) (.cons (.inp 17) (.cons (.cst (.int .i64 0)) (.cons (.cst (.slice none 0 0)) (.cons (.op (.build #[(.int .i64 0), (.int .i64 0), (.int .u64 0), (.int .u64 0), (.slice none 0 0)] [(0, 1), (1, 1), (2, 1), (3, 1), (4, 1)] []) .nil) .nil)))) (.done [(19, (.bv 0))] none)))) h5_1)
@[simp] theorem h5_2_wp {P : Program} {F : PF P} {Q : EX → List Value → World → Prop} {env : List Value} {w : World} : h5_2.wp F Q env w = HC.wp F (.seq (.reg (.chk none (.build #[(.int .i64 0), (.int .i64 0), (.int .u64 0), (.int .u64 0), (.slice none 0 0)] [(0, 1), (1, 1), (2, 1), (3, 1), (4, 1)] []) .nil (.eff (.call 13) (.cons (.inp 17) (.cons (.cst (.int .i64 0)) (.cons (.cst (.slice none 0 0)) (.cons (.op (.build #[(.int .i64 0), (.int .i64 0), (.int .u64 0), (.int .u64 0), (.slice none 0 0)] [(0, 1), (1, 1), (2, 1), (3, 1), (4, 1)] []) .nil) .nil)))) (.done [(19, (.bv 0))] none)))) h5_1) Q env w := rfl
def h5_3 : HC := (.seq (.reg (.chk none (.build #[(.int .i64 0), (.int .i64 0), (.int .u64 0), (.int .u64 0), (.slice none 0 0)] [(0, 1), (1, 1), (2, 1), (3, 1), (4, 1)] []) .nil (.eff (.call 14) (.cons (.inp 17) (.cons (.cst (.int .i64 1)) (.cons (.op (.build #[(.int .i64 0), (.int .i64 0), (.int .u64 0), (.int .u64 0), (.slice none 0 0)] [(0, 1), (1, 1), (2, 1), (3, 1), (4, 1)] []) .nil) .nil))) (.done [(18, (.bv 0))] none)))) h5_2)
@[simp] theorem h5_3_wp {P : Program} {F : PF P} {Q : EX → List Value → World → Prop} {env : List Value} {w : World} : h5_3.wp F Q env w = HC.wp F (.seq (.reg (.chk none (.build #[(.int .i64 0), (.int .i64 0), (.int .u64 0), (.int .u64 0), (.slice none 0 0)] [(0, 1), (1, 1), (2, 1), (3, 1), (4, 1)] []) .nil (.eff (.call 14) (.cons (.inp 17) (.cons (.cst (.int .i64 1)) (.cons (.op (.build #[(.int .i64 0), (.int .i64 0), (.int .u64 0), (.int .u64 0), (.slice none 0 0)] [(0, 1), (1, 1), (2, 1), (3, 1), (4, 1)] []) .nil) .nil))) (.done [(18, (.bv 0))] none)))) h5_2) Q env w := rfl
def h5_4 : HC := (.seq (.reg (.done [(17, (.cst (.pointer none)))] none)) h5_3)
@[simp] theorem h5_4_wp {P : Program} {F : PF P} {Q : EX → List Value → World → Prop} {env : List Value} {w : World} : h5_4.wp F Q env w = HC.wp F (.seq (.reg (.done [(17, (.cst (.pointer none)))] none)) h5_3) Q env w := rfl
def h5_5 : HC := (.seq (.reg (.eff (.call 10) (.cons (.inp 1) (.cons (.cst (.pointer none)) (.cons (.cst (.slice none 0 0)) .nil))) (.chk none (.ext 0) (.cons (.bv 0) .nil) (.chk none (.ext 1) (.cons (.bv 0) .nil) (.done [(15, (.op (.ext 0) (.cons (.bv 0) .nil))), (16, (.op (.ext 1) (.cons (.bv 0) .nil)))] none))))) h5_4)
@[simp] theorem h5_5_wp {P : Program} {F : PF P} {Q : EX → List Value → World → Prop} {env : List Value} {w : World} : h5_5.wp F Q env w = HC.wp F (.seq (.reg (.eff (.call 10) (.cons (.inp 1) (.cons (.cst (.pointer none)) (.cons (.cst (.slice none 0 0)) .nil))) (.chk none (.ext 0) (.cons (.bv 0) .nil) (.chk none (.ext 1) (.cons (.bv 0) .nil) (.done [(15, (.op (.ext 0) (.cons (.bv 0) .nil))), (16, (.op (.ext 1) (.cons (.bv 0) .nil)))] none))))) h5_4) Q env w := rfl
def h5_6 : HC := (.seq (.reg (.eff (.call 30) (.cons (.cst (.pointer none)) (.cons (.cst (.pointer none)) .nil)) (.chk none (.ext 0) (.cons (.bv 0) .nil) (.chk none (.ext 1) (.cons (.bv 0) .nil) (.done [(13, (.op (.ext 0) (.cons (.bv 0) .nil))), (14, (.op (.ext 1) (.cons (.bv 0) .nil)))] none))))) h5_5)
@[simp] theorem h5_6_wp {P : Program} {F : PF P} {Q : EX → List Value → World → Prop} {env : List Value} {w : World} : h5_6.wp F Q env w = HC.wp F (.seq (.reg (.eff (.call 30) (.cons (.cst (.pointer none)) (.cons (.cst (.pointer none)) .nil)) (.chk none (.ext 0) (.cons (.bv 0) .nil) (.chk none (.ext 1) (.cons (.bv 0) .nil) (.done [(13, (.op (.ext 0) (.cons (.bv 0) .nil))), (14, (.op (.ext 1) (.cons (.bv 0) .nil)))] none))))) h5_5) Q env w := rfl
def h5_7 : HC := (.seq (.reg (.done [(0, (.cst (.bool false)))] none)) .ret)
@[simp] theorem h5_7_wp {P : Program} {F : PF P} {Q : EX → List Value → World → Prop} {env : List Value} {w : World} : h5_7.wp F Q env w = HC.wp F (.seq (.reg (.done [(0, (.cst (.bool false)))] none)) .ret) Q env w := rfl
def h5_8 : HC := (.seq (.br (.chk none (.cal 9) (.cons (.inp 9) .nil) (.chk none (.bin .neq) (.cons (.op (.cal 9) (.cons (.inp 9) .nil)) (.cons (.cst (.int .i64 170)) .nil)) (.bnd (.op (.bin .neq) (.cons (.op (.cal 9) (.cons (.inp 9) .nil)) (.cons (.cst (.int .i64 170)) .nil))) (.chk (some ((.bv 0), false)) (.cal 9) (.cons (.inp 10) .nil) (.chk (some ((.bv 0), false)) (.bin .neq) (.cons (.op (.cal 9) (.cons (.inp 10) .nil)) (.cons (.cst (.int .i64 170)) .nil)) (.isb none (.bv 0) (.bnd (.ite (.bv 0) true (.cst (.bool true)) (.op (.bin .neq) (.cons (.op (.cal 9) (.cons (.inp 10) .nil)) (.cons (.cst (.int .i64 170)) .nil)))) (.chk (some ((.bv 1), false)) (.cal 9) (.cons (.inp 11) .nil) (.chk (some ((.bv 1), false)) (.bin .neq) (.cons (.op (.cal 9) (.cons (.inp 11) .nil)) (.cons (.cst (.int .i64 170)) .nil)) (.isb none (.bv 1) (.bnd (.ite (.bv 1) true (.cst (.bool true)) (.op (.bin .neq) (.cons (.op (.cal 9) (.cons (.inp 11) .nil)) (.cons (.cst (.int .i64 170)) .nil)))) (.chk (some ((.bv 2), false)) (.cal 9) (.cons (.inp 12) .nil) (.chk (some ((.bv 2), false)) (.bin .neq) (.cons (.op (.cal 9) (.cons (.inp 12) .nil)) (.cons (.cst (.int .i64 0)) .nil)) (.isb none (.bv 2) (.bnd (.ite (.bv 2) true (.cst (.bool true)) (.op (.bin .neq) (.cons (.op (.cal 9) (.cons (.inp 12) .nil)) (.cons (.cst (.int .i64 0)) .nil)))) (.ite (.bv 3) false (.eff (.call 28) (.cons (.ite (.bv 3) false (.inp 2) (.cst (.tuple #[]))) .nil) (.chk none .lenL (.cons (.bv 4) .nil) (.chk none (.bin .neq) (.cons (.op .lenL (.cons (.bv 4) .nil)) (.cons (.cst (.int .i64 0)) .nil)) (.isb none (.bv 3) (.bnd (.op (.bin .neq) (.cons (.op .lenL (.cons (.bv 4) .nil)) (.cons (.cst (.int .i64 0)) .nil))) (.ite (.bv 5) false (.eff (.call 16) (.cons (.ite (.bv 5) false (.inp 2) (.cst (.tuple #[]))) (.cons (.cst (.int .i64 7)) .nil)) (.chk none .lenL (.cons (.bv 6) .nil) (.chk none (.bin .neq) (.cons (.op .lenL (.cons (.bv 6) .nil)) (.cons (.cst (.int .i64 0)) .nil)) (.isb none (.bv 5) (.bnd (.op (.bin .neq) (.cons (.op .lenL (.cons (.bv 6) .nil)) (.cons (.cst (.int .i64 0)) .nil))) (.ite (.bv 7) false (.eff (.call 29) (.cons (.ite (.bv 7) false (.inp 1) (.cst (.tuple #[]))) .nil) (.chk none (.bin .neq) (.cons (.bv 8) (.cons (.cst (.int .u64 0)) .nil)) (.isb none (.bv 7) (.bnd (.op (.bin .neq) (.cons (.bv 8) (.cons (.cst (.int .u64 0)) .nil))) (.ite (.bv 9) false (.eff (.call 27) (.cons (.ite (.bv 9) false (.inp 1) (.cst (.tuple #[]))) (.cons (.cst (.int .i64 1)) (.cons (.cst (.int .u64 60)) .nil))) (.chk none (.un .not) (.cons (.bv 10) .nil) (.isb none (.bv 9) (.bnd (.op (.un .not) (.cons (.bv 10) .nil)) (.ite (.bv 11) false (.eff (.call 27) (.cons (.ite (.bv 11) false (.inp 1) (.cst (.tuple #[]))) (.cons (.cst (.int .i64 2)) (.cons (.cst (.int .u64 90)) .nil))) (.chk none (.un .not) (.cons (.bv 12) .nil) (.isb none (.bv 11) (.done [] (some (.op (.un .not) (.cons (.bv 12) .nil))))))) (.isb none (.bv 11) (.done [] (some (.cst (.bool true)))))))))) (.isb none (.bv 9) (.isb none (.cst (.bool true)) (.done [] (some (.cst (.bool true))))))))))) (.isb none (.bv 7) (.isb none (.cst (.bool true)) (.isb none (.cst (.bool true)) (.done [] (some (.cst (.bool true))))))))))))) (.isb none (.bv 5) (.isb none (.cst (.bool true)) (.isb none (.cst (.bool true)) (.isb none (.cst (.bool true)) (.done [] (some (.cst (.bool true)))))))))))))) (.isb none (.bv 3) (.isb none (.cst (.bool true)) (.isb none (.cst (.bool true)) (.isb none (.cst (.bool true)) (.isb none (.cst (.bool true)) (.done [] (some (.cst (.bool true))))))))))))))))))))))))) h5_7 .skip) h5_6)
@[simp] theorem h5_8_wp {P : Program} {F : PF P} {Q : EX → List Value → World → Prop} {env : List Value} {w : World} : h5_8.wp F Q env w = HC.wp F (.seq (.br (.chk none (.cal 9) (.cons (.inp 9) .nil) (.chk none (.bin .neq) (.cons (.op (.cal 9) (.cons (.inp 9) .nil)) (.cons (.cst (.int .i64 170)) .nil)) (.bnd (.op (.bin .neq) (.cons (.op (.cal 9) (.cons (.inp 9) .nil)) (.cons (.cst (.int .i64 170)) .nil))) (.chk (some ((.bv 0), false)) (.cal 9) (.cons (.inp 10) .nil) (.chk (some ((.bv 0), false)) (.bin .neq) (.cons (.op (.cal 9) (.cons (.inp 10) .nil)) (.cons (.cst (.int .i64 170)) .nil)) (.isb none (.bv 0) (.bnd (.ite (.bv 0) true (.cst (.bool true)) (.op (.bin .neq) (.cons (.op (.cal 9) (.cons (.inp 10) .nil)) (.cons (.cst (.int .i64 170)) .nil)))) (.chk (some ((.bv 1), false)) (.cal 9) (.cons (.inp 11) .nil) (.chk (some ((.bv 1), false)) (.bin .neq) (.cons (.op (.cal 9) (.cons (.inp 11) .nil)) (.cons (.cst (.int .i64 170)) .nil)) (.isb none (.bv 1) (.bnd (.ite (.bv 1) true (.cst (.bool true)) (.op (.bin .neq) (.cons (.op (.cal 9) (.cons (.inp 11) .nil)) (.cons (.cst (.int .i64 170)) .nil)))) (.chk (some ((.bv 2), false)) (.cal 9) (.cons (.inp 12) .nil) (.chk (some ((.bv 2), false)) (.bin .neq) (.cons (.op (.cal 9) (.cons (.inp 12) .nil)) (.cons (.cst (.int .i64 0)) .nil)) (.isb none (.bv 2) (.bnd (.ite (.bv 2) true (.cst (.bool true)) (.op (.bin .neq) (.cons (.op (.cal 9) (.cons (.inp 12) .nil)) (.cons (.cst (.int .i64 0)) .nil)))) (.ite (.bv 3) false (.eff (.call 28) (.cons (.ite (.bv 3) false (.inp 2) (.cst (.tuple #[]))) .nil) (.chk none .lenL (.cons (.bv 4) .nil) (.chk none (.bin .neq) (.cons (.op .lenL (.cons (.bv 4) .nil)) (.cons (.cst (.int .i64 0)) .nil)) (.isb none (.bv 3) (.bnd (.op (.bin .neq) (.cons (.op .lenL (.cons (.bv 4) .nil)) (.cons (.cst (.int .i64 0)) .nil))) (.ite (.bv 5) false (.eff (.call 16) (.cons (.ite (.bv 5) false (.inp 2) (.cst (.tuple #[]))) (.cons (.cst (.int .i64 7)) .nil)) (.chk none .lenL (.cons (.bv 6) .nil) (.chk none (.bin .neq) (.cons (.op .lenL (.cons (.bv 6) .nil)) (.cons (.cst (.int .i64 0)) .nil)) (.isb none (.bv 5) (.bnd (.op (.bin .neq) (.cons (.op .lenL (.cons (.bv 6) .nil)) (.cons (.cst (.int .i64 0)) .nil))) (.ite (.bv 7) false (.eff (.call 29) (.cons (.ite (.bv 7) false (.inp 1) (.cst (.tuple #[]))) .nil) (.chk none (.bin .neq) (.cons (.bv 8) (.cons (.cst (.int .u64 0)) .nil)) (.isb none (.bv 7) (.bnd (.op (.bin .neq) (.cons (.bv 8) (.cons (.cst (.int .u64 0)) .nil))) (.ite (.bv 9) false (.eff (.call 27) (.cons (.ite (.bv 9) false (.inp 1) (.cst (.tuple #[]))) (.cons (.cst (.int .i64 1)) (.cons (.cst (.int .u64 60)) .nil))) (.chk none (.un .not) (.cons (.bv 10) .nil) (.isb none (.bv 9) (.bnd (.op (.un .not) (.cons (.bv 10) .nil)) (.ite (.bv 11) false (.eff (.call 27) (.cons (.ite (.bv 11) false (.inp 1) (.cst (.tuple #[]))) (.cons (.cst (.int .i64 2)) (.cons (.cst (.int .u64 90)) .nil))) (.chk none (.un .not) (.cons (.bv 12) .nil) (.isb none (.bv 11) (.done [] (some (.op (.un .not) (.cons (.bv 12) .nil))))))) (.isb none (.bv 11) (.done [] (some (.cst (.bool true)))))))))) (.isb none (.bv 9) (.isb none (.cst (.bool true)) (.done [] (some (.cst (.bool true))))))))))) (.isb none (.bv 7) (.isb none (.cst (.bool true)) (.isb none (.cst (.bool true)) (.done [] (some (.cst (.bool true))))))))))))) (.isb none (.bv 5) (.isb none (.cst (.bool true)) (.isb none (.cst (.bool true)) (.isb none (.cst (.bool true)) (.done [] (some (.cst (.bool true)))))))))))))) (.isb none (.bv 3) (.isb none (.cst (.bool true)) (.isb none (.cst (.bool true)) (.isb none (.cst (.bool true)) (.isb none (.cst (.bool true)) (.done [] (some (.cst (.bool true))))))))))))))))))))))))) h5_7 .skip) h5_6) Q env w := rfl
def h5_9 : HC := (.seq (.reg (.chk none (.build #[(.int .i64 0), (.int .i64 0), (.int .u64 0)] [(0, 1), (1, 1), (2, 1)] [0, 1]) (.cons (.cst (.int .i64 2)) (.cons (.cst (.int .i64 1)) .nil)) (.chk none (.build #[(.int .i64 0), (.int .i64 0), (.int .u64 0)] [(0, 1), (1, 1), (2, 1)] [0, 2]) (.cons (.cst (.int .i64 1)) (.cons (.cst (.int .u64 60)) .nil)) (.chk none (.build #[(.int .i64 0), (.int .i64 0), (.int .u64 0)] [(0, 1), (1, 1), (2, 1)] [0, 2]) (.cons (.cst (.int .i64 2)) (.cons (.cst (.int .u64 40)) .nil)) (.eff (.bsl 60 3 3 #[(.int .i64 0), (.int .i64 0), (.int .u64 0)] [0, 1, 2]) (.cons (.op (.build #[(.int .i64 0), (.int .i64 0), (.int .u64 0)] [(0, 1), (1, 1), (2, 1)] [0, 1]) (.cons (.cst (.int .i64 2)) (.cons (.cst (.int .i64 1)) .nil))) (.cons (.op (.build #[(.int .i64 0), (.int .i64 0), (.int .u64 0)] [(0, 1), (1, 1), (2, 1)] [0, 2]) (.cons (.cst (.int .i64 1)) (.cons (.cst (.int .u64 60)) .nil))) (.cons (.op (.build #[(.int .i64 0), (.int .i64 0), (.int .u64 0)] [(0, 1), (1, 1), (2, 1)] [0, 2]) (.cons (.cst (.int .i64 2)) (.cons (.cst (.int .u64 40)) .nil))) .nil))) (.eff (.call 23) (.cons (.inp 2) (.cons (.cst (.int .i64 7)) (.cons (.bv 0) .nil))) (.done [(12, (.bv 1))] none))))))) h5_8)
@[simp] theorem h5_9_wp {P : Program} {F : PF P} {Q : EX → List Value → World → Prop} {env : List Value} {w : World} : h5_9.wp F Q env w = HC.wp F (.seq (.reg (.chk none (.build #[(.int .i64 0), (.int .i64 0), (.int .u64 0)] [(0, 1), (1, 1), (2, 1)] [0, 1]) (.cons (.cst (.int .i64 2)) (.cons (.cst (.int .i64 1)) .nil)) (.chk none (.build #[(.int .i64 0), (.int .i64 0), (.int .u64 0)] [(0, 1), (1, 1), (2, 1)] [0, 2]) (.cons (.cst (.int .i64 1)) (.cons (.cst (.int .u64 60)) .nil)) (.chk none (.build #[(.int .i64 0), (.int .i64 0), (.int .u64 0)] [(0, 1), (1, 1), (2, 1)] [0, 2]) (.cons (.cst (.int .i64 2)) (.cons (.cst (.int .u64 40)) .nil)) (.eff (.bsl 60 3 3 #[(.int .i64 0), (.int .i64 0), (.int .u64 0)] [0, 1, 2]) (.cons (.op (.build #[(.int .i64 0), (.int .i64 0), (.int .u64 0)] [(0, 1), (1, 1), (2, 1)] [0, 1]) (.cons (.cst (.int .i64 2)) (.cons (.cst (.int .i64 1)) .nil))) (.cons (.op (.build #[(.int .i64 0), (.int .i64 0), (.int .u64 0)] [(0, 1), (1, 1), (2, 1)] [0, 2]) (.cons (.cst (.int .i64 1)) (.cons (.cst (.int .u64 60)) .nil))) (.cons (.op (.build #[(.int .i64 0), (.int .i64 0), (.int .u64 0)] [(0, 1), (1, 1), (2, 1)] [0, 2]) (.cons (.cst (.int .i64 2)) (.cons (.cst (.int .u64 40)) .nil))) .nil))) (.eff (.call 23) (.cons (.inp 2) (.cons (.cst (.int .i64 7)) (.cons (.bv 0) .nil))) (.done [(12, (.bv 1))] none))))))) h5_8) Q env w := rfl
def h5_10 : HC := (.seq (.reg (.chk none (.build #[(.int .i64 0), (.int .i64 0), (.int .u64 0)] [(0, 1), (1, 1), (2, 1)] [0, 1]) (.cons (.cst (.int .i64 1)) (.cons (.cst (.int .i64 2)) .nil)) (.eff (.bsl 60 1 3 #[(.int .i64 0), (.int .i64 0), (.int .u64 0)] [0]) (.cons (.op (.build #[(.int .i64 0), (.int .i64 0), (.int .u64 0)] [(0, 1), (1, 1), (2, 1)] [0, 1]) (.cons (.cst (.int .i64 1)) (.cons (.cst (.int .i64 2)) .nil))) .nil) (.eff (.call 23) (.cons (.inp 2) (.cons (.cst (.int .i64 7)) (.cons (.bv 0) .nil))) (.done [(11, (.bv 1))] none))))) h5_9)
@[simp] theorem h5_10_wp {P : Program} {F : PF P} {Q : EX → List Value → World → Prop} {env : List Value} {w : World} : h5_10.wp F Q env w = HC.wp F (.seq (.reg (.chk none (.build #[(.int .i64 0), (.int .i64 0), (.int .u64 0)] [(0, 1), (1, 1), (2, 1)] [0, 1]) (.cons (.cst (.int .i64 1)) (.cons (.cst (.int .i64 2)) .nil)) (.eff (.bsl 60 1 3 #[(.int .i64 0), (.int .i64 0), (.int .u64 0)] [0]) (.cons (.op (.build #[(.int .i64 0), (.int .i64 0), (.int .u64 0)] [(0, 1), (1, 1), (2, 1)] [0, 1]) (.cons (.cst (.int .i64 1)) (.cons (.cst (.int .i64 2)) .nil))) .nil) (.eff (.call 23) (.cons (.inp 2) (.cons (.cst (.int .i64 7)) (.cons (.bv 0) .nil))) (.done [(11, (.bv 1))] none))))) h5_9) Q env w := rfl
def h5_11 : HC := (.seq (.reg (.chk none (.build #[(.int .i64 0), (.int .i64 0), (.int .u64 0)] [(0, 1), (1, 1), (2, 1)] [0, 1]) (.cons (.cst (.int .i64 2)) (.cons (.cst (.int .i64 1)) .nil)) (.chk none (.build #[(.int .i64 0), (.int .i64 0), (.int .u64 0)] [(0, 1), (1, 1), (2, 1)] [0, 2]) (.cons (.cst (.int .i64 1)) (.cons (.cst (.int .u64 101)) .nil)) (.eff (.bsl 60 2 3 #[(.int .i64 0), (.int .i64 0), (.int .u64 0)] [0, 1]) (.cons (.op (.build #[(.int .i64 0), (.int .i64 0), (.int .u64 0)] [(0, 1), (1, 1), (2, 1)] [0, 1]) (.cons (.cst (.int .i64 2)) (.cons (.cst (.int .i64 1)) .nil))) (.cons (.op (.build #[(.int .i64 0), (.int .i64 0), (.int .u64 0)] [(0, 1), (1, 1), (2, 1)] [0, 2]) (.cons (.cst (.int .i64 1)) (.cons (.cst (.int .u64 101)) .nil))) .nil)) (.eff (.call 23) (.cons (.inp 2) (.cons (.cst (.int .i64 7)) (.cons (.bv 0) .nil))) (.done [(10, (.bv 1))] none)))))) h5_10)
@[simp] theorem h5_11_wp {P : Program} {F : PF P} {Q : EX → List Value → World → Prop} {env : List Value} {w : World} : h5_11.wp F Q env w = HC.wp F (.seq (.reg (.chk none (.build #[(.int .i64 0), (.int .i64 0), (.int .u64 0)] [(0, 1), (1, 1), (2, 1)] [0, 1]) (.cons (.cst (.int .i64 2)) (.cons (.cst (.int .i64 1)) .nil)) (.chk none (.build #[(.int .i64 0), (.int .i64 0), (.int .u64 0)] [(0, 1), (1, 1), (2, 1)] [0, 2]) (.cons (.cst (.int .i64 1)) (.cons (.cst (.int .u64 101)) .nil)) (.eff (.bsl 60 2 3 #[(.int .i64 0), (.int .i64 0), (.int .u64 0)] [0, 1]) (.cons (.op (.build #[(.int .i64 0), (.int .i64 0), (.int .u64 0)] [(0, 1), (1, 1), (2, 1)] [0, 1]) (.cons (.cst (.int .i64 2)) (.cons (.cst (.int .i64 1)) .nil))) (.cons (.op (.build #[(.int .i64 0), (.int .i64 0), (.int .u64 0)] [(0, 1), (1, 1), (2, 1)] [0, 2]) (.cons (.cst (.int .i64 1)) (.cons (.cst (.int .u64 101)) .nil))) .nil)) (.eff (.call 23) (.cons (.inp 2) (.cons (.cst (.int .i64 7)) (.cons (.bv 0) .nil))) (.done [(10, (.bv 1))] none)))))) h5_10) Q env w := rfl
def h5_12 : HC := (.seq (.reg (.chk none (.build #[(.int .i64 0), (.int .i64 0), (.int .u64 0)] [(0, 1), (1, 1), (2, 1)] [0, 1]) (.cons (.cst (.int .i64 2)) (.cons (.cst (.int .i64 1)) .nil)) (.eff (.bsl 60 1 3 #[(.int .i64 0), (.int .i64 0), (.int .u64 0)] [0]) (.cons (.op (.build #[(.int .i64 0), (.int .i64 0), (.int .u64 0)] [(0, 1), (1, 1), (2, 1)] [0, 1]) (.cons (.cst (.int .i64 2)) (.cons (.cst (.int .i64 1)) .nil))) .nil) (.eff (.call 23) (.cons (.inp 2) (.cons (.cst (.int .i64 7)) (.cons (.bv 0) .nil))) (.done [(9, (.bv 1))] none))))) h5_11)
@[simp] theorem h5_12_wp {P : Program} {F : PF P} {Q : EX → List Value → World → Prop} {env : List Value} {w : World} : h5_12.wp F Q env w = HC.wp F (.seq (.reg (.chk none (.build #[(.int .i64 0), (.int .i64 0), (.int .u64 0)] [(0, 1), (1, 1), (2, 1)] [0, 1]) (.cons (.cst (.int .i64 2)) (.cons (.cst (.int .i64 1)) .nil)) (.eff (.bsl 60 1 3 #[(.int .i64 0), (.int .i64 0), (.int .u64 0)] [0]) (.cons (.op (.build #[(.int .i64 0), (.int .i64 0), (.int .u64 0)] [(0, 1), (1, 1), (2, 1)] [0, 1]) (.cons (.cst (.int .i64 2)) (.cons (.cst (.int .i64 1)) .nil))) .nil) (.eff (.call 23) (.cons (.inp 2) (.cons (.cst (.int .i64 7)) (.cons (.bv 0) .nil))) (.done [(9, (.bv 1))] none))))) h5_11) Q env w := rfl
def h5_13 : HC := (.seq (.reg (.done [(0, (.cst (.bool false)))] none)) .ret)
@[simp] theorem h5_13_wp {P : Program} {F : PF P} {Q : EX → List Value → World → Prop} {env : List Value} {w : World} : h5_13.wp F Q env w = HC.wp F (.seq (.reg (.done [(0, (.cst (.bool false)))] none)) .ret) Q env w := rfl
def h5_14 : HC := (.seq (.br (.chk none (.cal 9) (.cons (.inp 8) .nil) (.chk none (.bin .neq) (.cons (.op (.cal 9) (.cons (.inp 8) .nil)) (.cons (.cst (.int .i64 143)) .nil)) (.bnd (.op (.bin .neq) (.cons (.op (.cal 9) (.cons (.inp 8) .nil)) (.cons (.cst (.int .i64 143)) .nil))) (.ite (.bv 0) false (.eff (.call 20) (.cons (.ite (.bv 0) false (.inp 2) (.cst (.tuple #[]))) (.cons (.cst (.int .i64 7)) .nil)) (.chk none (.bin .neq) (.cons (.bv 1) (.cons (.cst (.int .u64 100)) .nil)) (.isb none (.bv 0) (.bnd (.op (.bin .neq) (.cons (.bv 1) (.cons (.cst (.int .u64 100)) .nil))) (.ite (.bv 2) false (.eff (.call 27) (.cons (.ite (.bv 2) false (.inp 1) (.cst (.tuple #[]))) (.cons (.cst (.int .i64 2)) (.cons (.cst (.int .u64 50)) .nil))) (.chk none (.un .not) (.cons (.bv 3) .nil) (.isb none (.bv 2) (.done [] (some (.op (.un .not) (.cons (.bv 3) .nil))))))) (.isb none (.bv 2) (.done [] (some (.cst (.bool true)))))))))) (.isb none (.bv 0) (.isb none (.cst (.bool true)) (.done [] (some (.cst (.bool true)))))))))) h5_13 .skip) h5_12)
@[simp] theorem h5_14_wp {P : Program} {F : PF P} {Q : EX → List Value → World → Prop} {env : List Value} {w : World} : h5_14.wp F Q env w = HC.wp F (.seq (.br (.chk none (.cal 9) (.cons (.inp 8) .nil) (.chk none (.bin .neq) (.cons (.op (.cal 9) (.cons (.inp 8) .nil)) (.cons (.cst (.int .i64 143)) .nil)) (.bnd (.op (.bin .neq) (.cons (.op (.cal 9) (.cons (.inp 8) .nil)) (.cons (.cst (.int .i64 143)) .nil))) (.ite (.bv 0) false (.eff (.call 20) (.cons (.ite (.bv 0) false (.inp 2) (.cst (.tuple #[]))) (.cons (.cst (.int .i64 7)) .nil)) (.chk none (.bin .neq) (.cons (.bv 1) (.cons (.cst (.int .u64 100)) .nil)) (.isb none (.bv 0) (.bnd (.op (.bin .neq) (.cons (.bv 1) (.cons (.cst (.int .u64 100)) .nil))) (.ite (.bv 2) false (.eff (.call 27) (.cons (.ite (.bv 2) false (.inp 1) (.cst (.tuple #[]))) (.cons (.cst (.int .i64 2)) (.cons (.cst (.int .u64 50)) .nil))) (.chk none (.un .not) (.cons (.bv 3) .nil) (.isb none (.bv 2) (.done [] (some (.op (.un .not) (.cons (.bv 3) .nil))))))) (.isb none (.bv 2) (.done [] (some (.cst (.bool true)))))))))) (.isb none (.bv 0) (.isb none (.cst (.bool true)) (.done [] (some (.cst (.bool true)))))))))) h5_13 .skip) h5_12) Q env w := rfl
def h5_15 : HC := (.seq (.reg (.chk none (.build #[(.int .i64 0), (.int .i64 0), (.int .u64 0)] [(0, 1), (1, 1), (2, 1)] [0, 2]) (.cons (.cst (.int .i64 2)) (.cons (.cst (.int .u64 100)) .nil)) (.eff (.bsl 60 1 3 #[(.int .i64 0), (.int .i64 0), (.int .u64 0)] [0]) (.cons (.op (.build #[(.int .i64 0), (.int .i64 0), (.int .u64 0)] [(0, 1), (1, 1), (2, 1)] [0, 2]) (.cons (.cst (.int .i64 2)) (.cons (.cst (.int .u64 100)) .nil))) .nil) (.chk none (.build #[(.int .i64 0), (.int .i64 0), (.int .u64 0), (.int .u64 0), (.slice none 0 0)] [(0, 1), (1, 1), (2, 1), (3, 1), (4, 1)] [0, 2]) (.cons (.cst (.int .i64 2)) (.cons (.cst (.int .u64 151)) .nil)) (.eff (.call 13) (.cons (.inp 2) (.cons (.cst (.int .i64 7)) (.cons (.bv 0) (.cons (.op (.build #[(.int .i64 0), (.int .i64 0), (.int .u64 0), (.int .u64 0), (.slice none 0 0)] [(0, 1), (1, 1), (2, 1), (3, 1), (4, 1)] [0, 2]) (.cons (.cst (.int .i64 2)) (.cons (.cst (.int .u64 151)) .nil))) .nil)))) (.done [(8, (.bv 1))] none)))))) h5_14)
@[simp] theorem h5_15_wp {P : Program} {F : PF P} {Q : EX → List Value → World → Prop} {env : List Value} {w : World} : h5_15.wp F Q env w = HC.wp F (.seq (.reg (.chk none (.build #[(.int .i64 0), (.int .i64 0), (.int .u64 0)] [(0, 1), (1, 1), (2, 1)] [0, 2]) (.cons (.cst (.int .i64 2)) (.cons (.cst (.int .u64 100)) .nil)) (.eff (.bsl 60 1 3 #[(.int .i64 0), (.int .i64 0), (.int .u64 0)] [0]) (.cons (.op (.build #[(.int .i64 0), (.int .i64 0), (.int .u64 0)] [(0, 1), (1, 1), (2, 1)] [0, 2]) (.cons (.cst (.int .i64 2)) (.cons (.cst (.int .u64 100)) .nil))) .nil) (.chk none (.build #[(.int .i64 0), (.int .i64 0), (.int .u64 0), (.int .u64 0), (.slice none 0 0)] [(0, 1), (1, 1), (2, 1), (3, 1), (4, 1)] [0, 2]) (.cons (.cst (.int .i64 2)) (.cons (.cst (.int .u64 151)) .nil)) (.eff (.call 13) (.cons (.inp 2) (.cons (.cst (.int .i64 7)) (.cons (.bv 0) (.cons (.op (.build #[(.int .i64 0), (.int .i64 0), (.int .u64 0), (.int .u64 0), (.slice none 0 0)] [(0, 1), (1, 1), (2, 1), (3, 1), (4, 1)] [0, 2]) (.cons (.cst (.int .i64 2)) (.cons (.cst (.int .u64 151)) .nil))) .nil)))) (.done [(8, (.bv 1))] none)))))) h5_14) Q env w := rfl
def h5_16 : HC := (.seq (.reg (.done [(0, (.cst (.bool false)))] none)) .ret)
@[simp] theorem h5_16_wp {P : Program} {F : PF P} {Q : EX → List Value → World → Prop} {env : List Value} {w : World} : h5_16.wp F Q env w = HC.wp F (.seq (.reg (.done [(0, (.cst (.bool false)))] none)) .ret) Q env w := rfl
def h5_17 : HC := (.seq (.br (.chk none (.cal 9) (.cons (.inp 7) .nil) (.chk none (.bin .neq) (.cons (.op (.cal 9) (.cons (.inp 7) .nil)) (.cons (.cst (.int .i64 0)) .nil)) (.bnd (.op (.bin .neq) (.cons (.op (.cal 9) (.cons (.inp 7) .nil)) (.cons (.cst (.int .i64 0)) .nil))) (.ite (.bv 0) false (.eff (.call 20) (.cons (.ite (.bv 0) false (.inp 2) (.cst (.tuple #[]))) (.cons (.cst (.int .i64 7)) .nil)) (.chk none (.bin .neq) (.cons (.bv 1) (.cons (.cst (.int .u64 100)) .nil)) (.isb none (.bv 0) (.bnd (.op (.bin .neq) (.cons (.bv 1) (.cons (.cst (.int .u64 100)) .nil))) (.ite (.bv 2) false (.eff (.call 27) (.cons (.ite (.bv 2) false (.inp 1) (.cst (.tuple #[]))) (.cons (.cst (.int .i64 1)) (.cons (.cst (.int .u64 0)) .nil))) (.chk none (.un .not) (.cons (.bv 3) .nil) (.isb none (.bv 2) (.done [] (some (.op (.un .not) (.cons (.bv 3) .nil))))))) (.isb none (.bv 2) (.done [] (some (.cst (.bool true)))))))))) (.isb none (.bv 0) (.isb none (.cst (.bool true)) (.done [] (some (.cst (.bool true)))))))))) h5_16 .skip) h5_15)
@[simp] theorem h5_17_wp {P : Program} {F : PF P} {Q : EX → List Value → World → Prop} {env : List Value} {w : World} : h5_17.wp F Q env w = HC.wp F (.seq (.br (.chk none (.cal 9) (.cons (.inp 7) .nil) (.chk none (.bin .neq) (.cons (.op (.cal 9) (.cons (.inp 7) .nil)) (.cons (.cst (.int .i64 0)) .nil)) (.bnd (.op (.bin .neq) (.cons (.op (.cal 9) (.cons (.inp 7) .nil)) (.cons (.cst (.int .i64 0)) .nil))) (.ite (.bv 0) false (.eff (.call 20) (.cons (.ite (.bv 0) false (.inp 2) (.cst (.tuple #[]))) (.cons (.cst (.int .i64 7)) .nil)) (.chk none (.bin .neq) (.cons (.bv 1) (.cons (.cst (.int .u64 100)) .nil)) (.isb none (.bv 0) (.bnd (.op (.bin .neq) (.cons (.bv 1) (.cons (.cst (.int .u64 100)) .nil))) (.ite (.bv 2) false (.eff (.call 27) (.cons (.ite (.bv 2) false (.inp 1) (.cst (.tuple #[]))) (.cons (.cst (.int .i64 1)) (.cons (.cst (.int .u64 0)) .nil))) (.chk none (.un .not) (.cons (.bv 3) .nil) (.isb none (.bv 2) (.done [] (some (.op (.un .not) (.cons (.bv 3) .nil))))))) (.isb none (.bv 2) (.done [] (some (.cst (.bool true)))))))))) (.isb none (.bv 0) (.isb none (.cst (.bool true)) (.done [] (some (.cst (.bool true)))))))))) h5_16 .skip) h5_15) Q env w := rfl
def h5_18 : HC := (.seq (.reg (.chk none (.build #[(.int .i64 0), (.int .i64 0), (.int .u64 0)] [(0, 1), (1, 1), (2, 1)] [0, 2]) (.cons (.cst (.int .i64 1)) (.cons (.cst (.int .u64 30)) .nil)) (.eff (.bsl 60 1 3 #[(.int .i64 0), (.int .i64 0), (.int .u64 0)] [0]) (.cons (.op (.build #[(.int .i64 0), (.int .i64 0), (.int .u64 0)] [(0, 1), (1, 1), (2, 1)] [0, 2]) (.cons (.cst (.int .i64 1)) (.cons (.cst (.int .u64 30)) .nil))) .nil) (.chk none (.build #[(.int .i64 0), (.int .i64 0), (.int .u64 0), (.int .u64 0), (.slice none 0 0)] [(0, 1), (1, 1), (2, 1), (3, 1), (4, 1)] [0, 2]) (.cons (.cst (.int .i64 1)) (.cons (.cst (.int .u64 100)) .nil)) (.eff (.call 13) (.cons (.inp 2) (.cons (.cst (.int .i64 7)) (.cons (.bv 0) (.cons (.op (.build #[(.int .i64 0), (.int .i64 0), (.int .u64 0), (.int .u64 0), (.slice none 0 0)] [(0, 1), (1, 1), (2, 1), (3, 1), (4, 1)] [0, 2]) (.cons (.cst (.int .i64 1)) (.cons (.cst (.int .u64 100)) .nil))) .nil)))) (.done [(7, (.bv 1))] none)))))) h5_17)
@[simp] theorem h5_18_wp {P : Program} {F : PF P} {Q : EX → List Value → World → Prop} {env : List Value} {w : World} : h5_18.wp F Q env w = HC.wp F (.seq (.reg (.chk none (.build #[(.int .i64 0), (.int .i64 0), (.int .u64 0)] [(0, 1), (1, 1), (2, 1)] [0, 2]) (.cons (.cst (.int .i64 1)) (.cons (.cst (.int .u64 30)) .nil)) (.eff (.bsl 60 1 3 #[(.int .i64 0), (.int .i64 0), (.int .u64 0)] [0]) (.cons (.op (.build #[(.int .i64 0), (.int .i64 0), (.int .u64 0)] [(0, 1), (1, 1), (2, 1)] [0, 2]) (.cons (.cst (.int .i64 1)) (.cons (.cst (.int .u64 30)) .nil))) .nil) (.chk none (.build #[(.int .i64 0), (.int .i64 0), (.int .u64 0), (.int .u64 0), (.slice none 0 0)] [(0, 1), (1, 1), (2, 1), (3, 1), (4, 1)] [0, 2]) (.cons (.cst (.int .i64 1)) (.cons (.cst (.int .u64 100)) .nil)) (.eff (.call 13) (.cons (.inp 2) (.cons (.cst (.int .i64 7)) (.cons (.bv 0) (.cons (.op (.build #[(.int .i64 0), (.int .i64 0), (.int .u64 0), (.int .u64 0), (.slice none 0 0)] [(0, 1), (1, 1), (2, 1), (3, 1), (4, 1)] [0, 2]) (.cons (.cst (.int .i64 1)) (.cons (.cst (.int .u64 100)) .nil))) .nil)))) (.done [(7, (.bv 1))] none)))))) h5_17) Q env w := rfl
def h5_19 : HC := (.seq (.reg (.done [(0, (.cst (.bool false)))] none)) .ret)
@[simp] theorem h5_19_wp {P : Program} {F : PF P} {Q : EX → List Value → World → Prop} {env : List Value} {w : World} : h5_19.wp F Q env w = HC.wp F (.seq (.reg (.done [(0, (.cst (.bool false)))] none)) .ret) Q env w := rfl
def h5_20 : HC := (.seq (.br (.chk none (.cal 9) (.cons (.inp 3) .nil) (.chk none (.bin .neq) (.cons (.op (.cal 9) (.cons (.inp 3) .nil)) (.cons (.cst (.int .i64 151)) .nil)) (.bnd (.op (.bin .neq) (.cons (.op (.cal 9) (.cons (.inp 3) .nil)) (.cons (.cst (.int .i64 151)) .nil))) (.chk (some ((.bv 0), false)) (.cal 9) (.cons (.inp 4) .nil) (.chk (some ((.bv 0), false)) (.bin .neq) (.cons (.op (.cal 9) (.cons (.inp 4) .nil)) (.cons (.cst (.int .i64 143)) .nil)) (.isb none (.bv 0) (.bnd (.ite (.bv 0) true (.cst (.bool true)) (.op (.bin .neq) (.cons (.op (.cal 9) (.cons (.inp 4) .nil)) (.cons (.cst (.int .i64 143)) .nil)))) (.chk (some ((.bv 1), false)) (.cal 9) (.cons (.inp 5) .nil) (.chk (some ((.bv 1), false)) (.bin .neq) (.cons (.op (.cal 9) (.cons (.inp 5) .nil)) (.cons (.cst (.int .i64 142)) .nil)) (.isb none (.bv 1) (.bnd (.ite (.bv 1) true (.cst (.bool true)) (.op (.bin .neq) (.cons (.op (.cal 9) (.cons (.inp 5) .nil)) (.cons (.cst (.int .i64 142)) .nil)))) (.chk (some ((.bv 2), false)) (.cal 9) (.cons (.inp 6) .nil) (.chk (some ((.bv 2), false)) (.bin .neq) (.cons (.op (.cal 9) (.cons (.inp 6) .nil)) (.cons (.cst (.int .i64 2)) .nil)) (.isb none (.bv 2) (.done [] (some (.ite (.bv 2) true (.cst (.bool true)) (.op (.bin .neq) (.cons (.op (.cal 9) (.cons (.inp 6) .nil)) (.cons (.cst (.int .i64 2)) .nil)))))))))))))))))))) h5_19 .skip) h5_18)
@[simp] theorem h5_20_wp {P : Program} {F : PF P} {Q : EX → List Value → World → Prop} {env : List Value} {w : World} : h5_20.wp F Q env w = HC.wp F (.seq (.br (.chk none (.cal 9) (.cons (.inp 3) .nil) (.chk none (.bin .neq) (.cons (.op (.cal 9) (.cons (.inp 3) .nil)) (.cons (.cst (.int .i64 151)) .nil)) (.bnd (.op (.bin .neq) (.cons (.op (.cal 9) (.cons (.inp 3) .nil)) (.cons (.cst (.int .i64 151)) .nil))) (.chk (some ((.bv 0), false)) (.cal 9) (.cons (.inp 4) .nil) (.chk (some ((.bv 0), false)) (.bin .neq) (.cons (.op (.cal 9) (.cons (.inp 4) .nil)) (.cons (.cst (.int .i64 143)) .nil)) (.isb none (.bv 0) (.bnd (.ite (.bv 0) true (.cst (.bool true)) (.op (.bin .neq) (.cons (.op (.cal 9) (.cons (.inp 4) .nil)) (.cons (.cst (.int .i64 143)) .nil)))) (.chk (some ((.bv 1), false)) (.cal 9) (.cons (.inp 5) .nil) (.chk (some ((.bv 1), false)) (.bin .neq) (.cons (.op (.cal 9) (.cons (.inp 5) .nil)) (.cons (.cst (.int .i64 142)) .nil)) (.isb none (.bv 1) (.bnd (.ite (.bv 1) true (.cst (.bool true)) (.op (.bin .neq) (.cons (.op (.cal 9) (.cons (.inp 5) .nil)) (.cons (.cst (.int .i64 142)) .nil)))) (.chk (some ((.bv 2), false)) (.cal 9) (.cons (.inp 6) .nil) (.chk (some ((.bv 2), false)) (.bin .neq) (.cons (.op (.cal 9) (.cons (.inp 6) .nil)) (.cons (.cst (.int .i64 2)) .nil)) (.isb none (.bv 2) (.done [] (some (.ite (.bv 2) true (.cst (.bool true)) (.op (.bin .neq) (.cons (.op (.cal 9) (.cons (.inp 6) .nil)) (.cons (.cst (.int .i64 2)) .nil)))))))))))))))))))) h5_19 .skip) h5_18) Q env w := rfl
def h5_21 : HC := (.seq (.reg (.chk none (.build #[(.int .i64 0), (.int .i64 0), (.int .u64 0), (.int .u64 0), (.slice none 0 0)] [(0, 1), (1, 1), (2, 1), (3, 1), (4, 1)] [0]) (.cons (.cst (.int .i64 1)) .nil) (.eff (.call 14) (.cons (.inp 2) (.cons (.cst (.int .i64 0)) (.cons (.op (.build #[(.int .i64 0), (.int .i64 0), (.int .u64 0), (.int .u64 0), (.slice none 0 0)] [(0, 1), (1, 1), (2, 1), (3, 1), (4, 1)] [0]) (.cons (.cst (.int .i64 1)) .nil)) .nil))) (.done [(6, (.bv 0))] none)))) h5_20)
@[simp] theorem h5_21_wp {P : Program} {F : PF P} {Q : EX → List Value → World → Prop} {env : List Value} {w : World} : h5_21.wp F Q env w = HC.wp F (.seq (.reg (.chk none (.build #[(.int .i64 0), (.int .i64 0), (.int .u64 0), (.int .u64 0), (.slice none 0 0)] [(0, 1), (1, 1), (2, 1), (3, 1), (4, 1)] [0]) (.cons (.cst (.int .i64 1)) .nil) (.eff (.call 14) (.cons (.inp 2) (.cons (.cst (.int .i64 0)) (.cons (.op (.build #[(.int .i64 0), (.int .i64 0), (.int .u64 0), (.int .u64 0), (.slice none 0 0)] [(0, 1), (1, 1), (2, 1), (3, 1), (4, 1)] [0]) (.cons (.cst (.int .i64 1)) .nil)) .nil))) (.done [(6, (.bv 0))] none)))) h5_20) Q env w := rfl
def h5_22 : HC := (.seq (.reg (.chk none (.build #[(.int .i64 0), (.int .i64 0), (.int .u64 0), (.int .u64 0), (.slice none 0 0)] [(0, 1), (1, 1), (2, 1), (3, 1), (4, 1)] [0]) (.cons (.cst (.int .i64 3)) .nil) (.eff (.call 14) (.cons (.inp 2) (.cons (.cst (.int .i64 7)) (.cons (.op (.build #[(.int .i64 0), (.int .i64 0), (.int .u64 0), (.int .u64 0), (.slice none 0 0)] [(0, 1), (1, 1), (2, 1), (3, 1), (4, 1)] [0]) (.cons (.cst (.int .i64 3)) .nil)) .nil))) (.done [(5, (.bv 0))] none)))) h5_21)
@[simp] theorem h5_22_wp {P : Program} {F : PF P} {Q : EX → List Value → World → Prop} {env : List Value} {w : World} : h5_22.wp F Q env w = HC.wp F (.seq (.reg (.chk none (.build #[(.int .i64 0), (.int .i64 0), (.int .u64 0), (.int .u64 0), (.slice none 0 0)] [(0, 1), (1, 1), (2, 1), (3, 1), (4, 1)] [0]) (.cons (.cst (.int .i64 3)) .nil) (.eff (.call 14) (.cons (.inp 2) (.cons (.cst (.int .i64 7)) (.cons (.op (.build #[(.int .i64 0), (.int .i64 0), (.int .u64 0), (.int .u64 0), (.slice none 0 0)] [(0, 1), (1, 1), (2, 1), (3, 1), (4, 1)] [0]) (.cons (.cst (.int .i64 3)) .nil)) .nil))) (.done [(5, (.bv 0))] none)))) h5_21) Q env w := rfl
def h5_23 : HC := (.seq (.reg (.chk none (.build #[(.int .i64 0), (.int .i64 0), (.int .u64 0), (.int .u64 0), (.slice none 0 0)] [(0, 1), (1, 1), (2, 1), (3, 1), (4, 1)] [0, 2]) (.cons (.cst (.int .i64 2)) (.cons (.cst (.int .u64 51)) .nil)) (.eff (.call 14) (.cons (.inp 2) (.cons (.cst (.int .i64 7)) (.cons (.op (.build #[(.int .i64 0), (.int .i64 0), (.int .u64 0), (.int .u64 0), (.slice none 0 0)] [(0, 1), (1, 1), (2, 1), (3, 1), (4, 1)] [0, 2]) (.cons (.cst (.int .i64 2)) (.cons (.cst (.int .u64 51)) .nil))) .nil))) (.done [(4, (.bv 0))] none)))) h5_22)
@[simp] theorem h5_23_wp {P : Program} {F : PF P} {Q : EX → List Value → World → Prop} {env : List Value} {w : World} : h5_23.wp F Q env w = HC.wp F (.seq (.reg (.chk none (.build #[(.int .i64 0), (.int .i64 0), (.int .u64 0), (.int .u64 0), (.slice none 0 0)] [(0, 1), (1, 1), (2, 1), (3, 1), (4, 1)] [0, 2]) (.cons (.cst (.int .i64 2)) (.cons (.cst (.int .u64 51)) .nil)) (.eff (.call 14) (.cons (.inp 2) (.cons (.cst (.int .i64 7)) (.cons (.op (.build #[(.int .i64 0), (.int .i64 0), (.int .u64 0), (.int .u64 0), (.slice none 0 0)] [(0, 1), (1, 1), (2, 1), (3, 1), (4, 1)] [0, 2]) (.cons (.cst (.int .i64 2)) (.cons (.cst (.int .u64 51)) .nil))) .nil))) (.done [(4, (.bv 0))] none)))) h5_22) Q env w := rfl
def h5_24 : HC := (.seq (.reg (.chk none (.build #[(.int .i64 0), (.int .i64 0), (.int .u64 0), (.int .u64 0), (.slice none 0 0)] [(0, 1), (1, 1), (2, 1), (3, 1), (4, 1)] [0, 1]) (.cons (.cst (.int .i64 1)) (.cons (.cst (.int .i64 1)) .nil)) (.eff (.call 14) (.cons (.inp 2) (.cons (.cst (.int .i64 7)) (.cons (.op (.build #[(.int .i64 0), (.int .i64 0), (.int .u64 0), (.int .u64 0), (.slice none 0 0)] [(0, 1), (1, 1), (2, 1), (3, 1), (4, 1)] [0, 1]) (.cons (.cst (.int .i64 1)) (.cons (.cst (.int .i64 1)) .nil))) .nil))) (.done [(3, (.bv 0))] none)))) h5_23)
@[simp] theorem h5_24_wp {P : Program} {F : PF P} {Q : EX → List Value → World → Prop} {env : List Value} {w : World} : h5_24.wp F Q env w = HC.wp F (.seq (.reg (.chk none (.build #[(.int .i64 0), (.int .i64 0), (.int .u64 0), (.int .u64 0), (.slice none 0 0)] [(0, 1), (1, 1), (2, 1), (3, 1), (4, 1)] [0, 1]) (.cons (.cst (.int .i64 1)) (.cons (.cst (.int .i64 1)) .nil)) (.eff (.call 14) (.cons (.inp 2) (.cons (.cst (.int .i64 7)) (.cons (.op (.build #[(.int .i64 0), (.int .i64 0), (.int .u64 0), (.int .u64 0), (.slice none 0 0)] [(0, 1), (1, 1), (2, 1), (3, 1), (4, 1)] [0, 1]) (.cons (.cst (.int .i64 1)) (.cons (.cst (.int .i64 1)) .nil))) .nil))) (.done [(3, (.bv 0))] none)))) h5_23) Q env w := rfl
def h5_25 : HC := (.seq (.reg (.chk none (.build #[(.int .i64 0), (.int .i64 0), (.int .u64 0), (.int .u64 0), (.slice none 0 0)] [(0, 1), (1, 1), (2, 1), (3, 1), (4, 1)] [0, 1, 2]) (.cons (.cst (.int .i64 1)) (.cons (.cst (.int .i64 1)) (.cons (.cst (.int .u64 30)) .nil))) (.eff (.call 14) (.cons (.inp 2) (.cons (.cst (.int .i64 7)) (.cons (.op (.build #[(.int .i64 0), (.int .i64 0), (.int .u64 0), (.int .u64 0), (.slice none 0 0)] [(0, 1), (1, 1), (2, 1), (3, 1), (4, 1)] [0, 1, 2]) (.cons (.cst (.int .i64 1)) (.cons (.cst (.int .i64 1)) (.cons (.cst (.int .u64 30)) .nil)))) .nil))) (.done [] none)))) h5_24)
@[simp] theorem h5_25_wp {P : Program} {F : PF P} {Q : EX → List Value → World → Prop} {env : List Value} {w : World} : h5_25.wp F Q env w = HC.wp F (.seq (.reg (.chk none (.build #[(.int .i64 0), (.int .i64 0), (.int .u64 0), (.int .u64 0), (.slice none 0 0)] [(0, 1), (1, 1), (2, 1), (3, 1), (4, 1)] [0, 1, 2]) (.cons (.cst (.int .i64 1)) (.cons (.cst (.int .i64 1)) (.cons (.cst (.int .u64 30)) .nil))) (.eff (.call 14) (.cons (.inp 2) (.cons (.cst (.int .i64 7)) (.cons (.op (.build #[(.int .i64 0), (.int .i64 0), (.int .u64 0), (.int .u64 0), (.slice none 0 0)] [(0, 1), (1, 1), (2, 1), (3, 1), (4, 1)] [0, 1, 2]) (.cons (.cst (.int .i64 1)) (.cons (.cst (.int .i64 1)) (.cons (.cst (.int .u64 30)) .nil)))) .nil))) (.done [] none)))) h5_24) Q env w := rfl
def h5_26 : HC := (.seq (.reg (.done [(0, (.cst (.bool false)))] none)) .ret)
@[simp] theorem h5_26_wp {P : Program} {F : PF P} {Q : EX → List Value → World → Prop} {env : List Value} {w : World} : h5_26.wp F Q env w = HC.wp F (.seq (.reg (.done [(0, (.cst (.bool false)))] none)) .ret) Q env w := rfl
def h5_27 : HC := (.seq (.br (.eff (.call 6) .nil (.chk none (.un .not) (.cons (.bv 0) .nil) (.bnd (.op (.un .not) (.cons (.bv 0) .nil)) (.chk (some ((.bv 1), false)) (.eqNil false (.pointer 95) (.pointer none)) (.cons (.inp 2) .nil) (.isb none (.bv 1) (.done [] (some (.ite (.bv 1) true (.cst (.bool true)) (.op (.eqNil false (.pointer 95) (.pointer none)) (.cons (.inp 2) .nil)))))))))) h5_26 .skip) h5_25)
@[simp] theorem h5_27_wp {P : Program} {F : PF P} {Q : EX → List Value → World → Prop} {env : List Value} {w : World} : h5_27.wp F Q env w = HC.wp F (.seq (.br (.eff (.call 6) .nil (.chk none (.un .not) (.cons (.bv 0) .nil) (.bnd (.op (.un .not) (.cons (.bv 0) .nil)) (.chk (some ((.bv 1), false)) (.eqNil false (.pointer 95) (.pointer none)) (.cons (.inp 2) .nil) (.isb none (.bv 1) (.done [] (some (.ite (.bv 1) true (.cst (.bool true)) (.op (.eqNil false (.pointer 95) (.pointer none)) (.cons (.inp 2) .nil)))))))))) h5_26 .skip) h5_25) Q env w := rfl
def h5_28 : HC := (.seq (.reg (.eff (.call 26) .nil (.chk none (.ext 0) (.cons (.bv 0) .nil) (.chk none (.ext 1) (.cons (.bv 0) .nil) (.chk none (.ext 2) (.cons (.bv 0) .nil) (.done [(1, (.op (.ext 0) (.cons (.bv 0) .nil))), (2, (.op (.ext 2) (.cons (.bv 0) .nil)))] none)))))) h5_27)
@[simp] theorem h5_28_wp {P : Program} {F : PF P} {Q : EX → List Value → World → Prop} {env : List Value} {w : World} : h5_28.wp F Q env w = HC.wp F (.seq (.reg (.eff (.call 26) .nil (.chk none (.ext 0) (.cons (.bv 0) .nil) (.chk none (.ext 1) (.cons (.bv 0) .nil) (.chk none (.ext 2) (.cons (.bv 0) .nil) (.done [(1, (.op (.ext 0) (.cons (.bv 0) .nil))), (2, (.op (.ext 2) (.cons (.bv 0) .nil)))] none)))))) h5_27) Q env w := rfl
def l5 : Lifted := ⟨[0, 1, 3, 4, 5, 6, 7, 8, 9, 10, 11, 12, 13, 14, 15, 16, 17, 18, 19, 20, 21], 231, [.slot 0], (.seq (.reg (.done [(0, (.cst (.bool false)))] none)) h5_28)⟩
theorem l5_ok : liftFn E2 5 400 = some l5 := by kernel_rfl


set_option maxHeartbeats 4000000 in
theorem known_rest (p g s : Nat) (w0 w : World) (A : Asn) (o0 o3 o4 o5 o6 o7 o8 o9 o10 o11 o12 o13 o14 o15 o16 o17 o18 o19 o20 : Value) (h0 : w0.drawn = 0) (h : St w0 (A * ecoA p g s 9 EB) w) :
    HC.wp E2 h5_12 (endQ Try.prog [.slot 0] (fun r w' => r = .bool true ∧ St w0 A w'))
      [o0, .pointer (some ⟨p, 0, none⟩), .pointer (some ⟨s, 0, none⟩), o3, o4, o5, o6, o7, o8, o9, o10, o11, o12, o13, o14, o15, o16, o17, o18, o19, o20] w := by
  simp [Instr.fill, Value.cells]
  refine eff_gifts (gs := [⟨2, 1, 0⟩]) h rfl rfl rfl (by decide) fun gv w1 g1 => ?_
  simp [Instr.fill, Value.cells]
  have g1' : St w0 (A * own 60 3 gv 1 (gflat [⟨2, 1, 0⟩]) * ecoA p g s 9 EB) w1 := St.swap g1
  refine eff_call ((End_spec p g s 3 9 7 [⟨2, 1, 0⟩] gv EB w0 w1 _ eb_ei (by decide) (by decide) (by decide) (row_own g1'.drop) g1').mono ?_)
  rintro r v1 ⟨rfl, q1⟩
  rw [st_g] at q1 ⊢
  simp [Instr.fill, Value.cells]
  have q1 : St w0 (A * ecoA p g s 9 EB) v1 := q1.swap.drop
  refine eff_gifts (gs := [⟨2, 1, 0⟩, ⟨1, 0, 101⟩]) q1 rfl rfl rfl (by decide) fun gv w2 g2 => ?_
  simp [Instr.fill, Value.cells]
  have g2' : St w0 (A * own 60 3 gv 2 (gflat [⟨2, 1, 0⟩, ⟨1, 0, 101⟩]) * ecoA p g s 9 EB) w2 := St.swap g2
  refine eff_call ((End_spec p g s 3 9 7 [⟨2, 1, 0⟩, ⟨1, 0, 101⟩] gv EB w0 w2 _ eb_ei (by decide) (by decide) (by decide) (row_own g2'.drop) g2').mono ?_)
  rintro r v2 ⟨rfl, q2⟩
  rw [st_h] at q2 ⊢
  simp [Instr.fill, Value.cells]
  have q2 : St w0 (A * ecoA p g s 9 EB) v2 := q2.swap.drop
  refine eff_gifts (gs := [⟨1, 2, 0⟩]) q2 rfl rfl rfl (by decide) fun gv w3 g3 => ?_
  simp [Instr.fill, Value.cells]
  have g3' : St w0 (A * own 60 3 gv 1 (gflat [⟨1, 2, 0⟩]) * ecoA p g s 9 EB) w3 := St.swap g3
  refine eff_call ((End_spec p g s 3 9 7 [⟨1, 2, 0⟩] gv EB w0 w3 _ eb_ei (by decide) (by decide) (by decide) (row_own g3'.drop) g3').mono ?_)
  rintro r v3 ⟨rfl, q3⟩
  rw [st_i] at q3 ⊢
  simp [Instr.fill, Value.cells]
  have q3 : St w0 (A * ecoA p g s 9 EB) v3 := q3.swap.drop
  refine eff_gifts (gs := [⟨2, 1, 0⟩, ⟨1, 0, 60⟩, ⟨2, 0, 40⟩]) q3 rfl rfl rfl (by decide) fun gv w4 g4 => ?_
  simp [Instr.fill, Value.cells]
  have g4' : St w0 (A * own 60 3 gv 3 (gflat [⟨2, 1, 0⟩, ⟨1, 0, 60⟩, ⟨2, 0, 40⟩]) * ecoA p g s 9 EB) w4 := St.swap g4
  refine eff_call ((End_spec p g s 3 9 7 [⟨2, 1, 0⟩, ⟨1, 0, 60⟩, ⟨2, 0, 40⟩] gv EB w0 w4 _ eb_ei (by decide) (by decide) (by decide) (row_own g4'.drop) g4').mono ?_)
  rintro r v4 ⟨rfl, q4⟩
  rw [st_j] at q4 ⊢
  simp [Instr.fill, Value.cells]
  have q4 : St w0 (A * ecoA p g s 9 EC) v4 := q4.swap.drop
  have s1 : St w0 (A * Pu.pur p EC.P * Gd.gds g 9 EC.its * esc s p g EC.l) v4 := q4.to (by simp only [ecoA]; ac_rfl)
  refine eff_call ((Rows_spec s p g EC.l w0 v4 _ h0 ec_ei.R (by decide) s1).mono ?_)
  intro rv w20 s2
  obtain ⟨ra, rcap, rfl, _⟩ := s2.own_val
  rw [show EC.l.length = 0 by rfl]
  simp
  have s3 : St w0 (A * ecoA p g s 9 EC) w20 := s2.drop.to (by simp only [ecoA]; ac_rfl)
  refine eff_call ((Items_spec p g s 3 9 7 EC w0 w20 A ec_ei s3).mono ?_)
  intro iv w21 s4
  obtain ⟨ia, icap, rfl, _⟩ := s4.own_val
  rw [show (Gd.inF EC.its 7).length = 0 by decide]
  simp
  have s5 : St w0 (A * Gd.gds g 9 EC.its * esc s p g EC.l * Pu.pur p EC.P) w21 := s4.drop.to (by simp only [ecoA]; ac_rfl)
  refine eff_call ((Pu.Held_spec p EC.P w0 w21 _ s5).mono ?_)
  rintro r w22 ⟨rfl, s6⟩
  rw [show EC.P.held = 0 by rfl]
  simp
  refine eff_call ((has_spec p EC.P 1 60 w0 w22 _ (by decide) s6).mono ?_)
  rintro r w23 ⟨rfl, s7⟩
  rw [show decide ((Pu.getF EC.P 1).2 = 0 ∧ (Pu.getF EC.P 1).1.coins = 60) = true by decide +kernel]
  simp
  refine eff_call ((has_spec p EC.P 2 90 w0 w23 _ (by decide) s7).mono ?_)
  rintro r w24 ⟨rfl, s8⟩
  rw [show decide ((Pu.getF EC.P 2).2 = 0 ∧ (Pu.getF EC.P 2).1.coins = 90) = true by decide +kernel]
  simp
  have sA : St w0 A w24 := s8.drop.drop.drop
  refine eff_call ((New_nil w24).mono ?_)
  rintro r w25 ⟨rfl, rfl⟩
  simp
  refine eff_call ((Load_nil _ _ w25).mono ?_)
  rintro r w26 ⟨rfl, rfl⟩
  simp [Instr.fill, Value.cells]
  refine eff_call ((Put_nil 1 0 ⟨0, 0, 0⟩ (.slice none 0 0) w0 w26 A sA).mono ?_)
  rintro r w27 ⟨rfl, sB⟩
  simp [Instr.fill, Value.cells]
  refine eff_call ((Turn_nil 0 _ _ w0 w27 A sB).mono ?_)
  rintro r w28 ⟨rfl, sC⟩
  simp
  refine eff_call ((End_nil 0 _ w0 w28 A sC).mono ?_)
  rintro r w29 ⟨rfl, sD⟩
  simp
  refine eff_call ((Coins_nil 1 w29).mono ?_)
  rintro r w30 ⟨rfl, rfl⟩
  simp
  refine eff_call ((Items_nil 1 w30).mono ?_)
  rintro r w31 ⟨rfl, rfl⟩
  simp
  refine eff_call ((Rows_nil w31).mono ?_)
  rintro r w32 ⟨rfl, rfl⟩
  simp
  exact sD
set_option maxHeartbeats 4000000 in
theorem known_walk (w0 w : World) (A : Asn) (h0 : w0.drawn = 0) (h : St w0 A w) : CallW Try.prog 5 [] (fun r w' => r = .bool true ∧ St w0 A w') w := by
  refine callW_of_lift l5_ok (by simp [l5]) ?_
  simp [l5]
  refine eff_call ((given_spec w0 w A h).mono ?_)
  rintro r w1 ⟨p, g, s, rfl, h1⟩
  simp
  refine eff_call ((awake_spec w0 w1 _ h1).mono ?_)
  rintro r w2 ⟨rfl, h2⟩
  simp [Instr.fill, Value.cells]
  refine eff_call ((Put_spec p g s 3 9 7 0 ent1 (.slice none 0 0) EG w0 w2 A eg_ei (by decide) (by decide) h2).mono ?_)
  rintro r w3 ⟨rfl, h3⟩
  rw [put_ea] at h3 ⊢
  simp [Instr.fill, Value.cells]
  refine eff_call ((Put_spec p g s 3 9 7 0 ⟨1, 1, 0⟩ (.slice none 0 0) EA w0 w3 A ea_ei (by decide) (by decide) h3).mono ?_)
  rintro r w4 ⟨rfl, h4⟩
  rw [st_a] at h4 ⊢
  simp [Instr.fill, Value.cells]
  refine eff_call ((Put_spec p g s 3 9 7 0 ⟨2, 0, 51⟩ (.slice none 0 0) EA w0 w4 A ea_ei (by decide) (by decide) h4).mono ?_)
  rintro r w5 ⟨rfl, h5⟩
  rw [st_b] at h5 ⊢
  simp [Instr.fill, Value.cells]
  refine eff_call ((Put_spec p g s 3 9 7 0 ⟨3, 0, 0⟩ (.slice none 0 0) EA w0 w5 A ea_ei (by decide) (by decide) h5).mono ?_)
  rintro r w6 ⟨rfl, h6⟩
  rw [st_c] at h6 ⊢
  simp [Instr.fill, Value.cells]
  refine eff_call ((Put_spec p g s 3 9 0 0 ⟨1, 0, 0⟩ (.slice none 0 0) EA w0 w6 A ea_ei (by decide) (by decide) h6).mono ?_)
  rintro r w7 ⟨rfl, h7⟩
  rw [st_d] at h7 ⊢
  simp [Instr.fill, Value.cells]
  refine eff_gifts (gs := [⟨1, 0, 30⟩]) h7 rfl rfl rfl (by decide) fun gv w10 g10 => ?_
  simp [Instr.fill, Value.cells]
  have g10' : St w0 (A * own 60 3 gv 1 (gflat [⟨1, 0, 30⟩]) * ecoA p g s 9 EA) w10 := St.swap g10
  refine eff_call ((Turn_spec p g s 3 9 7 0 [⟨1, 0, 30⟩] gv ⟨1, 0, 100⟩ (.slice none 0 0) EA w0 w10 _ ea_ei (by decide) (by decide) (by decide) (by decide) (row_own g10'.drop) g10').mono ?_)
  rintro r v10 ⟨rfl, q10⟩
  rw [st_e] at q10 ⊢
  simp
  have e1 : St w0 (A * Pu.pur p EB.P * Gd.gds g 9 EB.its * esc s p g EB.l) v10 := q10.swap.drop.to (by simp only [ecoA]; ac_rfl)
  refine eff_call ((Coins_spec s p g EB.l 7 w0 v10 _ eb_ei.R e1).mono ?_)
  rintro r v11 ⟨rfl, rfl⟩
  rw [show cns EB.l 7 = 100 by decide]
  simp
  refine eff_call ((has_spec p EB.P 1 0 w0 v11 (A * Gd.gds g 9 EB.its * esc s p g EB.l) (by decide) (e1.to (by ac_rfl))).mono ?_)
  rintro r v12 ⟨rfl, e2⟩
  rw [show decide ((Pu.getF EB.P 1).2 = 0 ∧ (Pu.getF EB.P 1).1.coins = 0) = true by decide +kernel]
  simp [Instr.fill, Value.cells]
  have e3 : St w0 (A * ecoA p g s 9 EB) v12 := e2.to (by simp only [ecoA]; ac_rfl)
  refine eff_gifts (gs := [⟨2, 0, 100⟩]) e3 rfl rfl rfl (by decide) fun gv w13 g13 => ?_
  simp [Instr.fill, Value.cells]
  have g13' : St w0 (A * own 60 3 gv 1 (gflat [⟨2, 0, 100⟩]) * ecoA p g s 9 EB) w13 := St.swap g13
  refine eff_call ((Turn_spec p g s 3 9 7 0 [⟨2, 0, 100⟩] gv ⟨2, 0, 151⟩ (.slice none 0 0) EB w0 w13 _ eb_ei (by decide) (by decide) (by decide) (by decide) (row_own g13'.drop) g13').mono ?_)
  rintro r v13 ⟨rfl, q13⟩
  rw [st_f] at q13 ⊢
  simp
  have e4 : St w0 (A * Pu.pur p EB.P * Gd.gds g 9 EB.its * esc s p g EB.l) v13 := q13.swap.drop.to (by simp only [ecoA]; ac_rfl)
  refine eff_call ((Coins_spec s p g EB.l 7 w0 v13 _ eb_ei.R e4).mono ?_)
  rintro r v14 ⟨rfl, rfl⟩
  rw [show cns EB.l 7 = 100 by decide]
  simp
  refine eff_call ((has_spec p EB.P 2 50 w0 v14 (A * Gd.gds g 9 EB.its * esc s p g EB.l) (by decide) (e4.to (by ac_rfl))).mono ?_)
  rintro r v15 ⟨rfl, e5⟩
  rw [show decide ((Pu.getF EB.P 2).2 = 0 ∧ (Pu.getF EB.P 2).1.coins = 50) = true by decide +kernel]
  simp [Instr.fill, Value.cells]
  have e6 : St w0 (A * ecoA p g s 9 EB) v15 := e5.to (by simp only [ecoA]; ac_rfl)
  have := known_rest p g s w0 v15 A (.bool false) (.int .i64 151) (.int .i64 143) (.int .i64 142) (.int .i64 2) (.int .i64 0) (.int .i64 143) undef undef undef undef undef undef undef undef undef undef undef undef h0 e6
  simpa [Instr.fill, Value.cells] using this
end Go.HL.Es

namespace Go.HL
open Go.HL
/-- a world that has drawn nothing -/
def World.fresh (W : World) : World := { W with drawn := 0 }
theorem St.start0 (W : World) : St (World.fresh W) (old W) W := ⟨rfl, rfl, Nat.le_refl _, ⟨rfl, Nat.zero_le _⟩, _, fun b o h => h, rfl⟩
theorem St.kept0 {w0 w : World} (s : St (World.fresh w0) (old w0) w) (may : MemPlace → Prop) : w0.keptBut w may := by
  suffices hk : w0.keptBut w (fun _ => False) from World.keptBut_mono (fun _ f => f.elim) hk
  refine ⟨s.os, s.out, fun i hi => ?_⟩
  have h0 : w0.heap[i]? = some w0.heap[i] := by simp [hi]
  rw [s.lookOld0 h0, h0]
  generalize w0.heap[i] = o
  cases o <;> simp
theorem St.frz0 {w0 w : World} (s : St (World.fresh w0) (old w0) w) {a : Addr} (h : a.block < w0.heap.size) : w.frozen? a = w0.frozen? a := by
  unfold World.frozen?
  have h0 : w0.heap[a.block]? = some w0.heap[a.block] := by simp [h]
  rw [s.lookOld0 h0, h0]
theorem St.same0 {w0 w : World} (s : St (World.fresh w0) (old w0) w) {p : MemPlace} (hb : p.block < w0.heap.size) : w0.sameAt w p := by
  have h0 : w0.heap[p.block]? = some w0.heap[p.block] := by simp [hb]
  have h1 : w.heap[p.block]? = w0.heap[p.block]? := by rw [s.lookOld0 h0, h0]
  cases p with
  | cell b o =>
    simp only [MemPlace.block] at h1
    show w.cell? ⟨b, o, none⟩ = w0.cell? ⟨b, o, none⟩
    unfold World.cell?
    simp only [h1]
  | map b => exact h1
open Go.WideShapes Go.ChangeShapes in
theorem post_of_old0 {H : Type} {enc : TypeId × Value → H} {P : Program} {f : Func} {s : ChangeSpec} {apart fresh handsOn again : Bool} {W W' : World} (hst : St (World.fresh W) (old W) W') {args : Array Value} {v : Value} {ds gs : List (DataW H)} {before pa pv : List MemPlace}
    (hW : DataW.Whole enc P f.params.toList s.vars apart W args.toList ds gs before)
    (hres : ∀ (b : Nat) (sp : Nat → Bool) (hd : Bool), DataW.TrodAll enc P W' b sp hd f.resultTypes.toList (v.resultList f.resultTypes.size) (s.fn H (ds ++ gs)).results [])
    (hargs : ∀ sp : Nat → Bool, (∀ p ∈ before, sp p.block = true) → DataW.TrodAll enc P W' 0 sp true f.params.toList args.toList (s.fn H (ds ++ gs)).args pa)
    (hvars : ∀ sp : Nat → Bool, (∀ p ∈ before, sp p.block = true) → DataW.TrodVars enc P W' sp s.vars (s.fn H (ds ++ gs)).vars pv)
    (hps : before = pa ++ pv)
    (hok : ∀ (j : Nat) (t : TypeId) (r : Value), f.resultTypes[j]? = some t → (v.resultList f.resultTypes.size)[j]? = some r → Value.okWide P W' .any 0 t r) :
    s.post enc P f apart fresh handsOn again W args v W' := by
  have hlt := hW.lt
  have hold : ∀ p ∈ before, (fun b => decide (b < W.heap.size)) p.block = true := fun p hp => by simpa using hlt p hp
  refine ⟨ds, gs, before, [], pa, pv, hW, hres _ _ _, hargs _ hold, hvars _ hold, hst.kept0 _, fun _ => ?_⟩
  obtain ⟨_, _, _, _, _, hz, hn⟩ := hW
  refine ⟨hok, _, _, ([] ++ pa) ++ pv, ⟨[] ++ pa, pv, trodAll_append (hargs _ (fun _ _ => rfl)) (hres _ _ _), hvars _ (fun _ _ => rfl), rfl, ?_, ?_⟩, ?_⟩
  · intro b off hp
    have hp' : MemPlace.cell b off ∈ before := by rw [hps]; simpa using hp
    rw [hst.frz0 (hlt _ hp')]
    exact hz b off hp'
  · intro ha
    have := hn ha
    rw [hps] at this
    simpa using this
  · intro p hp _
    rw [hps]
    simpa using hp
end Go.HL

namespace Go.Proofs.Ytiokklaedanjbaa.escrowKnown
open Go.ChangeShapes Go.WideShapes Go.ChangeAt Go.RowKit Go.WideMaps Go.WideElems
open Go.ChangeMaps (open_string shut_string)
set_option linter.unusedVariables false

theorem own : ownKnob Try.prog.godebug = none := by kernel_rfl

theorem keeps : Go.HL.keepB Try.prog [27, 3, 23, 22, 76, 9, 24, 72, 25, 100, 28, 46, 44] = true := by kernel_rfl

set_option maxRecDepth 10000 in
theorem contract (H : Type) (enc : TypeId × Value → H) (W : World) (base : Nat) (args : Array Value) (ds gs : List (DataW H)) (before : List MemPlace)
    (hval : ∀ (j : Nat) t v, Try.f5.params[j]? = some t → args[j]? = some v → Value.okWide Try.prog W .any base t v)
    (hW : DataW.Whole enc Try.prog Try.f5.params.toList Rows.escrowKnownSpec.vars false W args.toList ds gs before) (hk : Rows.uptoSmall H (ds ++ gs) = true) :
    Calls Try.prog 5 args W fun e W' => ∃ v, e = .returned v ∧ Rows.escrowKnownSpec.post enc Try.prog Try.f5 false true false false W args v W' := by
  have hW' := hW
  have hlt := hW.lt
  obtain ⟨p, q, hA0, hV, rfl, hfz, hnd⟩ := hW
  have hA : DataW.TrodAll enc Try.prog W 0 (fun _ => true) true Try.f5.params.toList args.toList ds p := hA0
  have hA1 := hA
  rw [Try.params5] at hA hval
  obtain ⟨hargs, rfl, rfl⟩ := trodAll_nil hA
  obtain rfl : args = #[] := by cases args; simp_all
  obtain ⟨rfl, rfl⟩ := trodVars_none hV
  simp only [List.append_nil, List.nil_append] at hW' hlt hA1
  have hb := Go.HL.bulk_bound hk
  simp only [List.append_nil, Rows.uptoBulkAll, Go.HL.bulk_string] at hb
  have hwalk := Go.HL.Es.known_walk (Go.HL.World.fresh W) W (Go.HL.old W) rfl (Go.HL.St.start0 W)
  refine Calls.mono hwalk fun e W' ⟨v, he, hv, hst⟩ => ?_
  subst hv
  refine ⟨_, he, Go.HL.post_of_old0 hst (pv := []) hW' (fun _ _ _ => (trodAll_cons_mk (shut_bool Try.underlying4 _) trodAll_mk0))
    (fun sp hsp => Go.HL.trodAll_keep keeps (by decide) hA1 (fun x hx => hst.same0 (hlt x hx)) hsp) (fun _ _ => rfl) (by simp)
    (ok_one (by kernel_rfl) rfl (okWide_bool_mk Try.underlying4 _))⟩

set_option maxRecDepth 100000 in
theorem lifted (os : Os) (started : os.Started) (H : Type) (enc : TypeId × Value → H) (F : Stop.Interp) :
    ReturnsInHanded {} Try.checked os 5 .any ((Rows.OpenSpec.upto Rows.escrowKnownSpec).pre6 enc Try.prog Try.f5 Rows.escrowKnownUptoRow.domain false) (((Rows.OpenSpec.upto Rows.escrowKnownSpec).at F).post enc Try.prog Try.f5 false true false false) := by
  refine returnsInHanded_of_cond (C := Try.checked) (s := Rows.OpenSpec.upto Rows.escrowKnownSpec) (k := Rows.uptoSmall) rfl own started (by kernel_rfl) Try.func5
    (OpenSpec.witness (enc := enc) (C := Try.checked) (s := Rows.OpenSpec.upto Rows.escrowKnownSpec) (k := Rows.uptoSmall) rfl false ⟨#[], #[], []⟩ 8 (by kernel_rfl) (by kernel_rfl) (by kernel_rfl)
      (x := ([], [], [])) (by kernel_rfl) rfl (by kernel_rfl)) ?_
  intro W base args ds gs before hval hW _ hk _
  exact contract H enc W base args ds gs before hval hW hk

theorem over : Rows.escrowKnownUptoRow.holds Try.pinned (Rows.OpenSpec.upto Rows.escrowKnownSpec) :=
  OpenClaim.holds_of_cond 5 Try.f5 rfl rfl rfl rfl rfl rfl rfl ⟨rfl, rfl, rfl, rfl, rfl⟩ rfl rfl rfl rfl rfl (by kernel_rfl) Try.func5 (by kernel_rfl)
    (of_decide_eq_true (by kernel_rfl)) (by unfold Func.isWrapper; first | (rw [if_pos (by decide +kernel)]; kernel_rfl) | (rw [if_neg (by decide +kernel)]; exact ⟨rfl, rfl⟩))
    (fun os started H enc _ F => lifted os started H enc F)

theorem proved : Rows.EscrowKnownUptoSaid :=
  over
end Go.Proofs.Ytiokklaedanjbaa.escrowKnown
