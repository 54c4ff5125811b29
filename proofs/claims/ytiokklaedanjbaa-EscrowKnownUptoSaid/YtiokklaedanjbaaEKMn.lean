/-
  What the claim leans on, part 14 of 15. Conditions: as each theorem says.
-/
import Derived.Test.YtiokklaedanjbaaEKMm
namespace Go.HL.Es
open Go.HL Go.Proofs
set_option maxRecDepth 4000
set_option linter.unusedSimpArgs false
set_option linter.unusedVariables false
-- bazaar/bazaarlaw17.num
def h9_0 : HC := (.seq (.reg (.done [(1, (.inp 0))] none)) .ret)
@[simp] theorem h9_0_wp {P : Program} {F : PF P} {Q : EX → List Value → World → Prop} {env : List Value} {w : World} : h9_0.wp F Q env w = HC.wp F (.seq (.reg (.done [(1, (.inp 0))] none)) .ret) Q env w := rfl
def l9 : Lifted := ⟨[0, 2], 4, [.slot 1], (.seq (.reg (.done [(1, (.cst (.int .i64 0)))] none)) h9_0)⟩
theorem l9_ok : liftFn E0 9 400 = some l9 := by kernel_rfl


theorem num_spec (u : Int) (w : World) : CallW Try.prog 9 [.int .i64 u] (fun r w' => r = .int .i64 u ∧ w' = w) w := by
  refine callW_of_lift l9_ok (by simp [l9]) ?_
  simp [l9]
noncomputable def numS : PS Try.prog where
  f := 9
  val args := match args with
    | [.int _ u] => .int .i64 u
    | _ => undef
  ok args := match args with
    | [.int k _] => k = .i64
    | _ => False
  sound args w h := by
    split at h
    · rename_i k u
      subst h
      exact num_spec u w
    · exact h.elim
noncomputable abbrev E2 : PF Try.prog := PF.of [numS]
@[simp] theorem E2_num_val (args : List Value) : E2.val 9 args = numS.val args := rfl
@[simp] theorem E2_num_ok (args : List Value) : E2.ok 9 args = numS.ok args := rfl
@[simp] theorem num_val (u : Int) : numS.val [.int .i64 u] = .int .i64 u := rfl
@[simp] theorem num_ok (u : Int) : numS.ok [.int .i64 u] = (IntKind.i64 = .i64) := rfl
-- bazaar/bazaarlaw17.ints
def h17_0 : HC := (.seq (.reg (.done [(2, (.cst (.bool true)))] none)) .ret)
@[simp] theorem h17_0_wp {P : Program} {F : PF P} {Q : EX → List Value → World → Prop} {env : List Value} {w : World} : h17_0.wp F Q env w = HC.wp F (.seq (.reg (.done [(2, (.cst (.bool true)))] none)) .ret) Q env w := rfl
def h17_1 : HC := (.reg (.chk none (.bin .add) (.cons (.inp 3) (.cons (.cst (.int .i64 1)) .nil)) (.done [(3, (.op (.bin .add) (.cons (.inp 3) (.cons (.cst (.int .i64 1)) .nil))))] none)))
@[simp] theorem h17_1_wp {P : Program} {F : PF P} {Q : EX → List Value → World → Prop} {env : List Value} {w : World} : h17_1.wp F Q env w = HC.wp F (.reg (.chk none (.bin .add) (.cons (.inp 3) (.cons (.cst (.int .i64 1)) .nil)) (.done [(3, (.op (.bin .add) (.cons (.inp 3) (.cons (.cst (.int .i64 1)) .nil))))] none))) Q env w := rfl
def h17_2 : HC := (.seq (.reg (.done [(2, (.cst (.bool false)))] none)) .ret)
@[simp] theorem h17_2_wp {P : Program} {F : PF P} {Q : EX → List Value → World → Prop} {env : List Value} {w : World} : h17_2.wp F Q env w = HC.wp F (.seq (.reg (.done [(2, (.cst (.bool false)))] none)) .ret) Q env w := rfl
def h17_3 : HC := (.brq (some 0) (.chk none (.idxL 1) (.cons (.inp 0) (.cons (.inp 3) .nil)) (.eff (.ld false 1) (.cons (.op (.idxL 1) (.cons (.inp 0) (.cons (.inp 3) .nil))) .nil) (.chk none (.idxL 1) (.cons (.inp 1) (.cons (.inp 3) .nil)) (.eff (.ld false 1) (.cons (.op (.idxL 1) (.cons (.inp 1) (.cons (.inp 3) .nil))) .nil) (.chk none (.bin .neq) (.cons (.bv 0) (.cons (.bv 1) .nil)) (.done [] (some (.op (.bin .neq) (.cons (.bv 0) (.cons (.bv 1) .nil)))))))))) h17_2 .skip)
@[simp] theorem h17_3_wp {P : Program} {F : PF P} {Q : EX → List Value → World → Prop} {env : List Value} {w : World} : h17_3.wp F Q env w = HC.wp F (.brq (some 0) (.chk none (.idxL 1) (.cons (.inp 0) (.cons (.inp 3) .nil)) (.eff (.ld false 1) (.cons (.op (.idxL 1) (.cons (.inp 0) (.cons (.inp 3) .nil))) .nil) (.chk none (.idxL 1) (.cons (.inp 1) (.cons (.inp 3) .nil)) (.eff (.ld false 1) (.cons (.op (.idxL 1) (.cons (.inp 1) (.cons (.inp 3) .nil))) .nil) (.chk none (.bin .neq) (.cons (.bv 0) (.cons (.bv 1) .nil)) (.done [] (some (.op (.bin .neq) (.cons (.bv 0) (.cons (.bv 1) .nil)))))))))) h17_2 .skip) Q env w := rfl
def h17_4 : HC := (.seq (.block 1 h17_3) h17_1)
@[simp] theorem h17_4_wp {P : Program} {F : PF P} {Q : EX → List Value → World → Prop} {env : List Value} {w : World} : h17_4.wp F Q env w = HC.wp F (.seq (.block 1 h17_3) h17_1) Q env w := rfl
def h17_5 : HC := (.seq (.br (.chk none .lenL (.cons (.inp 0) .nil) (.chk none (.bin .lss) (.cons (.inp 3) (.cons (.op .lenL (.cons (.inp 0) .nil)) .nil)) (.done [] (some (.op (.bin .lss) (.cons (.inp 3) (.cons (.op .lenL (.cons (.inp 0) .nil)) .nil))))))) .skip (.exit 0)) h17_4)
@[simp] theorem h17_5_wp {P : Program} {F : PF P} {Q : EX → List Value → World → Prop} {env : List Value} {w : World} : h17_5.wp F Q env w = HC.wp F (.seq (.br (.chk none .lenL (.cons (.inp 0) .nil) (.chk none (.bin .lss) (.cons (.inp 3) (.cons (.op .lenL (.cons (.inp 0) .nil)) .nil)) (.done [] (some (.op (.bin .lss) (.cons (.inp 3) (.cons (.op .lenL (.cons (.inp 0) .nil)) .nil))))))) .skip (.exit 0)) h17_4) Q env w := rfl
def h17_6 : HC := (.loop h17_5)
@[simp] theorem h17_6_wp {P : Program} {F : PF P} {Q : EX → List Value → World → Prop} {env : List Value} {w : World} : h17_6.wp F Q env w = HC.wp F (.loop h17_5) Q env w := rfl
def h17_7 : HC := (.seq (.block 0 h17_6) h17_0)
@[simp] theorem h17_7_wp {P : Program} {F : PF P} {Q : EX → List Value → World → Prop} {env : List Value} {w : World} : h17_7.wp F Q env w = HC.wp F (.seq (.block 0 h17_6) h17_0) Q env w := rfl
def h17_8 : HC := (.seq (.reg (.done [(3, (.cst (.int .i64 0)))] none)) h17_7)
@[simp] theorem h17_8_wp {P : Program} {F : PF P} {Q : EX → List Value → World → Prop} {env : List Value} {w : World} : h17_8.wp F Q env w = HC.wp F (.seq (.reg (.done [(3, (.cst (.int .i64 0)))] none)) h17_7) Q env w := rfl
def h17_9 : HC := (.seq (.reg (.done [(2, (.cst (.bool false)))] none)) .ret)
@[simp] theorem h17_9_wp {P : Program} {F : PF P} {Q : EX → List Value → World → Prop} {env : List Value} {w : World} : h17_9.wp F Q env w = HC.wp F (.seq (.reg (.done [(2, (.cst (.bool false)))] none)) .ret) Q env w := rfl
def h17_10 : HC := (.seq (.br (.chk none .lenL (.cons (.inp 0) .nil) (.chk none .lenL (.cons (.inp 1) .nil) (.chk none (.bin .neq) (.cons (.op .lenL (.cons (.inp 0) .nil)) (.cons (.op .lenL (.cons (.inp 1) .nil)) .nil)) (.done [] (some (.op (.bin .neq) (.cons (.op .lenL (.cons (.inp 0) .nil)) (.cons (.op .lenL (.cons (.inp 1) .nil)) .nil)))))))) h17_9 .skip) h17_8)
@[simp] theorem h17_10_wp {P : Program} {F : PF P} {Q : EX → List Value → World → Prop} {env : List Value} {w : World} : h17_10.wp F Q env w = HC.wp F (.seq (.br (.chk none .lenL (.cons (.inp 0) .nil) (.chk none .lenL (.cons (.inp 1) .nil) (.chk none (.bin .neq) (.cons (.op .lenL (.cons (.inp 0) .nil)) (.cons (.op .lenL (.cons (.inp 1) .nil)) .nil)) (.done [] (some (.op (.bin .neq) (.cons (.op .lenL (.cons (.inp 0) .nil)) (.cons (.op .lenL (.cons (.inp 1) .nil)) .nil)))))))) h17_9 .skip) h17_8) Q env w := rfl
def l17 : Lifted := ⟨[0, 1, 4, 5], 26, [.slot 2], (.seq (.reg (.done [(2, (.cst (.bool false)))] none)) h17_10)⟩
theorem l17_ok : liftFn E2 17 400 = some l17 := by kernel_rfl

-- bazaar/bazaarlaw17.items
-- bazaar/bazaarlaw17.accounts
-- bazaar/bazaarlaw17.has
def h27_0 : HC := (.seq (.reg (.chk none (.cal 9) (.cons (.inp 5) .nil) (.chk none (.bin .eql) (.cons (.op (.cal 9) (.cons (.inp 5) .nil)) (.cons (.cst (.int .i64 0)) .nil)) (.bnd (.op (.bin .eql) (.cons (.op (.cal 9) (.cons (.inp 5) .nil)) (.cons (.cst (.int .i64 0)) .nil))) (.chk (some ((.bv 0), true)) (.fld 1) (.cons (.inp 4) .nil) (.ite (.bv 0) true (.eff (.ld false 1) (.cons (.ite (.bv 0) true (.op (.fld 1) (.cons (.inp 4) .nil)) (.cst (.tuple #[]))) .nil) (.chk none (.bin .eql) (.cons (.bv 1) (.cons (.inp 2) .nil)) (.isb none (.bv 0) (.done [(3, (.op (.bin .eql) (.cons (.bv 1) (.cons (.inp 2) .nil))))] none)))) (.isb none (.bv 0) (.done [(3, (.cst (.bool false)))] none)))))))) .ret)
@[simp] theorem h27_0_wp {P : Program} {F : PF P} {Q : EX → List Value → World → Prop} {env : List Value} {w : World} : h27_0.wp F Q env w = HC.wp F (.seq (.reg (.chk none (.cal 9) (.cons (.inp 5) .nil) (.chk none (.bin .eql) (.cons (.op (.cal 9) (.cons (.inp 5) .nil)) (.cons (.cst (.int .i64 0)) .nil)) (.bnd (.op (.bin .eql) (.cons (.op (.cal 9) (.cons (.inp 5) .nil)) (.cons (.cst (.int .i64 0)) .nil))) (.chk (some ((.bv 0), true)) (.fld 1) (.cons (.inp 4) .nil) (.ite (.bv 0) true (.eff (.ld false 1) (.cons (.ite (.bv 0) true (.op (.fld 1) (.cons (.inp 4) .nil)) (.cst (.tuple #[]))) .nil) (.chk none (.bin .eql) (.cons (.bv 1) (.cons (.inp 2) .nil)) (.isb none (.bv 0) (.done [(3, (.op (.bin .eql) (.cons (.bv 1) (.cons (.inp 2) .nil))))] none)))) (.isb none (.bv 0) (.done [(3, (.cst (.bool false)))] none)))))))) .ret) Q env w := rfl
def h27_1 : HC := (.seq (.reg (.eff (.call 50) (.cons (.inp 0) (.cons (.inp 1) .nil)) (.chk none (.ext 0) (.cons (.bv 0) .nil) (.chk none (.ext 1) (.cons (.bv 0) .nil) (.eff (.new 76 (.agg #[(.string ⟨#[]⟩), (.int .u64 0)])) .nil (.eff (.st 2) (.cons (.bv 1) (.cons (.op (.ext 0) (.cons (.bv 0) .nil)) .nil)) (.done [(4, (.bv 1)), (5, (.op (.ext 1) (.cons (.bv 0) .nil)))] none))))))) h27_0)
@[simp] theorem h27_1_wp {P : Program} {F : PF P} {Q : EX → List Value → World → Prop} {env : List Value} {w : World} : h27_1.wp F Q env w = HC.wp F (.seq (.reg (.eff (.call 50) (.cons (.inp 0) (.cons (.inp 1) .nil)) (.chk none (.ext 0) (.cons (.bv 0) .nil) (.chk none (.ext 1) (.cons (.bv 0) .nil) (.eff (.new 76 (.agg #[(.string ⟨#[]⟩), (.int .u64 0)])) .nil (.eff (.st 2) (.cons (.bv 1) (.cons (.op (.ext 0) (.cons (.bv 0) .nil)) .nil)) (.done [(4, (.bv 1)), (5, (.op (.ext 1) (.cons (.bv 0) .nil)))] none))))))) h27_0) Q env w := rfl
def l27 : Lifted := ⟨[0, 1, 2, 6, 7, 8], 24, [.slot 3], (.seq (.reg (.done [(3, (.cst (.bool false)))] none)) h27_1)⟩
theorem l27_ok : liftFn E2 27 400 = some l27 := by kernel_rfl

-- bazaar/bazaarlaw17.given
def h26_0 : HC := (.seq (.reg (.done [(0, (.inp 3)), (1, (.inp 5)), (2, (.inp 7))] none)) .ret)
@[simp] theorem h26_0_wp {P : Program} {F : PF P} {Q : EX → List Value → World → Prop} {env : List Value} {w : World} : h26_0.wp F Q env w = HC.wp F (.seq (.reg (.done [(0, (.inp 3)), (1, (.inp 5)), (2, (.inp 7))] none)) .ret) Q env w := rfl
def h26_1 : HC := (.seq (.reg (.eff (.call 30) (.cons (.inp 3) (.cons (.inp 5) .nil)) (.chk none (.ext 0) (.cons (.bv 0) .nil) (.chk none (.ext 1) (.cons (.bv 0) .nil) (.done [(7, (.op (.ext 0) (.cons (.bv 0) .nil)))] none))))) h26_0)
@[simp] theorem h26_1_wp {P : Program} {F : PF P} {Q : EX → List Value → World → Prop} {env : List Value} {w : World} : h26_1.wp F Q env w = HC.wp F (.seq (.reg (.eff (.call 30) (.cons (.inp 3) (.cons (.inp 5) .nil)) (.chk none (.ext 0) (.cons (.bv 0) .nil) (.chk none (.ext 1) (.cons (.bv 0) .nil) (.done [(7, (.op (.ext 0) (.cons (.bv 0) .nil)))] none))))) h26_0) Q env w := rfl
def h26_2 : HC := (.seq (.reg (.eff (.call 49) (.cons (.inp 5) (.cons (.cst (.int .i64 0)) (.cons (.cst (.int .i64 2)) .nil))) (.done [] none))) h26_1)
@[simp] theorem h26_2_wp {P : Program} {F : PF P} {Q : EX → List Value → World → Prop} {env : List Value} {w : World} : h26_2.wp F Q env w = HC.wp F (.seq (.reg (.eff (.call 49) (.cons (.inp 5) (.cons (.cst (.int .i64 0)) (.cons (.cst (.int .i64 2)) .nil))) (.done [] none))) h26_1) Q env w := rfl
def h26_3 : HC := (.seq (.reg (.eff (.call 49) (.cons (.inp 5) (.cons (.cst (.int .i64 0)) (.cons (.cst (.int .i64 1)) .nil))) (.done [] none))) h26_2)
@[simp] theorem h26_3_wp {P : Program} {F : PF P} {Q : EX → List Value → World → Prop} {env : List Value} {w : World} : h26_3.wp F Q env w = HC.wp F (.seq (.reg (.eff (.call 49) (.cons (.inp 5) (.cons (.cst (.int .i64 0)) (.cons (.cst (.int .i64 1)) .nil))) (.done [] none))) h26_2) Q env w := rfl
def h26_4 : HC := (.seq (.reg (.eff (.call 48) (.cons (.inp 3) (.cons (.cst (.int .i64 2)) (.cons (.cst (.int .u64 50)) .nil))) (.done [] none))) h26_3)
@[simp] theorem h26_4_wp {P : Program} {F : PF P} {Q : EX → List Value → World → Prop} {env : List Value} {w : World} : h26_4.wp F Q env w = HC.wp F (.seq (.reg (.eff (.call 48) (.cons (.inp 3) (.cons (.cst (.int .i64 2)) (.cons (.cst (.int .u64 50)) .nil))) (.done [] none))) h26_3) Q env w := rfl
def h26_5 : HC := (.seq (.reg (.eff (.call 48) (.cons (.inp 3) (.cons (.cst (.int .i64 1)) (.cons (.cst (.int .u64 100)) .nil))) (.done [] none))) h26_4)
@[simp] theorem h26_5_wp {P : Program} {F : PF P} {Q : EX → List Value → World → Prop} {env : List Value} {w : World} : h26_5.wp F Q env w = HC.wp F (.seq (.reg (.eff (.call 48) (.cons (.inp 3) (.cons (.cst (.int .i64 1)) (.cons (.cst (.int .u64 100)) .nil))) (.done [] none))) h26_4) Q env w := rfl
def h26_6 : HC := (.seq (.reg (.eff (.call 32) (.cons (.inp 3) (.cons (.cst (.string ⟨#[66, 111, 98]⟩)) .nil)) (.done [] none))) h26_5)
@[simp] theorem h26_6_wp {P : Program} {F : PF P} {Q : EX → List Value → World → Prop} {env : List Value} {w : World} : h26_6.wp F Q env w = HC.wp F (.seq (.reg (.eff (.call 32) (.cons (.inp 3) (.cons (.cst (.string ⟨#[66, 111, 98]⟩)) .nil)) (.done [] none))) h26_5) Q env w := rfl
def h26_7 : HC := (.seq (.reg (.eff (.call 32) (.cons (.inp 3) (.cons (.cst (.string ⟨#[65, 110, 110]⟩)) .nil)) (.done [] none))) h26_6)
@[simp] theorem h26_7_wp {P : Program} {F : PF P} {Q : EX → List Value → World → Prop} {env : List Value} {w : World} : h26_7.wp F Q env w = HC.wp F (.seq (.reg (.eff (.call 32) (.cons (.inp 3) (.cons (.cst (.string ⟨#[65, 110, 110]⟩)) .nil)) (.done [] none))) h26_6) Q env w := rfl
def h26_8 : HC := (.seq (.reg (.done [(0, (.cst (.pointer none))), (1, (.cst (.pointer none))), (2, (.cst (.pointer none)))] none)) .ret)
@[simp] theorem h26_8_wp {P : Program} {F : PF P} {Q : EX → List Value → World → Prop} {env : List Value} {w : World} : h26_8.wp F Q env w = HC.wp F (.seq (.reg (.done [(0, (.cst (.pointer none))), (1, (.cst (.pointer none))), (2, (.cst (.pointer none)))] none)) .ret) Q env w := rfl
def h26_9 : HC := (.seq (.br (.chk none (.cal 9) (.cons (.inp 4) .nil) (.chk none (.bin .neq) (.cons (.op (.cal 9) (.cons (.inp 4) .nil)) (.cons (.cst (.int .i64 0)) .nil)) (.bnd (.op (.bin .neq) (.cons (.op (.cal 9) (.cons (.inp 4) .nil)) (.cons (.cst (.int .i64 0)) .nil))) (.chk (some ((.bv 0), false)) (.cal 9) (.cons (.inp 6) .nil) (.chk (some ((.bv 0), false)) (.bin .neq) (.cons (.op (.cal 9) (.cons (.inp 6) .nil)) (.cons (.cst (.int .i64 0)) .nil)) (.isb none (.bv 0) (.bnd (.ite (.bv 0) true (.cst (.bool true)) (.op (.bin .neq) (.cons (.op (.cal 9) (.cons (.inp 6) .nil)) (.cons (.cst (.int .i64 0)) .nil)))) (.chk (some ((.bv 1), false)) (.eqNil false (.pointer 81) (.pointer none)) (.cons (.inp 3) .nil) (.isb none (.bv 1) (.bnd (.ite (.bv 1) true (.cst (.bool true)) (.op (.eqNil false (.pointer 81) (.pointer none)) (.cons (.inp 3) .nil))) (.chk (some ((.bv 2), false)) (.eqNil false (.pointer 92) (.pointer none)) (.cons (.inp 5) .nil) (.isb none (.bv 2) (.done [] (some (.ite (.bv 2) true (.cst (.bool true)) (.op (.eqNil false (.pointer 92) (.pointer none)) (.cons (.inp 5) .nil))))))))))))))))) h26_8 .skip) h26_7)
@[simp] theorem h26_9_wp {P : Program} {F : PF P} {Q : EX → List Value → World → Prop} {env : List Value} {w : World} : h26_9.wp F Q env w = HC.wp F (.seq (.br (.chk none (.cal 9) (.cons (.inp 4) .nil) (.chk none (.bin .neq) (.cons (.op (.cal 9) (.cons (.inp 4) .nil)) (.cons (.cst (.int .i64 0)) .nil)) (.bnd (.op (.bin .neq) (.cons (.op (.cal 9) (.cons (.inp 4) .nil)) (.cons (.cst (.int .i64 0)) .nil))) (.chk (some ((.bv 0), false)) (.cal 9) (.cons (.inp 6) .nil) (.chk (some ((.bv 0), false)) (.bin .neq) (.cons (.op (.cal 9) (.cons (.inp 6) .nil)) (.cons (.cst (.int .i64 0)) .nil)) (.isb none (.bv 0) (.bnd (.ite (.bv 0) true (.cst (.bool true)) (.op (.bin .neq) (.cons (.op (.cal 9) (.cons (.inp 6) .nil)) (.cons (.cst (.int .i64 0)) .nil)))) (.chk (some ((.bv 1), false)) (.eqNil false (.pointer 81) (.pointer none)) (.cons (.inp 3) .nil) (.isb none (.bv 1) (.bnd (.ite (.bv 1) true (.cst (.bool true)) (.op (.eqNil false (.pointer 81) (.pointer none)) (.cons (.inp 3) .nil))) (.chk (some ((.bv 2), false)) (.eqNil false (.pointer 92) (.pointer none)) (.cons (.inp 5) .nil) (.isb none (.bv 2) (.done [] (some (.ite (.bv 2) true (.cst (.bool true)) (.op (.eqNil false (.pointer 92) (.pointer none)) (.cons (.inp 5) .nil))))))))))))))))) h26_8 .skip) h26_7) Q env w := rfl
def h26_10 : HC := (.seq (.reg (.eff (.call 34) (.cons (.cst (.int .i64 9)) .nil) (.chk none (.ext 0) (.cons (.bv 0) .nil) (.chk none (.ext 1) (.cons (.bv 0) .nil) (.done [(5, (.op (.ext 0) (.cons (.bv 0) .nil))), (6, (.op (.ext 1) (.cons (.bv 0) .nil)))] none))))) h26_9)
@[simp] theorem h26_10_wp {P : Program} {F : PF P} {Q : EX → List Value → World → Prop} {env : List Value} {w : World} : h26_10.wp F Q env w = HC.wp F (.seq (.reg (.eff (.call 34) (.cons (.cst (.int .i64 9)) .nil) (.chk none (.ext 0) (.cons (.bv 0) .nil) (.chk none (.ext 1) (.cons (.bv 0) .nil) (.done [(5, (.op (.ext 0) (.cons (.bv 0) .nil))), (6, (.op (.ext 1) (.cons (.bv 0) .nil)))] none))))) h26_9) Q env w := rfl
def h26_11 : HC := (.seq (.reg (.eff (.call 47) (.cons (.cst (.int .i64 3)) .nil) (.chk none (.ext 0) (.cons (.bv 0) .nil) (.chk none (.ext 1) (.cons (.bv 0) .nil) (.done [(3, (.op (.ext 0) (.cons (.bv 0) .nil))), (4, (.op (.ext 1) (.cons (.bv 0) .nil)))] none))))) h26_10)
@[simp] theorem h26_11_wp {P : Program} {F : PF P} {Q : EX → List Value → World → Prop} {env : List Value} {w : World} : h26_11.wp F Q env w = HC.wp F (.seq (.reg (.eff (.call 47) (.cons (.cst (.int .i64 3)) .nil) (.chk none (.ext 0) (.cons (.bv 0) .nil) (.chk none (.ext 1) (.cons (.bv 0) .nil) (.done [(3, (.op (.ext 0) (.cons (.bv 0) .nil))), (4, (.op (.ext 1) (.cons (.bv 0) .nil)))] none))))) h26_10) Q env w := rfl
def l26 : Lifted := ⟨[0, 1, 2, 3, 4, 5, 6, 7], 54, [.slot 0, .slot 1, .slot 2], (.seq (.reg (.done [(0, (.cst (.pointer none))), (1, (.cst (.pointer none))), (2, (.cst (.pointer none)))] none)) h26_11)⟩
theorem l26_ok : liftFn E2 26 400 = some l26 := by kernel_rfl

-- bazaar/bazaarlaw17.awake
def h6_0 : HC := (.seq (.reg (.chk none (.cal 9) (.cons (.inp 4) .nil) (.chk none (.bin .eql) (.cons (.op (.cal 9) (.cons (.inp 4) .nil)) (.cons (.cst (.int .i64 0)) .nil)) (.bnd (.op (.bin .eql) (.cons (.op (.cal 9) (.cons (.inp 4) .nil)) (.cons (.cst (.int .i64 0)) .nil))) (.ite (.bv 0) true (.eff (.call 20) (.cons (.ite (.bv 0) true (.inp 3) (.cst (.tuple #[]))) (.cons (.cst (.int .i64 7)) .nil)) (.chk none (.bin .eql) (.cons (.bv 1) (.cons (.cst (.int .u64 30)) .nil)) (.isb none (.bv 0) (.bnd (.op (.bin .eql) (.cons (.bv 1) (.cons (.cst (.int .u64 30)) .nil))) (.ite (.bv 2) true (.eff (.call 16) (.cons (.ite (.bv 2) true (.inp 3) (.cst (.tuple #[]))) (.cons (.cst (.int .i64 7)) .nil)) (.eff (.bsl 3 1 1 #[(.int .i64 0)] [0]) (.cons (.cst (.int .i64 1)) .nil) (.eff (.call 17) (.cons (.bv 3) (.cons (.bv 4) .nil)) (.isb none (.bv 2) (.ite (.bv 5) true (.eff (.call 29) (.cons (.ite (.bv 5) true (.inp 1) (.cst (.tuple #[]))) .nil) (.chk none (.bin .eql) (.cons (.bv 6) (.cons (.cst (.int .u64 30)) .nil)) (.isb none (.bv 5) (.bnd (.op (.bin .eql) (.cons (.bv 6) (.cons (.cst (.int .u64 30)) .nil))) (.ite (.bv 7) true (.eff (.call 27) (.cons (.ite (.bv 7) true (.inp 1) (.cst (.tuple #[]))) (.cons (.cst (.int .i64 1)) (.cons (.cst (.int .u64 70)) .nil))) (.isb none (.bv 7) (.chk (some ((.bv 8), true)) (.cal 9) (.cons (.inp 6) .nil) (.chk (some ((.bv 8), true)) (.bin .eql) (.cons (.op (.cal 9) (.cons (.inp 6) .nil)) (.cons (.cst (.int .i64 0)) .nil)) (.isb none (.bv 8) (.bnd (.ite (.bv 8) true (.op (.bin .eql) (.cons (.op (.cal 9) (.cons (.inp 6) .nil)) (.cons (.cst (.int .i64 0)) .nil))) (.cst (.bool false))) (.chk (some ((.bv 9), true)) (.fld 3) (.cons (.inp 5) .nil) (.ite (.bv 9) true (.eff (.ld false 1) (.cons (.ite (.bv 9) true (.op (.fld 3) (.cons (.inp 5) .nil)) (.cst (.tuple #[]))) .nil) (.chk none (.bin .eql) (.cons (.bv 10) (.cons (.cst (.int .i64 7)) .nil)) (.isb none (.bv 9) (.done [(0, (.op (.bin .eql) (.cons (.bv 10) (.cons (.cst (.int .i64 7)) .nil))))] none)))) (.isb none (.bv 9) (.done [(0, (.cst (.bool false)))] none)))))))))) (.isb none (.bv 7) (.isb none (.cst (.bool false)) (.isb none (.cst (.bool false)) (.done [(0, (.cst (.bool false)))] none))))))))) (.isb none (.bv 5) (.isb none (.cst (.bool false)) (.isb none (.cst (.bool false)) (.isb none (.cst (.bool false)) (.done [(0, (.cst (.bool false)))] none)))))))))) (.isb none (.bv 2) (.isb none (.cst (.bool false)) (.isb none (.cst (.bool false)) (.isb none (.cst (.bool false)) (.isb none (.cst (.bool false)) (.done [(0, (.cst (.bool false)))] none))))))))))) (.isb none (.bv 0) (.isb none (.cst (.bool false)) (.isb none (.cst (.bool false)) (.isb none (.cst (.bool false)) (.isb none (.cst (.bool false)) (.isb none (.cst (.bool false)) (.done [(0, (.cst (.bool false)))] none)))))))))))) .ret)
@[simp] theorem h6_0_wp {P : Program} {F : PF P} {Q : EX → List Value → World → Prop} {env : List Value} {w : World} : h6_0.wp F Q env w = HC.wp F (.seq (.reg (.chk none (.cal 9) (.cons (.inp 4) .nil) (.chk none (.bin .eql) (.cons (.op (.cal 9) (.cons (.inp 4) .nil)) (.cons (.cst (.int .i64 0)) .nil)) (.bnd (.op (.bin .eql) (.cons (.op (.cal 9) (.cons (.inp 4) .nil)) (.cons (.cst (.int .i64 0)) .nil))) (.ite (.bv 0) true (.eff (.call 20) (.cons (.ite (.bv 0) true (.inp 3) (.cst (.tuple #[]))) (.cons (.cst (.int .i64 7)) .nil)) (.chk none (.bin .eql) (.cons (.bv 1) (.cons (.cst (.int .u64 30)) .nil)) (.isb none (.bv 0) (.bnd (.op (.bin .eql) (.cons (.bv 1) (.cons (.cst (.int .u64 30)) .nil))) (.ite (.bv 2) true (.eff (.call 16) (.cons (.ite (.bv 2) true (.inp 3) (.cst (.tuple #[]))) (.cons (.cst (.int .i64 7)) .nil)) (.eff (.bsl 3 1 1 #[(.int .i64 0)] [0]) (.cons (.cst (.int .i64 1)) .nil) (.eff (.call 17) (.cons (.bv 3) (.cons (.bv 4) .nil)) (.isb none (.bv 2) (.ite (.bv 5) true (.eff (.call 29) (.cons (.ite (.bv 5) true (.inp 1) (.cst (.tuple #[]))) .nil) (.chk none (.bin .eql) (.cons (.bv 6) (.cons (.cst (.int .u64 30)) .nil)) (.isb none (.bv 5) (.bnd (.op (.bin .eql) (.cons (.bv 6) (.cons (.cst (.int .u64 30)) .nil))) (.ite (.bv 7) true (.eff (.call 27) (.cons (.ite (.bv 7) true (.inp 1) (.cst (.tuple #[]))) (.cons (.cst (.int .i64 1)) (.cons (.cst (.int .u64 70)) .nil))) (.isb none (.bv 7) (.chk (some ((.bv 8), true)) (.cal 9) (.cons (.inp 6) .nil) (.chk (some ((.bv 8), true)) (.bin .eql) (.cons (.op (.cal 9) (.cons (.inp 6) .nil)) (.cons (.cst (.int .i64 0)) .nil)) (.isb none (.bv 8) (.bnd (.ite (.bv 8) true (.op (.bin .eql) (.cons (.op (.cal 9) (.cons (.inp 6) .nil)) (.cons (.cst (.int .i64 0)) .nil))) (.cst (.bool false))) (.chk (some ((.bv 9), true)) (.fld 3) (.cons (.inp 5) .nil) (.ite (.bv 9) true (.eff (.ld false 1) (.cons (.ite (.bv 9) true (.op (.fld 3) (.cons (.inp 5) .nil)) (.cst (.tuple #[]))) .nil) (.chk none (.bin .eql) (.cons (.bv 10) (.cons (.cst (.int .i64 7)) .nil)) (.isb none (.bv 9) (.done [(0, (.op (.bin .eql) (.cons (.bv 10) (.cons (.cst (.int .i64 7)) .nil))))] none)))) (.isb none (.bv 9) (.done [(0, (.cst (.bool false)))] none)))))))))) (.isb none (.bv 7) (.isb none (.cst (.bool false)) (.isb none (.cst (.bool false)) (.done [(0, (.cst (.bool false)))] none))))))))) (.isb none (.bv 5) (.isb none (.cst (.bool false)) (.isb none (.cst (.bool false)) (.isb none (.cst (.bool false)) (.done [(0, (.cst (.bool false)))] none)))))))))) (.isb none (.bv 2) (.isb none (.cst (.bool false)) (.isb none (.cst (.bool false)) (.isb none (.cst (.bool false)) (.isb none (.cst (.bool false)) (.done [(0, (.cst (.bool false)))] none))))))))))) (.isb none (.bv 0) (.isb none (.cst (.bool false)) (.isb none (.cst (.bool false)) (.isb none (.cst (.bool false)) (.isb none (.cst (.bool false)) (.isb none (.cst (.bool false)) (.done [(0, (.cst (.bool false)))] none)))))))))))) .ret) Q env w := rfl
def h6_1 : HC := (.seq (.reg (.eff (.call 31) (.cons (.inp 2) (.cons (.cst (.int .i64 1)) .nil)) (.chk none (.ext 0) (.cons (.bv 0) .nil) (.chk none (.ext 1) (.cons (.bv 0) .nil) (.eff (.new 72 (.agg #[(.int .i64 0), (.int .i64 0), (.int .i64 0), (.int .i64 0)])) .nil (.eff (.st 4) (.cons (.bv 1) (.cons (.op (.ext 0) (.cons (.bv 0) .nil)) .nil)) (.done [(5, (.bv 1)), (6, (.op (.ext 1) (.cons (.bv 0) .nil)))] none))))))) h6_0)
@[simp] theorem h6_1_wp {P : Program} {F : PF P} {Q : EX → List Value → World → Prop} {env : List Value} {w : World} : h6_1.wp F Q env w = HC.wp F (.seq (.reg (.eff (.call 31) (.cons (.inp 2) (.cons (.cst (.int .i64 1)) .nil)) (.chk none (.ext 0) (.cons (.bv 0) .nil) (.chk none (.ext 1) (.cons (.bv 0) .nil) (.eff (.new 72 (.agg #[(.int .i64 0), (.int .i64 0), (.int .i64 0), (.int .i64 0)])) .nil (.eff (.st 4) (.cons (.bv 1) (.cons (.op (.ext 0) (.cons (.bv 0) .nil)) .nil)) (.done [(5, (.bv 1)), (6, (.op (.ext 1) (.cons (.bv 0) .nil)))] none))))))) h6_0) Q env w := rfl
def h6_2 : HC := (.seq (.reg (.chk none (.build #[(.int .i64 0), (.int .i64 0), (.int .u64 0), (.int .u64 0), (.slice none 0 0)] [(0, 1), (1, 1), (2, 1), (3, 1), (4, 1)] [0, 1, 2]) (.cons (.cst (.int .i64 1)) (.cons (.cst (.int .i64 1)) (.cons (.cst (.int .u64 30)) .nil))) (.eff (.call 14) (.cons (.inp 3) (.cons (.cst (.int .i64 7)) (.cons (.op (.build #[(.int .i64 0), (.int .i64 0), (.int .u64 0), (.int .u64 0), (.slice none 0 0)] [(0, 1), (1, 1), (2, 1), (3, 1), (4, 1)] [0, 1, 2]) (.cons (.cst (.int .i64 1)) (.cons (.cst (.int .i64 1)) (.cons (.cst (.int .u64 30)) .nil)))) .nil))) (.done [(4, (.bv 0))] none)))) h6_1)
@[simp] theorem h6_2_wp {P : Program} {F : PF P} {Q : EX → List Value → World → Prop} {env : List Value} {w : World} : h6_2.wp F Q env w = HC.wp F (.seq (.reg (.chk none (.build #[(.int .i64 0), (.int .i64 0), (.int .u64 0), (.int .u64 0), (.slice none 0 0)] [(0, 1), (1, 1), (2, 1), (3, 1), (4, 1)] [0, 1, 2]) (.cons (.cst (.int .i64 1)) (.cons (.cst (.int .i64 1)) (.cons (.cst (.int .u64 30)) .nil))) (.eff (.call 14) (.cons (.inp 3) (.cons (.cst (.int .i64 7)) (.cons (.op (.build #[(.int .i64 0), (.int .i64 0), (.int .u64 0), (.int .u64 0), (.slice none 0 0)] [(0, 1), (1, 1), (2, 1), (3, 1), (4, 1)] [0, 1, 2]) (.cons (.cst (.int .i64 1)) (.cons (.cst (.int .i64 1)) (.cons (.cst (.int .u64 30)) .nil)))) .nil))) (.done [(4, (.bv 0))] none)))) h6_1) Q env w := rfl
def h6_3 : HC := (.seq (.reg (.done [(0, (.cst (.bool false)))] none)) .ret)
@[simp] theorem h6_3_wp {P : Program} {F : PF P} {Q : EX → List Value → World → Prop} {env : List Value} {w : World} : h6_3.wp F Q env w = HC.wp F (.seq (.reg (.done [(0, (.cst (.bool false)))] none)) .ret) Q env w := rfl
def h6_4 : HC := (.seq (.br (.chk none (.eqNil false (.pointer 95) (.pointer none)) (.cons (.inp 3) .nil) (.done [] (some (.op (.eqNil false (.pointer 95) (.pointer none)) (.cons (.inp 3) .nil))))) h6_3 .skip) h6_2)
@[simp] theorem h6_4_wp {P : Program} {F : PF P} {Q : EX → List Value → World → Prop} {env : List Value} {w : World} : h6_4.wp F Q env w = HC.wp F (.seq (.br (.chk none (.eqNil false (.pointer 95) (.pointer none)) (.cons (.inp 3) .nil) (.done [] (some (.op (.eqNil false (.pointer 95) (.pointer none)) (.cons (.inp 3) .nil))))) h6_3 .skip) h6_2) Q env w := rfl
def h6_5 : HC := (.seq (.reg (.eff (.call 26) .nil (.chk none (.ext 0) (.cons (.bv 0) .nil) (.chk none (.ext 1) (.cons (.bv 0) .nil) (.chk none (.ext 2) (.cons (.bv 0) .nil) (.done [(1, (.op (.ext 0) (.cons (.bv 0) .nil))), (2, (.op (.ext 1) (.cons (.bv 0) .nil))), (3, (.op (.ext 2) (.cons (.bv 0) .nil)))] none)))))) h6_4)
@[simp] theorem h6_5_wp {P : Program} {F : PF P} {Q : EX → List Value → World → Prop} {env : List Value} {w : World} : h6_5.wp F Q env w = HC.wp F (.seq (.reg (.eff (.call 26) .nil (.chk none (.ext 0) (.cons (.bv 0) .nil) (.chk none (.ext 1) (.cons (.bv 0) .nil) (.chk none (.ext 2) (.cons (.bv 0) .nil) (.done [(1, (.op (.ext 0) (.cons (.bv 0) .nil))), (2, (.op (.ext 1) (.cons (.bv 0) .nil))), (3, (.op (.ext 2) (.cons (.bv 0) .nil)))] none)))))) h6_4) Q env w := rfl
def l6 : Lifted := ⟨[0, 1, 2, 3, 4, 5, 6], 55, [.slot 0], (.seq (.reg (.done [(0, (.cst (.bool false)))] none)) h6_5)⟩
theorem l6_ok : liftFn E2 6 400 = some l6 := by kernel_rfl


theorem ints_spec (x y : List Int) (v1 v2 : Value) (w0 w : World) (A : Asn) (hx : x.length ≤ 1048576) (h1 : Row w0 A v1 x.length 1 (Gd.ints x)) (h2 : Row w0 A v2 y.length 1 (Gd.ints y)) (s : St w0 A w) :
    CallW Try.prog 17 [v1, v2] (fun r w' => r = .bool (x == y) ∧ St w0 A w') w := by
  obtain ⟨a1, c1, rfl⟩ := h1.val
  obtain ⟨a2, c2, rfl⟩ := h2.val
  refine callW_of_lift l17_ok (by simp [l17]) ?_
  simp [l17]
  refine cndI (fun h => ?_) (fun h => ?_)
  · simp at h
    have : (x == y) = false := by
      simp only [beq_eq_false_iff_ne]
      rintro rfl
      exact h rfl
    simp [this]
    exact s
  simp at h
  simp
  refine loopI (fun env w' => ∃ (i : Nat), env = [.slice a1 x.length c1, .slice a2 y.length c2, .bool false, .int .i64 i] ∧ i ≤ x.length ∧ x.take i = y.take i ∧ St w0 A w')
    (fun env _ => x.length - slotN env 3) ⟨0, rfl, by omega, rfl, s⟩ ?_
  rintro LQ env w' ⟨i, rfl, hi, ht, s'⟩ hN hE hR
  simp
  refine cndI (fun h3 => ?_) (fun h3 => ?_)
  · simp at h3
    obtain ⟨g1, o1, c1', e1, k1⟩ := h1.at (by omega)
    cases e1
    obtain ⟨g2, o2, c2', e2, k2⟩ := h2.at (by omega)
    cases e2
    have hy : i < y.length := by omega
    refine brqI s' ?_
    simp [h3]
    refine effq_ldc (fun w s => k1 w s i _ (Gd.ints_at h3)) ?_
    simp [hy]
    refine effq_ldc (fun w s => k2 w s i _ (Gd.ints_at hy)) ?_
    simp
    intro w2 s2
    refine cndI (fun h4 => ?_) (fun h4 => ?_)
    · simp at h4
      have : (x == y) = false := by
        simp only [beq_eq_false_iff_ne]
        rintro rfl
        exact h4 rfl
      simp
      refine hR _ _ ?_
      simp [this]
      exact s2
    · simp at h4
      simp [thenQ]
      try simp (disch := omega) only [wrap64]
      refine hN _ _ ⟨i + 1, by simp, by omega, ?_, s2⟩ (by simp [slotN]; omega)
      rw [List.take_succ_eq_append_getElem h3, List.take_succ_eq_append_getElem hy, ht, h4]
  · simp at h3
    simp
    refine hE _ _ _ ?_
    simp
    have e : i = x.length := by omega
    have e2 : i = y.length := by omega
    rw [e, List.take_length, ← e, e2, List.take_length] at ht
    subst ht
    simp
    exact s'
theorem has_spec (p : Nat) (P : Pu.Ps) (n k : Int) (w0 w : World) (A : Asn) (hP : P.rows.length ≤ 64) (s : St w0 (A * Pu.pur p P) w) :
    CallW Try.prog 27 [.pointer (some ⟨p, 0, none⟩), .int .i64 n, .int .u64 k] (fun r w' => r = .bool (decide ((Pu.getF P n).2 = 0 ∧ (Pu.getF P n).1.coins = k)) ∧ St w0 (A * Pu.pur p P) w') w := by
  refine callW_of_lift l27_ok (by simp [l27]) ?_
  simp [l27]
  refine eff_call ((Pu.Get_spec p P n w0 w A hP s).mono ?_)
  rintro r w1 ⟨rfl, s1⟩
  simp
  refine eff_new s1 fun b w2 s2 => ?_
  simp
  refine eff_stA (vs := (Pu.getF P n).1.cs) s2 rfl rfl (Pu.cs_one _) (by simp) fun w3 s3 => ?_
  simp
  have s4 : St w0 (A * Pu.pur p P * pt b (.cells (Pu.getF P n).1.cs.toArray 76 (0, 0))) w3 := by simpa [Pu.Ac.cs] using s3
  by_cases h : (Pu.getF P n).2 = 0
  · simp [h]
    refine eff_ldc (v := .int .u64 (Pu.getF P n).1.coins) ((cell_of s4.look).trans rfl) ?_
    simp
    exact s4.drop
  · simp [h]
    exact s4.drop
/-- New: nothing is held -/
theorem New_spec (p g : Nat) (lp lg : Int) (P : Pu.Ps) (its : List Gd.It) (w0 w : World) (A : Asn) (hP : Pu.PI lp P) (h0 : P.held = 0) (h : St w0 (A * Pu.pur p P * Gd.gds g lg its) w) :
    CallW Try.prog 30 [.pointer (some ⟨p, 0, none⟩), .pointer (some ⟨g, 0, none⟩)]
      (fun r w' => ∃ s, r = .tuple #[.pointer (some ⟨s, 0, none⟩), .int .i64 0] ∧ St w0 (A * ecoA p g s lg ⟨P, its, []⟩) w') w := by
  refine callW_of_lift l30_ok (by simp [l30]) ?_
  simp [l30]
  have hz : escE [] P.held = 0 := by unfold escE; rw [h0]; decide
  refine eff_call ((Load_spec p g lp lg [] (.slice none 0 0) P its w0 w A hP (by simp) (by simp) (row_nil w0 A 2) h).mono ?_)
  rintro r w1 (⟨_, s, rfl, h1⟩ | ⟨hn, _⟩)
  · simp
    exact h1
  · exact absurd hz hn
/-- the chapter's economy -/
def PG1 : Pu.Ps := ⟨3, [⟨Pu.bankB, 0⟩, ⟨[65, 110, 110], 0⟩], 0, 0⟩
def PG2 : Pu.Ps := ⟨3, [⟨Pu.bankB, 0⟩, ⟨[65, 110, 110], 0⟩, ⟨[66, 111, 98], 0⟩], 0, 0⟩
def PG3 : Pu.Ps := ⟨3, [⟨Pu.bankB, 0⟩, ⟨[65, 110, 110], 100⟩, ⟨[66, 111, 98], 0⟩], 100, 0⟩
def PG4 : Pu.Ps := ⟨3, [⟨Pu.bankB, 0⟩, ⟨[65, 110, 110], 100⟩, ⟨[66, 111, 98], 50⟩], 150, 0⟩
def IG : List Gd.It := [⟨1, 0, 1, 0⟩, ⟨2, 0, 2, 0⟩]
def EG : Eco := ⟨PG4, IG, []⟩
theorem eg_ei : EI 3 9 EG := by
  refine ⟨⟨rfl, by decide, by decide, by decide, by decide, by decide, by decide, fun i h => ?_⟩, ⟨⟨fun i h => ?_, by decide⟩, by decide, by decide, by decide⟩, ⟨by decide, by decide⟩, by decide⟩
  · have : i = 0 ∨ i = 1 ∨ i = 2 := by
      have : i < 3 := h
      omega
    rcases this with rfl | rfl | rfl <;> decide +revert
  · have : i = 0 ∨ i = 1 := by
      have : i < 2 := h
      omega
    rcases this with rfl | rfl <;> rfl
set_option maxHeartbeats 1000000 in
theorem given_spec (w0 w : World) (A : Asn) (s : St w0 A w) :
    CallW Try.prog 26 [] (fun r w' => ∃ p g s, r = .tuple #[.pointer (some ⟨p, 0, none⟩), .pointer (some ⟨g, 0, none⟩), .pointer (some ⟨s, 0, none⟩)] ∧ St w0 (A * ecoA p g s 9 EG) w') w := by
  refine callW_of_lift l26_ok (by simp [l26]) ?_
  simp [l26]
  refine eff_call ((Pu.New_spec 3 w0 w A s).mono ?_)
  intro r w1 h1
  rw [if_pos (by decide)] at h1
  obtain ⟨p, rfl, s1⟩ := h1
  simp
  refine eff_call ((Gd.New_spec 9 w0 w1 _ s1).mono ?_)
  intro r w2 h2
  rw [if_pos (by decide)] at h2
  obtain ⟨g, rfl, s2⟩ := h2
  simp
  have e1 : Pu.openF ⟨3, [⟨Pu.bankB, 0⟩], 0, 0⟩ [65, 110, 110] = (1, 0, PG1) := by decide +kernel
  have e2 : Pu.openF PG1 [66, 111, 98] = (2, 0, PG2) := by decide +kernel
  have e3 : Pu.mintF PG2 1 100 = (0, PG3) := by decide +kernel
  have e4 : Pu.mintF PG3 2 50 = (0, PG4) := by decide +kernel
  refine eff_call ((Pu.Open_spec p _ [65, 110, 110] w0 w2 (A * Gd.gds g 9 []) (by decide) (by decide) s2.swap).mono ?_)
  rintro r w3 ⟨rfl, s3⟩
  rw [e1] at s3
  simp
  refine eff_call ((Pu.Open_spec p _ [66, 111, 98] w0 w3 (A * Gd.gds g 9 []) (by decide) (by decide) s3).mono ?_)
  rintro r w4 ⟨rfl, s4⟩
  rw [e2] at s4
  simp
  refine eff_call ((Pu.Mint_spec p _ 1 100 w0 w4 (A * Gd.gds g 9 []) (Pu.bd_of (by decide +kernel)) (by decide) s4).mono ?_)
  rintro r w5 ⟨rfl, s5⟩
  rw [e3] at s5
  simp
  refine eff_call ((Pu.Mint_spec p _ 2 50 w0 w5 (A * Gd.gds g 9 []) (Pu.bd_of (by decide +kernel)) (by decide) s5).mono ?_)
  rintro r w6 ⟨rfl, s6⟩
  rw [e4] at s6
  simp
  refine eff_call ((Gd.Make_spec g 9 [] 0 1 w0 w6 (A * Pu.pur p PG4) (by decide) s6.swap).mono ?_)
  rintro r w7 ⟨rfl, s7⟩
  simp
  refine eff_call ((Gd.Make_spec g 9 _ 0 2 w0 w7 (A * Pu.pur p PG4) (by decide) s7).mono ?_)
  rintro r w8 ⟨rfl, s8⟩
  simp
  have s8 : St w0 (A * Pu.pur p PG4 * Gd.gds g 9 IG) w8 := s8
  refine eff_call ((New_spec p g 3 9 PG4 IG w0 w8 A eg_ei.P rfl s8).mono ?_)
  rintro r w9 ⟨s, rfl, s9⟩
  simp
  exact ⟨p, g, s, ⟨rfl, rfl, rfl⟩, s9⟩
def EA : Eco := ⟨⟨3, [⟨Pu.bankB, 0⟩, ⟨[65, 110, 110], 70⟩, ⟨[66, 111, 98], 50⟩], 150, 30⟩, [⟨1, 0, -1, 7⟩, ⟨2, 0, 2, 0⟩], [(7, 30)]⟩
def ent1 : Et := ⟨1, 1, 30⟩
theorem put_ea : turnF 7 [] (putE 7 ent1) EG = (0, EA) := by decide +kernel
theorem ea_ei : EI 3 9 EA := by
  have := turn_ei (lp := 3) (lg := 9) (c := 7) (gs := []) (bes := putE 7 ent1) eg_ei (by decide) (by simp) (fun E h1 h => put_ei h ⟨h1, by decide⟩ (by decide))
  rw [put_ea] at this
  exact this
set_option maxHeartbeats 1000000 in
theorem awake_spec (w0 w : World) (A : Asn) (s : St w0 A w) : CallW Try.prog 6 [] (fun r w' => r = .bool true ∧ St w0 A w') w := by
  refine callW_of_lift l6_ok (by simp [l6]) ?_
  simp [l6]
  refine eff_call ((given_spec w0 w A s).mono ?_)
  rintro r w1 ⟨p, g, s, rfl, s1⟩
  simp [Instr.fill, Value.cells]
  refine eff_call ((Put_spec p g s 3 9 7 0 ent1 (.slice none 0 0) EG w0 w1 A eg_ei (by decide) (by decide) s1).mono ?_)
  rintro r w2 ⟨rfl, s2⟩
  rw [put_ea] at s2 ⊢
  simp
  have s2 : St w0 (A * Pu.pur p EA.P * Gd.gds g 9 EA.its * esc s p g EA.l) w2 := s2.to (by simp only [ecoA]; ac_rfl)
  refine eff_call ((Gd.Get_spec g 9 EA.its 1 w0 w2 (A * Pu.pur p EA.P * esc s p g EA.l) (by decide) (s2.to (by ac_rfl))).mono ?_)
  rintro r w3 ⟨rfl, s3⟩
  simp
  refine eff_new s3 fun b w4 s4 => ?_
  simp
  refine eff_stA (vs := (Gd.getF EA.its 1).1.cs) s4 rfl rfl (Gd.cs_one _) (by simp) fun w5 s5 => ?_
  simp
  have s6 : St w0 (A * Pu.pur p EA.P * esc s p g EA.l * Gd.gds g 9 EA.its * pt b (.cells (Gd.getF EA.its 1).1.cs.toArray 72 (0, 0))) w5 := by simpa [Gd.It.cs] using s5
  refine eff_call ((Coins_spec s p g EA.l 7 w0 w5 (A * Pu.pur p EA.P * Gd.gds g 9 EA.its * pt b (.cells (Gd.getF EA.its 1).1.cs.toArray 72 (0, 0))) ea_ei.R (s6.to (by ac_rfl))).mono ?_)
  rintro r w6 ⟨rfl, rfl⟩
  rw [show cns EA.l 7 = 30 by decide]
  simp
  refine eff_call ((Items_spec p g s 3 9 7 EA w0 w6 (A * pt b (.cells (Gd.getF EA.its 1).1.cs.toArray 72 (0, 0))) ea_ei (s6.to (by simp only [ecoA]; ac_rfl))).mono ?_)
  intro r w7 s7
  rw [show Gd.inF EA.its 7 = [1] by decide] at s7
  obtain ⟨ia, icap, rfl, _⟩ := s7.own_val
  simp
  refine eff_bslO s7 (vs := [.int .i64 1]) (by simp [Value.oneCell']) rfl rfl (by decide) fun cv w8 s8 => ?_
  simp
  generalize hB : A * pt b (.cells (Gd.getF EA.its 1).1.cs.toArray 72 (0, 0)) = B at *
  refine eff_call ((ints_spec [1] [1] (.slice ia 1 icap) cv w0 w8 _ (by decide) (row_in (e := 3) (B := B * ecoA p g s 9 EA * own 3 1 cv 1 [.int .i64 1]) s8 (by simp only [Gd.ints, List.map_cons, List.map_nil, List.length_cons, List.length_nil] <;> ac_rfl)) (row_in (e := 3) (B := B * ecoA p g s 9 EA * own 3 1 (.slice ia 1 icap) 1 [.int .i64 1]) s8 (by simp only [Gd.ints, List.map_cons, List.map_nil, List.length_cons, List.length_nil] <;> ac_rfl)) s8).mono ?_)
  rintro r w9 ⟨rfl, s9⟩
  simp
  have s10 : St w0 (B * Gd.gds g 9 EA.its * esc s p g EA.l * Pu.pur p EA.P) w9 := s9.drop.drop.to (by simp only [ecoA]; ac_rfl)
  refine eff_call ((Pu.Held_spec p EA.P w0 w9 _ s10).mono ?_)
  rintro r w10 ⟨rfl, s11⟩
  rw [show EA.P.held = 30 by rfl]
  simp
  refine eff_call ((has_spec p EA.P 1 70 w0 w10 _ (by decide) s11).mono ?_)
  rintro r w11 ⟨rfl, s12⟩
  rw [show decide ((Pu.getF EA.P 1).2 = 0 ∧ (Pu.getF EA.P 1).1.coins = 70) = true by decide +kernel, show (Gd.getF EA.its 1).2 = 0 by decide]
  simp
  have s13 : St w0 (B * Gd.gds g 9 EA.its * esc s p g EA.l * Pu.pur p EA.P) w11 := s12
  rw [← hB] at s13
  have sA := s13.cut (B := A * pt b (.cells (Gd.getF EA.its 1).1.cs.toArray 72 (0, 0))) (Gd.gds g 9 EA.its * esc s p g EA.l * Pu.pur p EA.P) (by ac_rfl)
  refine eff_ldc (v := .int .i64 7) ((cell_of sA.look).trans rfl) ?_
  simp
  exact sA.drop
end Go.HL.Es
