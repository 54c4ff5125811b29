/-
  What the claim leans on, part 14 of 16. Conditions: as each theorem says.
-/
import Derived.Test.YtiokklaedanjbaaGreatEAMm
namespace Go.HL.Es
open Go.HL Go.Proofs
set_option maxRecDepth 4000
set_option linter.unusedSimpArgs false
set_option linter.unusedVariables false
-- bazaar/bazaarlaw17.num
def h8_0 : HC := (.seq (.reg (.done [(1, (.inp 0))] none)) .ret)
@[simp] theorem h8_0_wp {P : Program} {F : PF P} {Q : EX → List Value → World → Prop} {env : List Value} {w : World} : h8_0.wp F Q env w = HC.wp F (.seq (.reg (.done [(1, (.inp 0))] none)) .ret) Q env w := rfl
def l8 : Lifted := ⟨[0, 2], 4, [.slot 1], (.seq (.reg (.done [(1, (.cst (.int .i64 0)))] none)) h8_0)⟩
theorem l8_ok : liftFn E0 8 400 = some l8 := by kernel_rfl


theorem num_spec (u : Int) (w : World) : CallW Tryz.prog 8 [.int .i64 u] (fun r w' => r = .int .i64 u ∧ w' = w) w := by
  refine callW_of_lift l8_ok (by simp [l8]) ?_
  simp [l8]
noncomputable def numS : PS Tryz.prog where
  f := 8
  val args := match args with
    | [.int _ u] => .int .i64 u
    | _ => undef
  ok args := match args with
    | [.int k _] => k = .i64
    | _ => False
  sound args w h := by
    split at h
    · rename_i k u
      subst h
      exact num_spec u w
    · exact h.elim
noncomputable abbrev E2 : PF Tryz.prog := PF.of [numS]
@[simp] theorem E2_num_val (args : List Value) : E2.val 8 args = numS.val args := rfl
@[simp] theorem E2_num_ok (args : List Value) : E2.ok 8 args = numS.ok args := rfl
@[simp] theorem num_val (u : Int) : numS.val [.int .i64 u] = .int .i64 u := rfl
@[simp] theorem num_ok (u : Int) : numS.ok [.int .i64 u] = (IntKind.i64 = .i64) := rfl
-- bazaar/bazaarlaw17.ints
def h29_0 : HC := (.seq (.reg (.done [(2, (.cst (.bool true)))] none)) .ret)
@[simp] theorem h29_0_wp {P : Program} {F : PF P} {Q : EX → List Value → World → Prop} {env : List Value} {w : World} : h29_0.wp F Q env w = HC.wp F (.seq (.reg (.done [(2, (.cst (.bool true)))] none)) .ret) Q env w := rfl
def h29_1 : HC := (.reg (.chk none (.bin .add) (.cons (.inp 3) (.cons (.cst (.int .i64 1)) .nil)) (.done [(3, (.op (.bin .add) (.cons (.inp 3) (.cons (.cst (.int .i64 1)) .nil))))] none)))
@[simp] theorem h29_1_wp {P : Program} {F : PF P} {Q : EX → List Value → World → Prop} {env : List Value} {w : World} : h29_1.wp F Q env w = HC.wp F (.reg (.chk none (.bin .add) (.cons (.inp 3) (.cons (.cst (.int .i64 1)) .nil)) (.done [(3, (.op (.bin .add) (.cons (.inp 3) (.cons (.cst (.int .i64 1)) .nil))))] none))) Q env w := rfl
def h29_2 : HC := (.seq (.reg (.done [(2, (.cst (.bool false)))] none)) .ret)
@[simp] theorem h29_2_wp {P : Program} {F : PF P} {Q : EX → List Value → World → Prop} {env : List Value} {w : World} : h29_2.wp F Q env w = HC.wp F (.seq (.reg (.done [(2, (.cst (.bool false)))] none)) .ret) Q env w := rfl
def h29_3 : HC := (.brq (some 0) (.chk none (.idxL 1) (.cons (.inp 0) (.cons (.inp 3) .nil)) (.eff (.ld false 1) (.cons (.op (.idxL 1) (.cons (.inp 0) (.cons (.inp 3) .nil))) .nil) (.chk none (.idxL 1) (.cons (.inp 1) (.cons (.inp 3) .nil)) (.eff (.ld false 1) (.cons (.op (.idxL 1) (.cons (.inp 1) (.cons (.inp 3) .nil))) .nil) (.chk none (.bin .neq) (.cons (.bv 0) (.cons (.bv 1) .nil)) (.done [] (some (.op (.bin .neq) (.cons (.bv 0) (.cons (.bv 1) .nil)))))))))) h29_2 .skip)
@[simp] theorem h29_3_wp {P : Program} {F : PF P} {Q : EX → List Value → World → Prop} {env : List Value} {w : World} : h29_3.wp F Q env w = HC.wp F (.brq (some 0) (.chk none (.idxL 1) (.cons (.inp 0) (.cons (.inp 3) .nil)) (.eff (.ld false 1) (.cons (.op (.idxL 1) (.cons (.inp 0) (.cons (.inp 3) .nil))) .nil) (.chk none (.idxL 1) (.cons (.inp 1) (.cons (.inp 3) .nil)) (.eff (.ld false 1) (.cons (.op (.idxL 1) (.cons (.inp 1) (.cons (.inp 3) .nil))) .nil) (.chk none (.bin .neq) (.cons (.bv 0) (.cons (.bv 1) .nil)) (.done [] (some (.op (.bin .neq) (.cons (.bv 0) (.cons (.bv 1) .nil)))))))))) h29_2 .skip) Q env w := rfl
def h29_4 : HC := (.seq (.block 1 h29_3) h29_1)
@[simp] theorem h29_4_wp {P : Program} {F : PF P} {Q : EX → List Value → World → Prop} {env : List Value} {w : World} : h29_4.wp F Q env w = HC.wp F (.seq (.block 1 h29_3) h29_1) Q env w := rfl
def h29_5 : HC := (.seq (.br (.chk none .lenL (.cons (.inp 0) .nil) (.chk none (.bin .lss) (.cons (.inp 3) (.cons (.op .lenL (.cons (.inp 0) .nil)) .nil)) (.done [] (some (.op (.bin .lss) (.cons (.inp 3) (.cons (.op .lenL (.cons (.inp 0) .nil)) .nil))))))) .skip (.exit 0)) h29_4)
@[simp] theorem h29_5_wp {P : Program} {F : PF P} {Q : EX → List Value → World → Prop} {env : List Value} {w : World} : h29_5.wp F Q env w = HC.wp F (.seq (.br (.chk none .lenL (.cons (.inp 0) .nil) (.chk none (.bin .lss) (.cons (.inp 3) (.cons (.op .lenL (.cons (.inp 0) .nil)) .nil)) (.done [] (some (.op (.bin .lss) (.cons (.inp 3) (.cons (.op .lenL (.cons (.inp 0) .nil)) .nil))))))) .skip (.exit 0)) h29_4) Q env w := rfl
def h29_6 : HC := (.loop h29_5)
@[simp] theorem h29_6_wp {P : Program} {F : PF P} {Q : EX → List Value → World → Prop} {env : List Value} {w : World} : h29_6.wp F Q env w = HC.wp F (.loop h29_5) Q env w := rfl
def h29_7 : HC := (.seq (.block 0 h29_6) h29_0)
@[simp] theorem h29_7_wp {P : Program} {F : PF P} {Q : EX → List Value → World → Prop} {env : List Value} {w : World} : h29_7.wp F Q env w = HC.wp F (.seq (.block 0 h29_6) h29_0) Q env w := rfl
def h29_8 : HC := (.seq (.reg (.done [(3, (.cst (.int .i64 0)))] none)) h29_7)
@[simp] theorem h29_8_wp {P : Program} {F : PF P} {Q : EX → List Value → World → Prop} {env : List Value} {w : World} : h29_8.wp F Q env w = HC.wp F (.seq (.reg (.done [(3, (.cst (.int .i64 0)))] none)) h29_7) Q env w := rfl
def h29_9 : HC := (.seq (.reg (.done [(2, (.cst (.bool false)))] none)) .ret)
@[simp] theorem h29_9_wp {P : Program} {F : PF P} {Q : EX → List Value → World → Prop} {env : List Value} {w : World} : h29_9.wp F Q env w = HC.wp F (.seq (.reg (.done [(2, (.cst (.bool false)))] none)) .ret) Q env w := rfl
def h29_10 : HC := (.seq (.br (.chk none .lenL (.cons (.inp 0) .nil) (.chk none .lenL (.cons (.inp 1) .nil) (.chk none (.bin .neq) (.cons (.op .lenL (.cons (.inp 0) .nil)) (.cons (.op .lenL (.cons (.inp 1) .nil)) .nil)) (.done [] (some (.op (.bin .neq) (.cons (.op .lenL (.cons (.inp 0) .nil)) (.cons (.op .lenL (.cons (.inp 1) .nil)) .nil)))))))) h29_9 .skip) h29_8)
@[simp] theorem h29_10_wp {P : Program} {F : PF P} {Q : EX → List Value → World → Prop} {env : List Value} {w : World} : h29_10.wp F Q env w = HC.wp F (.seq (.br (.chk none .lenL (.cons (.inp 0) .nil) (.chk none .lenL (.cons (.inp 1) .nil) (.chk none (.bin .neq) (.cons (.op .lenL (.cons (.inp 0) .nil)) (.cons (.op .lenL (.cons (.inp 1) .nil)) .nil)) (.done [] (some (.op (.bin .neq) (.cons (.op .lenL (.cons (.inp 0) .nil)) (.cons (.op .lenL (.cons (.inp 1) .nil)) .nil)))))))) h29_9 .skip) h29_8) Q env w := rfl
def l29 : Lifted := ⟨[0, 1, 4, 5], 26, [.slot 2], (.seq (.reg (.done [(2, (.cst (.bool false)))] none)) h29_10)⟩
theorem l29_ok : liftFn E2 29 400 = some l29 := by kernel_rfl

-- bazaar/bazaarlaw17.items
-- bazaar/bazaarlaw17.accounts
-- bazaar/bazaarlaw17.has
def h30_0 : HC := (.seq (.reg (.chk none (.cal 8) (.cons (.inp 5) .nil) (.chk none (.bin .eql) (.cons (.op (.cal 8) (.cons (.inp 5) .nil)) (.cons (.cst (.int .i64 0)) .nil)) (.bnd (.op (.bin .eql) (.cons (.op (.cal 8) (.cons (.inp 5) .nil)) (.cons (.cst (.int .i64 0)) .nil))) (.chk (some ((.bv 0), true)) (.fld 1) (.cons (.inp 4) .nil) (.ite (.bv 0) true (.eff (.ld false 1) (.cons (.ite (.bv 0) true (.op (.fld 1) (.cons (.inp 4) .nil)) (.cst (.tuple #[]))) .nil) (.chk none (.bin .eql) (.cons (.bv 1) (.cons (.inp 2) .nil)) (.isb none (.bv 0) (.done [(3, (.op (.bin .eql) (.cons (.bv 1) (.cons (.inp 2) .nil))))] none)))) (.isb none (.bv 0) (.done [(3, (.cst (.bool false)))] none)))))))) .ret)
@[simp] theorem h30_0_wp {P : Program} {F : PF P} {Q : EX → List Value → World → Prop} {env : List Value} {w : World} : h30_0.wp F Q env w = HC.wp F (.seq (.reg (.chk none (.cal 8) (.cons (.inp 5) .nil) (.chk none (.bin .eql) (.cons (.op (.cal 8) (.cons (.inp 5) .nil)) (.cons (.cst (.int .i64 0)) .nil)) (.bnd (.op (.bin .eql) (.cons (.op (.cal 8) (.cons (.inp 5) .nil)) (.cons (.cst (.int .i64 0)) .nil))) (.chk (some ((.bv 0), true)) (.fld 1) (.cons (.inp 4) .nil) (.ite (.bv 0) true (.eff (.ld false 1) (.cons (.ite (.bv 0) true (.op (.fld 1) (.cons (.inp 4) .nil)) (.cst (.tuple #[]))) .nil) (.chk none (.bin .eql) (.cons (.bv 1) (.cons (.inp 2) .nil)) (.isb none (.bv 0) (.done [(3, (.op (.bin .eql) (.cons (.bv 1) (.cons (.inp 2) .nil))))] none)))) (.isb none (.bv 0) (.done [(3, (.cst (.bool false)))] none)))))))) .ret) Q env w := rfl
def h30_1 : HC := (.seq (.reg (.eff (.call 74) (.cons (.inp 0) (.cons (.inp 1) .nil)) (.chk none (.ext 0) (.cons (.bv 0) .nil) (.chk none (.ext 1) (.cons (.bv 0) .nil) (.eff (.new 58 (.agg #[(.string ⟨#[]⟩), (.int .u64 0)])) .nil (.eff (.st 2) (.cons (.bv 1) (.cons (.op (.ext 0) (.cons (.bv 0) .nil)) .nil)) (.done [(4, (.bv 1)), (5, (.op (.ext 1) (.cons (.bv 0) .nil)))] none))))))) h30_0)
@[simp] theorem h30_1_wp {P : Program} {F : PF P} {Q : EX → List Value → World → Prop} {env : List Value} {w : World} : h30_1.wp F Q env w = HC.wp F (.seq (.reg (.eff (.call 74) (.cons (.inp 0) (.cons (.inp 1) .nil)) (.chk none (.ext 0) (.cons (.bv 0) .nil) (.chk none (.ext 1) (.cons (.bv 0) .nil) (.eff (.new 58 (.agg #[(.string ⟨#[]⟩), (.int .u64 0)])) .nil (.eff (.st 2) (.cons (.bv 1) (.cons (.op (.ext 0) (.cons (.bv 0) .nil)) .nil)) (.done [(4, (.bv 1)), (5, (.op (.ext 1) (.cons (.bv 0) .nil)))] none))))))) h30_0) Q env w := rfl
def l30 : Lifted := ⟨[0, 1, 2, 6, 7, 8], 24, [.slot 3], (.seq (.reg (.done [(3, (.cst (.bool false)))] none)) h30_1)⟩
theorem l30_ok : liftFn E2 30 400 = some l30 := by kernel_rfl

-- bazaar/bazaarlaw17.given
def h26_0 : HC := (.seq (.reg (.done [(0, (.inp 3)), (1, (.inp 5)), (2, (.inp 7))] none)) .ret)
@[simp] theorem h26_0_wp {P : Program} {F : PF P} {Q : EX → List Value → World → Prop} {env : List Value} {w : World} : h26_0.wp F Q env w = HC.wp F (.seq (.reg (.done [(0, (.inp 3)), (1, (.inp 5)), (2, (.inp 7))] none)) .ret) Q env w := rfl
def h26_1 : HC := (.seq (.reg (.eff (.call 73) (.cons (.inp 3) (.cons (.inp 5) .nil)) (.chk none (.ext 0) (.cons (.bv 0) .nil) (.chk none (.ext 1) (.cons (.bv 0) .nil) (.done [(7, (.op (.ext 0) (.cons (.bv 0) .nil)))] none))))) h26_0)
@[simp] theorem h26_1_wp {P : Program} {F : PF P} {Q : EX → List Value → World → Prop} {env : List Value} {w : World} : h26_1.wp F Q env w = HC.wp F (.seq (.reg (.eff (.call 73) (.cons (.inp 3) (.cons (.inp 5) .nil)) (.chk none (.ext 0) (.cons (.bv 0) .nil) (.chk none (.ext 1) (.cons (.bv 0) .nil) (.done [(7, (.op (.ext 0) (.cons (.bv 0) .nil)))] none))))) h26_0) Q env w := rfl
def h26_2 : HC := (.seq (.reg (.eff (.call 61) (.cons (.inp 5) (.cons (.cst (.int .i64 0)) (.cons (.cst (.int .i64 2)) .nil))) (.done [] none))) h26_1)
@[simp] theorem h26_2_wp {P : Program} {F : PF P} {Q : EX → List Value → World → Prop} {env : List Value} {w : World} : h26_2.wp F Q env w = HC.wp F (.seq (.reg (.eff (.call 61) (.cons (.inp 5) (.cons (.cst (.int .i64 0)) (.cons (.cst (.int .i64 2)) .nil))) (.done [] none))) h26_1) Q env w := rfl
def h26_3 : HC := (.seq (.reg (.eff (.call 61) (.cons (.inp 5) (.cons (.cst (.int .i64 0)) (.cons (.cst (.int .i64 1)) .nil))) (.done [] none))) h26_2)
@[simp] theorem h26_3_wp {P : Program} {F : PF P} {Q : EX → List Value → World → Prop} {env : List Value} {w : World} : h26_3.wp F Q env w = HC.wp F (.seq (.reg (.eff (.call 61) (.cons (.inp 5) (.cons (.cst (.int .i64 0)) (.cons (.cst (.int .i64 1)) .nil))) (.done [] none))) h26_2) Q env w := rfl
def h26_4 : HC := (.seq (.reg (.eff (.call 59) (.cons (.inp 3) (.cons (.cst (.int .i64 2)) (.cons (.cst (.int .u64 50)) .nil))) (.done [] none))) h26_3)
@[simp] theorem h26_4_wp {P : Program} {F : PF P} {Q : EX → List Value → World → Prop} {env : List Value} {w : World} : h26_4.wp F Q env w = HC.wp F (.seq (.reg (.eff (.call 59) (.cons (.inp 3) (.cons (.cst (.int .i64 2)) (.cons (.cst (.int .u64 50)) .nil))) (.done [] none))) h26_3) Q env w := rfl
def h26_5 : HC := (.seq (.reg (.eff (.call 59) (.cons (.inp 3) (.cons (.cst (.int .i64 1)) (.cons (.cst (.int .u64 100)) .nil))) (.done [] none))) h26_4)
@[simp] theorem h26_5_wp {P : Program} {F : PF P} {Q : EX → List Value → World → Prop} {env : List Value} {w : World} : h26_5.wp F Q env w = HC.wp F (.seq (.reg (.eff (.call 59) (.cons (.inp 3) (.cons (.cst (.int .i64 1)) (.cons (.cst (.int .u64 100)) .nil))) (.done [] none))) h26_4) Q env w := rfl
def h26_6 : HC := (.seq (.reg (.eff (.call 31) (.cons (.inp 3) (.cons (.cst (.string ⟨#[66, 111, 98]⟩)) .nil)) (.done [] none))) h26_5)
@[simp] theorem h26_6_wp {P : Program} {F : PF P} {Q : EX → List Value → World → Prop} {env : List Value} {w : World} : h26_6.wp F Q env w = HC.wp F (.seq (.reg (.eff (.call 31) (.cons (.inp 3) (.cons (.cst (.string ⟨#[66, 111, 98]⟩)) .nil)) (.done [] none))) h26_5) Q env w := rfl
def h26_7 : HC := (.seq (.reg (.eff (.call 31) (.cons (.inp 3) (.cons (.cst (.string ⟨#[65, 110, 110]⟩)) .nil)) (.done [] none))) h26_6)
@[simp] theorem h26_7_wp {P : Program} {F : PF P} {Q : EX → List Value → World → Prop} {env : List Value} {w : World} : h26_7.wp F Q env w = HC.wp F (.seq (.reg (.eff (.call 31) (.cons (.inp 3) (.cons (.cst (.string ⟨#[65, 110, 110]⟩)) .nil)) (.done [] none))) h26_6) Q env w := rfl
def h26_8 : HC := (.seq (.reg (.done [(0, (.cst (.pointer none))), (1, (.cst (.pointer none))), (2, (.cst (.pointer none)))] none)) .ret)
@[simp] theorem h26_8_wp {P : Program} {F : PF P} {Q : EX → List Value → World → Prop} {env : List Value} {w : World} : h26_8.wp F Q env w = HC.wp F (.seq (.reg (.done [(0, (.cst (.pointer none))), (1, (.cst (.pointer none))), (2, (.cst (.pointer none)))] none)) .ret) Q env w := rfl
def h26_9 : HC := (.seq (.br (.chk none (.cal 8) (.cons (.inp 4) .nil) (.chk none (.bin .neq) (.cons (.op (.cal 8) (.cons (.inp 4) .nil)) (.cons (.cst (.int .i64 0)) .nil)) (.bnd (.op (.bin .neq) (.cons (.op (.cal 8) (.cons (.inp 4) .nil)) (.cons (.cst (.int .i64 0)) .nil))) (.chk (some ((.bv 0), false)) (.cal 8) (.cons (.inp 6) .nil) (.chk (some ((.bv 0), false)) (.bin .neq) (.cons (.op (.cal 8) (.cons (.inp 6) .nil)) (.cons (.cst (.int .i64 0)) .nil)) (.isb none (.bv 0) (.bnd (.ite (.bv 0) true (.cst (.bool true)) (.op (.bin .neq) (.cons (.op (.cal 8) (.cons (.inp 6) .nil)) (.cons (.cst (.int .i64 0)) .nil)))) (.chk (some ((.bv 1), false)) (.eqNil false (.pointer 81) (.pointer none)) (.cons (.inp 3) .nil) (.isb none (.bv 1) (.bnd (.ite (.bv 1) true (.cst (.bool true)) (.op (.eqNil false (.pointer 81) (.pointer none)) (.cons (.inp 3) .nil))) (.chk (some ((.bv 2), false)) (.eqNil false (.pointer 92) (.pointer none)) (.cons (.inp 5) .nil) (.isb none (.bv 2) (.done [] (some (.ite (.bv 2) true (.cst (.bool true)) (.op (.eqNil false (.pointer 92) (.pointer none)) (.cons (.inp 5) .nil))))))))))))))))) h26_8 .skip) h26_7)
@[simp] theorem h26_9_wp {P : Program} {F : PF P} {Q : EX → List Value → World → Prop} {env : List Value} {w : World} : h26_9.wp F Q env w = HC.wp F (.seq (.br (.chk none (.cal 8) (.cons (.inp 4) .nil) (.chk none (.bin .neq) (.cons (.op (.cal 8) (.cons (.inp 4) .nil)) (.cons (.cst (.int .i64 0)) .nil)) (.bnd (.op (.bin .neq) (.cons (.op (.cal 8) (.cons (.inp 4) .nil)) (.cons (.cst (.int .i64 0)) .nil))) (.chk (some ((.bv 0), false)) (.cal 8) (.cons (.inp 6) .nil) (.chk (some ((.bv 0), false)) (.bin .neq) (.cons (.op (.cal 8) (.cons (.inp 6) .nil)) (.cons (.cst (.int .i64 0)) .nil)) (.isb none (.bv 0) (.bnd (.ite (.bv 0) true (.cst (.bool true)) (.op (.bin .neq) (.cons (.op (.cal 8) (.cons (.inp 6) .nil)) (.cons (.cst (.int .i64 0)) .nil)))) (.chk (some ((.bv 1), false)) (.eqNil false (.pointer 81) (.pointer none)) (.cons (.inp 3) .nil) (.isb none (.bv 1) (.bnd (.ite (.bv 1) true (.cst (.bool true)) (.op (.eqNil false (.pointer 81) (.pointer none)) (.cons (.inp 3) .nil))) (.chk (some ((.bv 2), false)) (.eqNil false (.pointer 92) (.pointer none)) (.cons (.inp 5) .nil) (.isb none (.bv 2) (.done [] (some (.ite (.bv 2) true (.cst (.bool true)) (.op (.eqNil false (.pointer 92) (.pointer none)) (.cons (.inp 5) .nil))))))))))))))))) h26_8 .skip) h26_7) Q env w := rfl
def h26_10 : HC := (.seq (.reg (.eff (.call 33) (.cons (.cst (.int .i64 9)) .nil) (.chk none (.ext 0) (.cons (.bv 0) .nil) (.chk none (.ext 1) (.cons (.bv 0) .nil) (.done [(5, (.op (.ext 0) (.cons (.bv 0) .nil))), (6, (.op (.ext 1) (.cons (.bv 0) .nil)))] none))))) h26_9)
@[simp] theorem h26_10_wp {P : Program} {F : PF P} {Q : EX → List Value → World → Prop} {env : List Value} {w : World} : h26_10.wp F Q env w = HC.wp F (.seq (.reg (.eff (.call 33) (.cons (.cst (.int .i64 9)) .nil) (.chk none (.ext 0) (.cons (.bv 0) .nil) (.chk none (.ext 1) (.cons (.bv 0) .nil) (.done [(5, (.op (.ext 0) (.cons (.bv 0) .nil))), (6, (.op (.ext 1) (.cons (.bv 0) .nil)))] none))))) h26_9) Q env w := rfl
def h26_11 : HC := (.seq (.reg (.eff (.call 72) (.cons (.cst (.int .i64 3)) .nil) (.chk none (.ext 0) (.cons (.bv 0) .nil) (.chk none (.ext 1) (.cons (.bv 0) .nil) (.done [(3, (.op (.ext 0) (.cons (.bv 0) .nil))), (4, (.op (.ext 1) (.cons (.bv 0) .nil)))] none))))) h26_10)
@[simp] theorem h26_11_wp {P : Program} {F : PF P} {Q : EX → List Value → World → Prop} {env : List Value} {w : World} : h26_11.wp F Q env w = HC.wp F (.seq (.reg (.eff (.call 72) (.cons (.cst (.int .i64 3)) .nil) (.chk none (.ext 0) (.cons (.bv 0) .nil) (.chk none (.ext 1) (.cons (.bv 0) .nil) (.done [(3, (.op (.ext 0) (.cons (.bv 0) .nil))), (4, (.op (.ext 1) (.cons (.bv 0) .nil)))] none))))) h26_10) Q env w := rfl
def l26 : Lifted := ⟨[0, 1, 2, 3, 4, 5, 6, 7], 54, [.slot 0, .slot 1, .slot 2], (.seq (.reg (.done [(0, (.cst (.pointer none))), (1, (.cst (.pointer none))), (2, (.cst (.pointer none)))] none)) h26_11)⟩
theorem l26_ok : liftFn E2 26 400 = some l26 := by kernel_rfl

-- bazaar/bazaarlaw17.awake
def h5_0 : HC := (.seq (.reg (.chk none (.cal 8) (.cons (.inp 4) .nil) (.chk none (.bin .eql) (.cons (.op (.cal 8) (.cons (.inp 4) .nil)) (.cons (.cst (.int .i64 0)) .nil)) (.bnd (.op (.bin .eql) (.cons (.op (.cal 8) (.cons (.inp 4) .nil)) (.cons (.cst (.int .i64 0)) .nil))) (.ite (.bv 0) true (.eff (.call 14) (.cons (.ite (.bv 0) true (.inp 3) (.cst (.tuple #[]))) (.cons (.cst (.int .i64 7)) .nil)) (.chk none (.bin .eql) (.cons (.bv 1) (.cons (.cst (.int .u64 30)) .nil)) (.isb none (.bv 0) (.bnd (.op (.bin .eql) (.cons (.bv 1) (.cons (.cst (.int .u64 30)) .nil))) (.ite (.bv 2) true (.eff (.call 22) (.cons (.ite (.bv 2) true (.inp 3) (.cst (.tuple #[]))) (.cons (.cst (.int .i64 7)) .nil)) (.eff (.bsl 3 1 1 #[(.int .i64 0)] [0]) (.cons (.cst (.int .i64 1)) .nil) (.eff (.call 29) (.cons (.bv 3) (.cons (.bv 4) .nil)) (.isb none (.bv 2) (.ite (.bv 5) true (.eff (.call 21) (.cons (.ite (.bv 5) true (.inp 1) (.cst (.tuple #[]))) .nil) (.chk none (.bin .eql) (.cons (.bv 6) (.cons (.cst (.int .u64 30)) .nil)) (.isb none (.bv 5) (.bnd (.op (.bin .eql) (.cons (.bv 6) (.cons (.cst (.int .u64 30)) .nil))) (.ite (.bv 7) true (.eff (.call 30) (.cons (.ite (.bv 7) true (.inp 1) (.cst (.tuple #[]))) (.cons (.cst (.int .i64 1)) (.cons (.cst (.int .u64 70)) .nil))) (.isb none (.bv 7) (.chk (some ((.bv 8), true)) (.cal 8) (.cons (.inp 6) .nil) (.chk (some ((.bv 8), true)) (.bin .eql) (.cons (.op (.cal 8) (.cons (.inp 6) .nil)) (.cons (.cst (.int .i64 0)) .nil)) (.isb none (.bv 8) (.bnd (.ite (.bv 8) true (.op (.bin .eql) (.cons (.op (.cal 8) (.cons (.inp 6) .nil)) (.cons (.cst (.int .i64 0)) .nil))) (.cst (.bool false))) (.chk (some ((.bv 9), true)) (.fld 3) (.cons (.inp 5) .nil) (.ite (.bv 9) true (.eff (.ld false 1) (.cons (.ite (.bv 9) true (.op (.fld 3) (.cons (.inp 5) .nil)) (.cst (.tuple #[]))) .nil) (.chk none (.bin .eql) (.cons (.bv 10) (.cons (.cst (.int .i64 7)) .nil)) (.isb none (.bv 9) (.done [(0, (.op (.bin .eql) (.cons (.bv 10) (.cons (.cst (.int .i64 7)) .nil))))] none)))) (.isb none (.bv 9) (.done [(0, (.cst (.bool false)))] none)))))))))) (.isb none (.bv 7) (.isb none (.cst (.bool false)) (.isb none (.cst (.bool false)) (.done [(0, (.cst (.bool false)))] none))))))))) (.isb none (.bv 5) (.isb none (.cst (.bool false)) (.isb none (.cst (.bool false)) (.isb none (.cst (.bool false)) (.done [(0, (.cst (.bool false)))] none)))))))))) (.isb none (.bv 2) (.isb none (.cst (.bool false)) (.isb none (.cst (.bool false)) (.isb none (.cst (.bool false)) (.isb none (.cst (.bool false)) (.done [(0, (.cst (.bool false)))] none))))))))))) (.isb none (.bv 0) (.isb none (.cst (.bool false)) (.isb none (.cst (.bool false)) (.isb none (.cst (.bool false)) (.isb none (.cst (.bool false)) (.isb none (.cst (.bool false)) (.done [(0, (.cst (.bool false)))] none)))))))))))) .ret)
@[simp] theorem h5_0_wp {P : Program} {F : PF P} {Q : EX → List Value → World → Prop} {env : List Value} {w : World} : h5_0.wp F Q env w = HC.wp F (.seq (.reg (.chk none (.cal 8) (.cons (.inp 4) .nil) (.chk none (.bin .eql) (.cons (.op (.cal 8) (.cons (.inp 4) .nil)) (.cons (.cst (.int .i64 0)) .nil)) (.bnd (.op (.bin .eql) (.cons (.op (.cal 8) (.cons (.inp 4) .nil)) (.cons (.cst (.int .i64 0)) .nil))) (.ite (.bv 0) true (.eff (.call 14) (.cons (.ite (.bv 0) true (.inp 3) (.cst (.tuple #[]))) (.cons (.cst (.int .i64 7)) .nil)) (.chk none (.bin .eql) (.cons (.bv 1) (.cons (.cst (.int .u64 30)) .nil)) (.isb none (.bv 0) (.bnd (.op (.bin .eql) (.cons (.bv 1) (.cons (.cst (.int .u64 30)) .nil))) (.ite (.bv 2) true (.eff (.call 22) (.cons (.ite (.bv 2) true (.inp 3) (.cst (.tuple #[]))) (.cons (.cst (.int .i64 7)) .nil)) (.eff (.bsl 3 1 1 #[(.int .i64 0)] [0]) (.cons (.cst (.int .i64 1)) .nil) (.eff (.call 29) (.cons (.bv 3) (.cons (.bv 4) .nil)) (.isb none (.bv 2) (.ite (.bv 5) true (.eff (.call 21) (.cons (.ite (.bv 5) true (.inp 1) (.cst (.tuple #[]))) .nil) (.chk none (.bin .eql) (.cons (.bv 6) (.cons (.cst (.int .u64 30)) .nil)) (.isb none (.bv 5) (.bnd (.op (.bin .eql) (.cons (.bv 6) (.cons (.cst (.int .u64 30)) .nil))) (.ite (.bv 7) true (.eff (.call 30) (.cons (.ite (.bv 7) true (.inp 1) (.cst (.tuple #[]))) (.cons (.cst (.int .i64 1)) (.cons (.cst (.int .u64 70)) .nil))) (.isb none (.bv 7) (.chk (some ((.bv 8), true)) (.cal 8) (.cons (.inp 6) .nil) (.chk (some ((.bv 8), true)) (.bin .eql) (.cons (.op (.cal 8) (.cons (.inp 6) .nil)) (.cons (.cst (.int .i64 0)) .nil)) (.isb none (.bv 8) (.bnd (.ite (.bv 8) true (.op (.bin .eql) (.cons (.op (.cal 8) (.cons (.inp 6) .nil)) (.cons (.cst (.int .i64 0)) .nil))) (.cst (.bool false))) (.chk (some ((.bv 9), true)) (.fld 3) (.cons (.inp 5) .nil) (.ite (.bv 9) true (.eff (.ld false 1) (.cons (.ite (.bv 9) true (.op (.fld 3) (.cons (.inp 5) .nil)) (.cst (.tuple #[]))) .nil) (.chk none (.bin .eql) (.cons (.bv 10) (.cons (.cst (.int .i64 7)) .nil)) (.isb none (.bv 9) (.done [(0, (.op (.bin .eql) (.cons (.bv 10) (.cons (.cst (.int .i64 7)) .nil))))] none)))) (.isb none (.bv 9) (.done [(0, (.cst (.bool false)))] none)))))))))) (.isb none (.bv 7) (.isb none (.cst (.bool false)) (.isb none (.cst (.bool false)) (.done [(0, (.cst (.bool false)))] none))))))))) (.isb none (.bv 5) (.isb none (.cst (.bool false)) (.isb none (.cst (.bool false)) (.isb none (.cst (.bool false)) (.done [(0, (.cst (.bool false)))] none)))))))))) (.isb none (.bv 2) (.isb none (.cst (.bool false)) (.isb none (.cst (.bool false)) (.isb none (.cst (.bool false)) (.isb none (.cst (.bool false)) (.done [(0, (.cst (.bool false)))] none))))))))))) (.isb none (.bv 0) (.isb none (.cst (.bool false)) (.isb none (.cst (.bool false)) (.isb none (.cst (.bool false)) (.isb none (.cst (.bool false)) (.isb none (.cst (.bool false)) (.done [(0, (.cst (.bool false)))] none)))))))))))) .ret) Q env w := rfl
def h5_1 : HC := (.seq (.reg (.eff (.call 28) (.cons (.inp 2) (.cons (.cst (.int .i64 1)) .nil)) (.chk none (.ext 0) (.cons (.bv 0) .nil) (.chk none (.ext 1) (.cons (.bv 0) .nil) (.eff (.new 60 (.agg #[(.int .i64 0), (.int .i64 0), (.int .i64 0), (.int .i64 0)])) .nil (.eff (.st 4) (.cons (.bv 1) (.cons (.op (.ext 0) (.cons (.bv 0) .nil)) .nil)) (.done [(5, (.bv 1)), (6, (.op (.ext 1) (.cons (.bv 0) .nil)))] none))))))) h5_0)
@[simp] theorem h5_1_wp {P : Program} {F : PF P} {Q : EX → List Value → World → Prop} {env : List Value} {w : World} : h5_1.wp F Q env w = HC.wp F (.seq (.reg (.eff (.call 28) (.cons (.inp 2) (.cons (.cst (.int .i64 1)) .nil)) (.chk none (.ext 0) (.cons (.bv 0) .nil) (.chk none (.ext 1) (.cons (.bv 0) .nil) (.eff (.new 60 (.agg #[(.int .i64 0), (.int .i64 0), (.int .i64 0), (.int .i64 0)])) .nil (.eff (.st 4) (.cons (.bv 1) (.cons (.op (.ext 0) (.cons (.bv 0) .nil)) .nil)) (.done [(5, (.bv 1)), (6, (.op (.ext 1) (.cons (.bv 0) .nil)))] none))))))) h5_0) Q env w := rfl
def h5_2 : HC := (.seq (.reg (.chk none (.build #[(.int .i64 0), (.int .i64 0), (.int .u64 0), (.int .u64 0), (.slice none 0 0)] [(0, 1), (1, 1), (2, 1), (3, 1), (4, 1)] [0, 1, 2]) (.cons (.cst (.int .i64 1)) (.cons (.cst (.int .i64 1)) (.cons (.cst (.int .u64 30)) .nil))) (.eff (.call 27) (.cons (.inp 3) (.cons (.cst (.int .i64 7)) (.cons (.op (.build #[(.int .i64 0), (.int .i64 0), (.int .u64 0), (.int .u64 0), (.slice none 0 0)] [(0, 1), (1, 1), (2, 1), (3, 1), (4, 1)] [0, 1, 2]) (.cons (.cst (.int .i64 1)) (.cons (.cst (.int .i64 1)) (.cons (.cst (.int .u64 30)) .nil)))) .nil))) (.done [(4, (.bv 0))] none)))) h5_1)
@[simp] theorem h5_2_wp {P : Program} {F : PF P} {Q : EX → List Value → World → Prop} {env : List Value} {w : World} : h5_2.wp F Q env w = HC.wp F (.seq (.reg (.chk none (.build #[(.int .i64 0), (.int .i64 0), (.int .u64 0), (.int .u64 0), (.slice none 0 0)] [(0, 1), (1, 1), (2, 1), (3, 1), (4, 1)] [0, 1, 2]) (.cons (.cst (.int .i64 1)) (.cons (.cst (.int .i64 1)) (.cons (.cst (.int .u64 30)) .nil))) (.eff (.call 27) (.cons (.inp 3) (.cons (.cst (.int .i64 7)) (.cons (.op (.build #[(.int .i64 0), (.int .i64 0), (.int .u64 0), (.int .u64 0), (.slice none 0 0)] [(0, 1), (1, 1), (2, 1), (3, 1), (4, 1)] [0, 1, 2]) (.cons (.cst (.int .i64 1)) (.cons (.cst (.int .i64 1)) (.cons (.cst (.int .u64 30)) .nil)))) .nil))) (.done [(4, (.bv 0))] none)))) h5_1) Q env w := rfl
def h5_3 : HC := (.seq (.reg (.done [(0, (.cst (.bool false)))] none)) .ret)
@[simp] theorem h5_3_wp {P : Program} {F : PF P} {Q : EX → List Value → World → Prop} {env : List Value} {w : World} : h5_3.wp F Q env w = HC.wp F (.seq (.reg (.done [(0, (.cst (.bool false)))] none)) .ret) Q env w := rfl
def h5_4 : HC := (.seq (.br (.chk none (.eqNil false (.pointer 95) (.pointer none)) (.cons (.inp 3) .nil) (.done [] (some (.op (.eqNil false (.pointer 95) (.pointer none)) (.cons (.inp 3) .nil))))) h5_3 .skip) h5_2)
@[simp] theorem h5_4_wp {P : Program} {F : PF P} {Q : EX → List Value → World → Prop} {env : List Value} {w : World} : h5_4.wp F Q env w = HC.wp F (.seq (.br (.chk none (.eqNil false (.pointer 95) (.pointer none)) (.cons (.inp 3) .nil) (.done [] (some (.op (.eqNil false (.pointer 95) (.pointer none)) (.cons (.inp 3) .nil))))) h5_3 .skip) h5_2) Q env w := rfl
def h5_5 : HC := (.seq (.reg (.eff (.call 26) .nil (.chk none (.ext 0) (.cons (.bv 0) .nil) (.chk none (.ext 1) (.cons (.bv 0) .nil) (.chk none (.ext 2) (.cons (.bv 0) .nil) (.done [(1, (.op (.ext 0) (.cons (.bv 0) .nil))), (2, (.op (.ext 1) (.cons (.bv 0) .nil))), (3, (.op (.ext 2) (.cons (.bv 0) .nil)))] none)))))) h5_4)
@[simp] theorem h5_5_wp {P : Program} {F : PF P} {Q : EX → List Value → World → Prop} {env : List Value} {w : World} : h5_5.wp F Q env w = HC.wp F (.seq (.reg (.eff (.call 26) .nil (.chk none (.ext 0) (.cons (.bv 0) .nil) (.chk none (.ext 1) (.cons (.bv 0) .nil) (.chk none (.ext 2) (.cons (.bv 0) .nil) (.done [(1, (.op (.ext 0) (.cons (.bv 0) .nil))), (2, (.op (.ext 1) (.cons (.bv 0) .nil))), (3, (.op (.ext 2) (.cons (.bv 0) .nil)))] none)))))) h5_4) Q env w := rfl
def l5 : Lifted := ⟨[0, 1, 2, 3, 4, 5, 6], 55, [.slot 0], (.seq (.reg (.done [(0, (.cst (.bool false)))] none)) h5_5)⟩
theorem l5_ok : liftFn E2 5 400 = some l5 := by kernel_rfl


theorem ints_spec (x y : List Int) (v1 v2 : Value) (w0 w : World) (A : Asn) (hx : x.length ≤ 1048576) (h1 : Row w0 A v1 x.length 1 (Gd.ints x)) (h2 : Row w0 A v2 y.length 1 (Gd.ints y)) (s : St w0 A w) :
    CallW Tryz.prog 29 [v1, v2] (fun r w' => r = .bool (x == y) ∧ St w0 A w') w := by
  obtain ⟨a1, c1, rfl⟩ := h1.val
  obtain ⟨a2, c2, rfl⟩ := h2.val
  refine callW_of_lift l29_ok (by simp [l29]) ?_
  simp [l29]
  refine cndI (fun h => ?_) (fun h => ?_)
  · simp at h
    have : (x == y) = false := by
      simp only [beq_eq_false_iff_ne]
      rintro rfl
      exact h rfl
    simp [this]
    exact s
  simp at h
  simp
  refine loopI (fun env w' => ∃ (i : Nat), env = [.slice a1 x.length c1, .slice a2 y.length c2, .bool false, .int .i64 i] ∧ i ≤ x.length ∧ x.take i = y.take i ∧ St w0 A w')
    (fun env _ => x.length - slotN env 3) ⟨0, rfl, by omega, rfl, s⟩ ?_
  rintro LQ env w' ⟨i, rfl, hi, ht, s'⟩ hN hE hR
  simp
  refine cndI (fun h3 => ?_) (fun h3 => ?_)
  · simp at h3
    obtain ⟨g1, o1, c1', e1, k1⟩ := h1.at (by omega)
    cases e1
    obtain ⟨g2, o2, c2', e2, k2⟩ := h2.at (by omega)
    cases e2
    have hy : i < y.length := by omega
    refine brqI s' ?_
    simp [h3]
    refine effq_ldc (fun w s => k1 w s i _ (Gd.ints_at h3)) ?_
    simp [hy]
    refine effq_ldc (fun w s => k2 w s i _ (Gd.ints_at hy)) ?_
    simp
    intro w2 s2
    refine cndI (fun h4 => ?_) (fun h4 => ?_)
    · simp at h4
      have : (x == y) = false := by
        simp only [beq_eq_false_iff_ne]
        rintro rfl
        exact h4 rfl
      simp
      refine hR _ _ ?_
      simp [this]
      exact s2
    · simp at h4
      simp [thenQ]
      try simp (disch := omega) only [wrap64]
      refine hN _ _ ⟨i + 1, by simp, by omega, ?_, s2⟩ (by simp [slotN]; omega)
      rw [List.take_succ_eq_append_getElem h3, List.take_succ_eq_append_getElem hy, ht, h4]
  · simp at h3
    simp
    refine hE _ _ _ ?_
    simp
    have e : i = x.length := by omega
    have e2 : i = y.length := by omega
    rw [e, List.take_length, ← e, e2, List.take_length] at ht
    subst ht
    simp
    exact s'
theorem has_spec (p : Nat) (P : Pu.Ps) (n k : Int) (w0 w : World) (A : Asn) (hP : P.rows.length ≤ 64) (s : St w0 (A * Pu.pur p P) w) :
    CallW Tryz.prog 30 [.pointer (some ⟨p, 0, none⟩), .int .i64 n, .int .u64 k] (fun r w' => r = .bool (decide ((Pu.getF P n).2 = 0 ∧ (Pu.getF P n).1.coins = k)) ∧ St w0 (A * Pu.pur p P) w') w := by
  refine callW_of_lift l30_ok (by simp [l30]) ?_
  simp [l30]
  refine eff_call ((Pu.Get_spec p P n w0 w A hP s).mono ?_)
  rintro r w1 ⟨rfl, s1⟩
  simp
  refine eff_new s1 fun b w2 s2 => ?_
  simp
  refine eff_stA (vs := (Pu.getF P n).1.cs) s2 rfl rfl (Pu.cs_one _) (by simp) fun w3 s3 => ?_
  simp
  have s4 : St w0 (A * Pu.pur p P * pt b (.cells (Pu.getF P n).1.cs.toArray 58 (0, 0))) w3 := by simpa [Pu.Ac.cs] using s3
  by_cases h : (Pu.getF P n).2 = 0
  · simp [h]
    refine eff_ldc (v := .int .u64 (Pu.getF P n).1.coins) ((cell_of s4.look).trans rfl) ?_
    simp
    exact s4.drop
  · simp [h]
    exact s4.drop
/-- New: nothing is held -/
theorem New_spec (p g : Nat) (lp lg : Int) (P : Pu.Ps) (its : List Gd.It) (w0 w : World) (A : Asn) (hP : Pu.PI lp P) (h0 : P.held = 0) (h : St w0 (A * Pu.pur p P * Gd.gds g lg its) w) :
    CallW Tryz.prog 73 [.pointer (some ⟨p, 0, none⟩), .pointer (some ⟨g, 0, none⟩)]
      (fun r w' => ∃ s, r = .tuple #[.pointer (some ⟨s, 0, none⟩), .int .i64 0] ∧ St w0 (A * ecoA p g s lg ⟨P, its, []⟩) w') w := by
  refine callW_of_lift l73_ok (by simp [l73]) ?_
  simp [l73]
  have hz : escE [] P.held = 0 := by unfold escE; rw [h0]; decide
  refine eff_call ((Load_spec p g lp lg [] (.slice none 0 0) P its w0 w A hP (by simp) (by simp) (row_nil w0 A 2) h).mono ?_)
  rintro r w1 (⟨_, s, rfl, h1⟩ | ⟨hn, _⟩)
  · simp
    exact h1
  · exact absurd hz hn
/-- the chapter's economy -/
def PG1 : Pu.Ps := ⟨3, [⟨Pu.bankB, 0⟩, ⟨[65, 110, 110], 0⟩], 0, 0⟩
def PG2 : Pu.Ps := ⟨3, [⟨Pu.bankB, 0⟩, ⟨[65, 110, 110], 0⟩, ⟨[66, 111, 98], 0⟩], 0, 0⟩
def PG3 : Pu.Ps := ⟨3, [⟨Pu.bankB, 0⟩, ⟨[65, 110, 110], 100⟩, ⟨[66, 111, 98], 0⟩], 100, 0⟩
def PG4 : Pu.Ps := ⟨3, [⟨Pu.bankB, 0⟩, ⟨[65, 110, 110], 100⟩, ⟨[66, 111, 98], 50⟩], 150, 0⟩
def IG : List Gd.It := [⟨1, 0, 1, 0⟩, ⟨2, 0, 2, 0⟩]
def EG : Eco := ⟨PG4, IG, []⟩
theorem eg_ei : EI 3 9 EG := by
  refine ⟨⟨rfl, by decide, by decide, by decide, by decide, by decide, by decide, fun i h => ?_⟩, ⟨⟨fun i h => ?_, by decide⟩, by decide, by decide, by decide⟩, ⟨by decide, by decide⟩, by decide⟩
  · have : i = 0 ∨ i = 1 ∨ i = 2 := by
      have : i < 3 := h
      omega
    rcases this with rfl | rfl | rfl <;> decide +revert
  · have : i = 0 ∨ i = 1 := by
      have : i < 2 := h
      omega
    rcases this with rfl | rfl <;> rfl
set_option maxHeartbeats 1000000 in
theorem given_spec (w0 w : World) (A : Asn) (s : St w0 A w) :
    CallW Tryz.prog 26 [] (fun r w' => ∃ p g s, r = .tuple #[.pointer (some ⟨p, 0, none⟩), .pointer (some ⟨g, 0, none⟩), .pointer (some ⟨s, 0, none⟩)] ∧ St w0 (A * ecoA p g s 9 EG) w') w := by
  refine callW_of_lift l26_ok (by simp [l26]) ?_
  simp [l26]
  refine eff_call ((Pu.New_spec 3 w0 w A s).mono ?_)
  intro r w1 h1
  rw [if_pos (by decide)] at h1
  obtain ⟨p, rfl, s1⟩ := h1
  simp
  refine eff_call ((Gd.New_spec 9 w0 w1 _ s1).mono ?_)
  intro r w2 h2
  rw [if_pos (by decide)] at h2
  obtain ⟨g, rfl, s2⟩ := h2
  simp
  have e1 : Pu.openF ⟨3, [⟨Pu.bankB, 0⟩], 0, 0⟩ [65, 110, 110] = (1, 0, PG1) := by decide +kernel
  have e2 : Pu.openF PG1 [66, 111, 98] = (2, 0, PG2) := by decide +kernel
  have e3 : Pu.mintF PG2 1 100 = (0, PG3) := by decide +kernel
  have e4 : Pu.mintF PG3 2 50 = (0, PG4) := by decide +kernel
  refine eff_call ((Pu.Open_spec p _ [65, 110, 110] w0 w2 (A * Gd.gds g 9 []) (by decide) (by decide) s2.swap).mono ?_)
  rintro r w3 ⟨rfl, s3⟩
  rw [e1] at s3
  simp
  refine eff_call ((Pu.Open_spec p _ [66, 111, 98] w0 w3 (A * Gd.gds g 9 []) (by decide) (by decide) s3).mono ?_)
  rintro r w4 ⟨rfl, s4⟩
  rw [e2] at s4
  simp
  refine eff_call ((Pu.Mint_spec p _ 1 100 w0 w4 (A * Gd.gds g 9 []) (Pu.bd_of (by decide +kernel)) (by decide) s4).mono ?_)
  rintro r w5 ⟨rfl, s5⟩
  rw [e3] at s5
  simp
  refine eff_call ((Pu.Mint_spec p _ 2 50 w0 w5 (A * Gd.gds g 9 []) (Pu.bd_of (by decide +kernel)) (by decide) s5).mono ?_)
  rintro r w6 ⟨rfl, s6⟩
  rw [e4] at s6
  simp
  refine eff_call ((Gd.Make_spec g 9 [] 0 1 w0 w6 (A * Pu.pur p PG4) (by decide) s6.swap).mono ?_)
  rintro r w7 ⟨rfl, s7⟩
  simp
  refine eff_call ((Gd.Make_spec g 9 _ 0 2 w0 w7 (A * Pu.pur p PG4) (by decide) s7).mono ?_)
  rintro r w8 ⟨rfl, s8⟩
  simp
  have s8 : St w0 (A * Pu.pur p PG4 * Gd.gds g 9 IG) w8 := s8
  refine eff_call ((New_spec p g 3 9 PG4 IG w0 w8 A eg_ei.P rfl s8).mono ?_)
  rintro r w9 ⟨s, rfl, s9⟩
  simp
  exact ⟨p, g, s, ⟨rfl, rfl, rfl⟩, s9⟩
def EA : Eco := ⟨⟨3, [⟨Pu.bankB, 0⟩, ⟨[65, 110, 110], 70⟩, ⟨[66, 111, 98], 50⟩], 150, 30⟩, [⟨1, 0, -1, 7⟩, ⟨2, 0, 2, 0⟩], [(7, 30)]⟩
def ent1 : Et := ⟨1, 1, 30⟩
theorem put_ea : turnF 7 [] (putE 7 ent1) EG = (0, EA) := by decide +kernel
theorem ea_ei : EI 3 9 EA := by
  have := turn_ei (lp := 3) (lg := 9) (c := 7) (gs := []) (bes := putE 7 ent1) eg_ei (by decide) (by simp) (fun E h1 h => put_ei h ⟨h1, by decide⟩ (by decide))
  rw [put_ea] at this
  exact this
set_option maxHeartbeats 1000000 in
theorem awake_spec (w0 w : World) (A : Asn) (s : St w0 A w) : CallW Tryz.prog 5 [] (fun r w' => r = .bool true ∧ St w0 A w') w := by
  refine callW_of_lift l5_ok (by simp [l5]) ?_
  simp [l5]
  refine eff_call ((given_spec w0 w A s).mono ?_)
  rintro r w1 ⟨p, g, s, rfl, s1⟩
  simp [Instr.fill, Value.cells]
  refine eff_call ((Put_spec p g s 3 9 7 0 ent1 (.slice none 0 0) EG w0 w1 A eg_ei (by decide) (by decide) s1).mono ?_)
  rintro r w2 ⟨rfl, s2⟩
  rw [put_ea] at s2 ⊢
  simp
  have s2 : St w0 (A * Pu.pur p EA.P * Gd.gds g 9 EA.its * esc s p g EA.l) w2 := s2.to (by simp only [ecoA]; ac_rfl)
  refine eff_call ((Gd.Get_spec g 9 EA.its 1 w0 w2 (A * Pu.pur p EA.P * esc s p g EA.l) (by decide) (s2.to (by ac_rfl))).mono ?_)
  rintro r w3 ⟨rfl, s3⟩
  simp
  refine eff_new s3 fun b w4 s4 => ?_
  simp
  refine eff_stA (vs := (Gd.getF EA.its 1).1.cs) s4 rfl rfl (Gd.cs_one _) (by simp) fun w5 s5 => ?_
  simp
  have s6 : St w0 (A * Pu.pur p EA.P * esc s p g EA.l * Gd.gds g 9 EA.its * pt b (.cells (Gd.getF EA.its 1).1.cs.toArray 60 (0, 0))) w5 := by simpa [Gd.It.cs] using s5
  refine eff_call ((Coins_spec s p g EA.l 7 w0 w5 (A * Pu.pur p EA.P * Gd.gds g 9 EA.its * pt b (.cells (Gd.getF EA.its 1).1.cs.toArray 60 (0, 0))) ea_ei.R (s6.to (by ac_rfl))).mono ?_)
  rintro r w6 ⟨rfl, rfl⟩
  rw [show cns EA.l 7 = 30 by decide]
  simp
  refine eff_call ((Items_spec p g s 3 9 7 EA w0 w6 (A * pt b (.cells (Gd.getF EA.its 1).1.cs.toArray 60 (0, 0))) ea_ei (s6.to (by simp only [ecoA]; ac_rfl))).mono ?_)
  intro r w7 s7
  rw [show Gd.inF EA.its 7 = [1] by decide] at s7
  obtain ⟨ia, icap, rfl, _⟩ := s7.own_val
  simp
  refine eff_bslO s7 (vs := [.int .i64 1]) (by simp [Value.oneCell']) rfl rfl (by decide) fun cv w8 s8 => ?_
  simp
  generalize hB : A * pt b (.cells (Gd.getF EA.its 1).1.cs.toArray 60 (0, 0)) = B at *
  refine eff_call ((ints_spec [1] [1] (.slice ia 1 icap) cv w0 w8 _ (by decide) (row_in (e := 3) (B := B * ecoA p g s 9 EA * own 3 1 cv 1 [.int .i64 1]) s8 (by simp only [Gd.ints, List.map_cons, List.map_nil, List.length_cons, List.length_nil] <;> ac_rfl)) (row_in (e := 3) (B := B * ecoA p g s 9 EA * own 3 1 (.slice ia 1 icap) 1 [.int .i64 1]) s8 (by simp only [Gd.ints, List.map_cons, List.map_nil, List.length_cons, List.length_nil] <;> ac_rfl)) s8).mono ?_)
  rintro r w9 ⟨rfl, s9⟩
  simp
  have s10 : St w0 (B * Gd.gds g 9 EA.its * esc s p g EA.l * Pu.pur p EA.P) w9 := s9.drop.drop.to (by simp only [ecoA]; ac_rfl)
  refine eff_call ((Pu.Held_spec p EA.P w0 w9 _ s10).mono ?_)
  rintro r w10 ⟨rfl, s11⟩
  rw [show EA.P.held = 30 by rfl]
  simp
  refine eff_call ((has_spec p EA.P 1 70 w0 w10 _ (by decide) s11).mono ?_)
  rintro r w11 ⟨rfl, s12⟩
  rw [show decide ((Pu.getF EA.P 1).2 = 0 ∧ (Pu.getF EA.P 1).1.coins = 70) = true by decide +kernel, show (Gd.getF EA.its 1).2 = 0 by decide]
  simp
  have s13 : St w0 (B * Gd.gds g 9 EA.its * esc s p g EA.l * Pu.pur p EA.P) w11 := s12
  rw [← hB] at s13
  have sA := s13.cut (B := A * pt b (.cells (Gd.getF EA.its 1).1.cs.toArray 60 (0, 0))) (Gd.gds g 9 EA.its * esc s p g EA.l * Pu.pur p EA.P) (by ac_rfl)
  refine eff_ldc (v := .int .i64 7) ((cell_of sA.look).trans rfl) ?_
  simp
  exact sA.drop
end Go.HL.Es

namespace Go.HL.Es
open Go.HL Go.Proofs
set_option maxRecDepth 4000
set_option linter.unusedSimpArgs false
set_option linter.unusedVariables false
def freshM (i m : Nat) : List Int := (List.range m).map fun (k : Nat) => 500000 + 1000 * (i : Int) + k
def gv (o : Option Value) : Value := o.getD (.slice none 0 0)
def GLf (L : Nat → Value) (Z : Nat → List Int) (j : Nat) : Option Value → Asn
  | none => own 3 1 (L j) (Z j).length (Gd.ints (Z j))
  | some g => grw 3 1 (L j) g (Z j).length 40 (Gd.ints (Z j)) (Gd.ints (freshM j 40))
end Go.HL.Es

namespace Go.HL.Nm
open Go.HL Go.Proofs
set_option maxRecDepth 4000
set_option linter.unusedSimpArgs false
set_option linter.unusedVariables false
/-- do these units stand here? -/
def hereF (us ps : List Int) (i : Nat) : Bool := (us.drop i).take ps.length == ps
def hasF (us ps : List Int) : Bool := (List.range (us.length + 1)).any fun i => decide (i + ps.length ≤ us.length) && hereF us ps i
theorem View.sub {w0 : World} {A : Asn} {k : IntKind} {a : Option Addr} {n cap i m : Nat} {xs : List Int} (h : View w0 A k (.slice a n cap) xs) (hi : i + m ≤ xs.length) :
    View w0 A k (.slice (if cap = i then a else a.map (fun x => x.add i)) m (cap - i)) ((xs.drop i).take m) := by
  obtain ⟨a', cap', hv, hc, h⟩ := h
  cases hv
  have hl : ((xs.drop i).take m).length = m := by simp; omega
  refine ⟨_, _, by rw [hl], by rw [hl]; omega, fun h0 => ?_⟩
  rw [hl] at h0
  obtain ⟨g, o, rfl, hw⟩ := h (by omega)
  refine ⟨g, o + i, ?_, fun w s j u hu => ?_⟩
  · rw [if_neg (by omega)]; simp
  · rw [List.getElem?_take] at hu
    split at hu
    · rw [List.getElem?_drop] at hu
      rw [Nat.add_assoc]
      exact hw w s _ _ hu
    · cases hu
end Go.HL.Nm

namespace Go.HL.Nm
open Go.HL Go.Proofs
set_option maxRecDepth 4000
set_option linter.unusedSimpArgs false
set_option linter.unusedVariables false
/-- the order of rows of numbers -/
def cmpL : List Int → List Int → Int
  | [], [] => 0
  | [], _ :: _ => -1
  | _ :: _, [] => 1
  | a :: l, b :: m => if a < b then -1 else if b < a then 1 else cmpL l m
def cmpB (x y : List UInt8) : Int := if Op.bytesLess x y then -1 else if x == y then 0 else 1
def compareF (x y : List UInt8) : Int := if cmpL (foldedF x) (foldedF y) = 0 then cmpB x y else cmpL (foldedF x) (foldedF y)
end Go.HL.Nm

namespace Go.HL.Nm
open Go.HL Go.Proofs
set_option maxRecDepth 4000
set_option linter.unusedSimpArgs false
set_option linter.unusedVariables false
end Go.HL.Nm
