/-
  The law NameChecks returns true for every text, where what it reads is of bulk at most 1048576: the walk.
-/
import Derived.Test.YtjecnlekmmkbmaaNmG
namespace Go.HL.Nm
open Go.HL Go.Proofs
set_option maxRecDepth 4000
set_option linter.unusedSimpArgs false
set_option linter.unusedVariables false
-- bazaar/bazaarlaw04.NameChecks
def h4_0 : HC := (.seq (.reg (.chk none (.bin .eql) (.cons (.inp 2) (.cons (.inp 4) .nil)) (.bnd (.op (.bin .eql) (.cons (.inp 2) (.cons (.inp 4) .nil))) (.chk (some ((.bv 0), true)) (.bin .eql) (.cons (.inp 3) (.cons (.inp 5) .nil)) (.isb none (.bv 0) (.done [(1, (.ite (.bv 0) true (.op (.bin .eql) (.cons (.inp 3) (.cons (.inp 5) .nil))) (.cst (.bool false))))] none)))))) .ret)
@[simp] theorem h4_0_wp {P : Program} {F : PF P} {Q : EX → List Value → World → Prop} {env : List Value} {w : World} : h4_0.wp F Q env w = HC.wp F (.seq (.reg (.chk none (.bin .eql) (.cons (.inp 2) (.cons (.inp 4) .nil)) (.bnd (.op (.bin .eql) (.cons (.inp 2) (.cons (.inp 4) .nil))) (.chk (some ((.bv 0), true)) (.bin .eql) (.cons (.inp 3) (.cons (.inp 5) .nil)) (.isb none (.bv 0) (.done [(1, (.ite (.bv 0) true (.op (.bin .eql) (.cons (.inp 3) (.cons (.inp 5) .nil))) (.cst (.bool false))))] none)))))) .ret) Q env w := rfl
def h4_1 : HC := (.seq (.reg (.eff (.call 15) (.cons (.inp 0) .nil) (.chk none (.ext 0) (.cons (.bv 0) .nil) (.chk none (.ext 1) (.cons (.bv 0) .nil) (.done [(4, (.op (.ext 0) (.cons (.bv 0) .nil))), (5, (.op (.ext 1) (.cons (.bv 0) .nil)))] none))))) h4_0)
@[simp] theorem h4_1_wp {P : Program} {F : PF P} {Q : EX → List Value → World → Prop} {env : List Value} {w : World} : h4_1.wp F Q env w = HC.wp F (.seq (.reg (.eff (.call 15) (.cons (.inp 0) .nil) (.chk none (.ext 0) (.cons (.bv 0) .nil) (.chk none (.ext 1) (.cons (.bv 0) .nil) (.done [(4, (.op (.ext 0) (.cons (.bv 0) .nil))), (5, (.op (.ext 1) (.cons (.bv 0) .nil)))] none))))) h4_0) Q env w := rfl
def h4_2 : HC := (.seq (.reg (.eff (.call 14) (.cons (.inp 0) .nil) (.chk none (.ext 0) (.cons (.bv 0) .nil) (.chk none (.ext 1) (.cons (.bv 0) .nil) (.done [(2, (.op (.ext 0) (.cons (.bv 0) .nil))), (3, (.op (.ext 1) (.cons (.bv 0) .nil)))] none))))) h4_1)
@[simp] theorem h4_2_wp {P : Program} {F : PF P} {Q : EX → List Value → World → Prop} {env : List Value} {w : World} : h4_2.wp F Q env w = HC.wp F (.seq (.reg (.eff (.call 14) (.cons (.inp 0) .nil) (.chk none (.ext 0) (.cons (.bv 0) .nil) (.chk none (.ext 1) (.cons (.bv 0) .nil) (.done [(2, (.op (.ext 0) (.cons (.bv 0) .nil))), (3, (.op (.ext 1) (.cons (.bv 0) .nil)))] none))))) h4_1) Q env w := rfl
def l4 : Lifted := ⟨[0, 2, 3, 4, 5, 6], 25, [.slot 1], (.seq (.reg (.done [(1, (.cst (.bool false)))] none)) h4_2)⟩
theorem l4_ok : liftFn F1 4 400 = some l4 := by kernel_rfl


theorem checks_walk (l : List UInt8) (w0 w : World) (A : Asn) (hl : l.length ≤ 1048576) (s : St w0 A w) :
    CallW Try.prog 4 [.string (mk l)] (fun r w' => r = .bool true ∧ St w0 A w') w := by
  refine callW_of_lift l4_ok (by simp [l4]) ?_
  simp [l4]
  refine eff_call ((check_spec l w0 w A hl s).mono ?_)
  rintro r w1 ⟨rfl, s1⟩
  simp
  refine eff_call ((rcheck_spec l w0 w1 A hl s1).mono ?_)
  rintro r w2 ⟨rfl, s2⟩
  simp
  exact s2
end Go.HL.Nm
