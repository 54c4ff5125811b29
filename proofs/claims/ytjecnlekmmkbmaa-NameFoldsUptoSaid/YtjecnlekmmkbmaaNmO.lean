/-
  The law NameFolds returns true for every text, where what it reads is of bulk at most 1048576: the walk.
-/
import Derived.Test.YtjecnlekmmkbmaaNmN
namespace Go.HL.Nm
open Go.HL Go.Proofs
set_option maxRecDepth 4000
set_option linter.unusedSimpArgs false
set_option linter.unusedVariables false
-- bazaar/bazaarlaw04.NameFolds
def h5_0 : HC := (.seq (.reg (.eff (.call 16) (.cons (.inp 0) .nil) (.eff (.call 17) (.cons (.inp 0) .nil) (.chk none (.bin .eql) (.cons (.bv 0) (.cons (.bv 1) .nil)) (.bnd (.op (.bin .eql) (.cons (.bv 0) (.cons (.bv 1) .nil))) (.ite (.bv 2) true (.eff (.call 18) (.cons (.ite (.bv 2) true (.inp 0) (.cst (.tuple #[]))) .nil) (.eff (.call 19) (.cons (.inp 0) .nil) (.chk none (.bin .eql) (.cons (.bv 3) (.cons (.bv 4) .nil)) (.isb none (.bv 2) (.done [(1, (.op (.bin .eql) (.cons (.bv 3) (.cons (.bv 4) .nil))))] none))))) (.isb none (.bv 2) (.done [(1, (.cst (.bool false)))] none)))))))) .ret)
@[simp] theorem h5_0_wp {P : Program} {F : PF P} {Q : EX → List Value → World → Prop} {env : List Value} {w : World} : h5_0.wp F Q env w = HC.wp F (.seq (.reg (.eff (.call 16) (.cons (.inp 0) .nil) (.eff (.call 17) (.cons (.inp 0) .nil) (.chk none (.bin .eql) (.cons (.bv 0) (.cons (.bv 1) .nil)) (.bnd (.op (.bin .eql) (.cons (.bv 0) (.cons (.bv 1) .nil))) (.ite (.bv 2) true (.eff (.call 18) (.cons (.ite (.bv 2) true (.inp 0) (.cst (.tuple #[]))) .nil) (.eff (.call 19) (.cons (.inp 0) .nil) (.chk none (.bin .eql) (.cons (.bv 3) (.cons (.bv 4) .nil)) (.isb none (.bv 2) (.done [(1, (.op (.bin .eql) (.cons (.bv 3) (.cons (.bv 4) .nil))))] none))))) (.isb none (.bv 2) (.done [(1, (.cst (.bool false)))] none)))))))) .ret) Q env w := rfl
def l5 : Lifted := ⟨[0, 2], 15, [.slot 1], (.seq (.reg (.done [(1, (.cst (.bool false)))] none)) h5_0)⟩
theorem l5_ok : liftFn F1 5 400 = some l5 := by kernel_rfl


theorem folds_walk (l : List UInt8) (w0 w : World) (A : Asn) (hl : l.length ≤ 1048576) (s : St w0 A w) :
    CallW Try.prog 5 [.string (mk l)] (fun r w' => r = .bool true ∧ St w0 A w') w := by
  refine callW_of_lift l5_ok (by simp [l5]) ?_
  simp [l5]
  refine eff_call ((Fold_spec l w0 w A hl s).mono ?_)
  rintro r w1 ⟨rfl, s1⟩
  simp
  refine eff_call ((rFold_spec l w0 w1 A hl s1).mono ?_)
  rintro r w2 ⟨rfl, s2⟩
  simp
  refine eff_call ((Look_spec l w0 w2 A hl s2).mono ?_)
  rintro r w3 ⟨rfl, s3⟩
  simp
  refine eff_call ((rLook_spec l w0 w3 A hl s3).mono ?_)
  rintro r w4 ⟨rfl, s4⟩
  simp
  exact s4
end Go.HL.Nm
