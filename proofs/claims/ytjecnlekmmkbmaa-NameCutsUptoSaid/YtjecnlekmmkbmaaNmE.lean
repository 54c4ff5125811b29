/-
  The law NameCuts returns true for every text and number, where what it reads is of bulk at most 1048576: the walk.
-/
import Derived.Test.YtjecnlekmmkbmaaNmD
namespace Go.HL.Nm
open Go.HL Go.Proofs
set_option maxRecDepth 4000
set_option linter.unusedSimpArgs false
set_option linter.unusedVariables false
-- bazaar/bazaarlaw04.NameCuts
def h3_0 : HC := (.seq (.reg (.eff (.call 11) (.cons (.inp 0) .nil) (.chk none .lenL (.cons (.inp 3) .nil) (.chk none (.bin .eql) (.cons (.bv 0) (.cons (.op .lenL (.cons (.inp 3) .nil)) .nil)) (.bnd (.op (.bin .eql) (.cons (.bv 0) (.cons (.op .lenL (.cons (.inp 3) .nil)) .nil))) (.ite (.bv 1) true (.eff (.call 12) (.cons (.ite (.bv 1) true (.inp 0) (.cst (.tuple #[]))) (.cons (.ite (.bv 1) true (.inp 1) (.cst (.tuple #[]))) .nil)) (.eff (.call 13) (.cons (.inp 0) (.cons (.inp 1) .nil)) (.chk none (.bin .eql) (.cons (.bv 2) (.cons (.bv 3) .nil)) (.isb none (.bv 1) (.done [(2, (.op (.bin .eql) (.cons (.bv 2) (.cons (.bv 3) .nil))))] none))))) (.isb none (.bv 1) (.done [(2, (.cst (.bool false)))] none)))))))) .ret)
@[simp] theorem h3_0_wp {P : Program} {F : PF P} {Q : EX → List Value → World → Prop} {env : List Value} {w : World} : h3_0.wp F Q env w = HC.wp F (.seq (.reg (.eff (.call 11) (.cons (.inp 0) .nil) (.chk none .lenL (.cons (.inp 3) .nil) (.chk none (.bin .eql) (.cons (.bv 0) (.cons (.op .lenL (.cons (.inp 3) .nil)) .nil)) (.bnd (.op (.bin .eql) (.cons (.bv 0) (.cons (.op .lenL (.cons (.inp 3) .nil)) .nil))) (.ite (.bv 1) true (.eff (.call 12) (.cons (.ite (.bv 1) true (.inp 0) (.cst (.tuple #[]))) (.cons (.ite (.bv 1) true (.inp 1) (.cst (.tuple #[]))) .nil)) (.eff (.call 13) (.cons (.inp 0) (.cons (.inp 1) .nil)) (.chk none (.bin .eql) (.cons (.bv 2) (.cons (.bv 3) .nil)) (.isb none (.bv 1) (.done [(2, (.op (.bin .eql) (.cons (.bv 2) (.cons (.bv 3) .nil))))] none))))) (.isb none (.bv 1) (.done [(2, (.cst (.bool false)))] none)))))))) .ret) Q env w := rfl
def h3_1 : HC := (.seq (.reg (.eff (.call 10) (.cons (.inp 0) .nil) (.chk none (.ext 0) (.cons (.bv 0) .nil) (.chk none (.ext 1) (.cons (.bv 0) .nil) (.done [(3, (.op (.ext 0) (.cons (.bv 0) .nil)))] none))))) h3_0)
@[simp] theorem h3_1_wp {P : Program} {F : PF P} {Q : EX → List Value → World → Prop} {env : List Value} {w : World} : h3_1.wp F Q env w = HC.wp F (.seq (.reg (.eff (.call 10) (.cons (.inp 0) .nil) (.chk none (.ext 0) (.cons (.bv 0) .nil) (.chk none (.ext 1) (.cons (.bv 0) .nil) (.done [(3, (.op (.ext 0) (.cons (.bv 0) .nil)))] none))))) h3_0) Q env w := rfl
def l3 : Lifted := ⟨[0, 1, 4, 5], 26, [.slot 2], (.seq (.reg (.done [(2, (.cst (.bool false)))] none)) h3_1)⟩
theorem l3_ok : liftFn F1 3 400 = some l3 := by kernel_rfl


theorem cuts_walk (l : List UInt8) (n : Int) (w0 w : World) (A : Asn) (hl : l.length ≤ 1048576) (hn : -9223372036854775808 ≤ n ∧ n ≤ 9223372036854775807) (s : St w0 A w) :
    CallW Try.prog 3 [.string (mk l), .int .i64 n] (fun r w' => r = .bool true ∧ St w0 A w') w := by
  refine callW_of_lift l3_ok (by simp [l3]) ?_
  simp [l3]
  refine eff_call ((units_spec l w0 w A hl s).mono ?_)
  rintro r w1 ⟨v1, v2, rfl, s1⟩
  obtain ⟨a1, c1, rfl, _⟩ := s1.swap.own_val
  simp
  refine eff_call ((runes_spec l w0 w1 A hl s1.drop.drop).mono ?_)
  rintro r w2 ⟨rfl, s2⟩
  simp
  refine eff_call ((cut_spec l n w0 w2 A hl hn s2).mono ?_)
  rintro r w3 ⟨rfl, s3⟩
  simp
  refine eff_call ((rcut_spec l n w0 w3 A hl s3).mono ?_)
  rintro r w4 ⟨rfl, s4⟩
  simp
  exact s4
end Go.HL.Nm
