/-
  The law NamePairs returns true for every two texts, where what it reads is of bulk at most 1048576: the walk.
-/
import Derived.Test.YtjecnlekmmkbmaaNmT
namespace Go.HL.Nm
open Go.HL Go.Proofs
set_option maxRecDepth 4000
set_option linter.unusedSimpArgs false
set_option linter.unusedVariables false
-- bazaar/bazaarlaw04.NamePairs
def h6_0 : HC := (.seq (.reg (.eff (.call 22) (.cons (.inp 0) (.cons (.inp 1) .nil)) (.eff (.call 23) (.cons (.inp 0) (.cons (.inp 1) .nil)) (.chk none (.eqB false) (.cons (.bv 0) (.cons (.bv 1) .nil)) (.bnd (.op (.eqB false) (.cons (.bv 0) (.cons (.bv 1) .nil))) (.ite (.bv 2) true (.eff (.call 24) (.cons (.ite (.bv 2) true (.inp 0) (.cst (.tuple #[]))) (.cons (.ite (.bv 2) true (.inp 1) (.cst (.tuple #[]))) .nil)) (.eff (.call 25) (.cons (.inp 0) (.cons (.inp 1) .nil)) (.chk none (.bin .eql) (.cons (.bv 3) (.cons (.bv 4) .nil)) (.isb none (.bv 2) (.done [(2, (.op (.bin .eql) (.cons (.bv 3) (.cons (.bv 4) .nil))))] none))))) (.isb none (.bv 2) (.done [(2, (.cst (.bool false)))] none)))))))) .ret)
@[simp] theorem h6_0_wp {P : Program} {F : PF P} {Q : EX → List Value → World → Prop} {env : List Value} {w : World} : h6_0.wp F Q env w = HC.wp F (.seq (.reg (.eff (.call 22) (.cons (.inp 0) (.cons (.inp 1) .nil)) (.eff (.call 23) (.cons (.inp 0) (.cons (.inp 1) .nil)) (.chk none (.eqB false) (.cons (.bv 0) (.cons (.bv 1) .nil)) (.bnd (.op (.eqB false) (.cons (.bv 0) (.cons (.bv 1) .nil))) (.ite (.bv 2) true (.eff (.call 24) (.cons (.ite (.bv 2) true (.inp 0) (.cst (.tuple #[]))) (.cons (.ite (.bv 2) true (.inp 1) (.cst (.tuple #[]))) .nil)) (.eff (.call 25) (.cons (.inp 0) (.cons (.inp 1) .nil)) (.chk none (.bin .eql) (.cons (.bv 3) (.cons (.bv 4) .nil)) (.isb none (.bv 2) (.done [(2, (.op (.bin .eql) (.cons (.bv 3) (.cons (.bv 4) .nil))))] none))))) (.isb none (.bv 2) (.done [(2, (.cst (.bool false)))] none)))))))) .ret) Q env w := rfl
def h6_1 : HC := (.seq (.reg (.done [(2, (.cst (.bool false)))] none)) .ret)
@[simp] theorem h6_1_wp {P : Program} {F : PF P} {Q : EX → List Value → World → Prop} {env : List Value} {w : World} : h6_1.wp F Q env w = HC.wp F (.seq (.reg (.done [(2, (.cst (.bool false)))] none)) .ret) Q env w := rfl
def h6_2 : HC := (.seq (.br (.eff (.call 20) (.cons (.inp 0) (.cons (.inp 1) .nil)) (.chk none (.eqB true) (.cons (.bv 0) (.cons (.inp 3) .nil)) (.bnd (.op (.eqB true) (.cons (.bv 0) (.cons (.inp 3) .nil))) (.ite (.bv 1) false (.eff (.call 21) (.cons (.ite (.bv 1) false (.inp 0) (.cst (.tuple #[]))) (.cons (.ite (.bv 1) false (.inp 1) (.cst (.tuple #[]))) .nil)) (.chk none (.eqB true) (.cons (.bv 2) (.cons (.inp 4) .nil)) (.isb none (.bv 1) (.done [] (some (.op (.eqB true) (.cons (.bv 2) (.cons (.inp 4) .nil)))))))) (.isb none (.bv 1) (.done [] (some (.cst (.bool true))))))))) h6_1 .skip) h6_0)
@[simp] theorem h6_2_wp {P : Program} {F : PF P} {Q : EX → List Value → World → Prop} {env : List Value} {w : World} : h6_2.wp F Q env w = HC.wp F (.seq (.br (.eff (.call 20) (.cons (.inp 0) (.cons (.inp 1) .nil)) (.chk none (.eqB true) (.cons (.bv 0) (.cons (.inp 3) .nil)) (.bnd (.op (.eqB true) (.cons (.bv 0) (.cons (.inp 3) .nil))) (.ite (.bv 1) false (.eff (.call 21) (.cons (.ite (.bv 1) false (.inp 0) (.cst (.tuple #[]))) (.cons (.ite (.bv 1) false (.inp 1) (.cst (.tuple #[]))) .nil)) (.chk none (.eqB true) (.cons (.bv 2) (.cons (.inp 4) .nil)) (.isb none (.bv 1) (.done [] (some (.op (.eqB true) (.cons (.bv 2) (.cons (.inp 4) .nil)))))))) (.isb none (.bv 1) (.done [] (some (.cst (.bool true))))))))) h6_1 .skip) h6_0) Q env w := rfl
def h6_3 : HC := (.seq (.reg (.eff (.call 19) (.cons (.inp 0) .nil) (.eff (.call 19) (.cons (.inp 1) .nil) (.chk none (.bin .eql) (.cons (.bv 0) (.cons (.bv 1) .nil)) (.done [(4, (.op (.bin .eql) (.cons (.bv 0) (.cons (.bv 1) .nil))))] none))))) h6_2)
@[simp] theorem h6_3_wp {P : Program} {F : PF P} {Q : EX → List Value → World → Prop} {env : List Value} {w : World} : h6_3.wp F Q env w = HC.wp F (.seq (.reg (.eff (.call 19) (.cons (.inp 0) .nil) (.eff (.call 19) (.cons (.inp 1) .nil) (.chk none (.bin .eql) (.cons (.bv 0) (.cons (.bv 1) .nil)) (.done [(4, (.op (.bin .eql) (.cons (.bv 0) (.cons (.bv 1) .nil))))] none))))) h6_2) Q env w := rfl
def h6_4 : HC := (.seq (.reg (.eff (.call 17) (.cons (.inp 0) .nil) (.eff (.call 17) (.cons (.inp 1) .nil) (.chk none (.bin .eql) (.cons (.bv 0) (.cons (.bv 1) .nil)) (.done [(3, (.op (.bin .eql) (.cons (.bv 0) (.cons (.bv 1) .nil))))] none))))) h6_3)
@[simp] theorem h6_4_wp {P : Program} {F : PF P} {Q : EX → List Value → World → Prop} {env : List Value} {w : World} : h6_4.wp F Q env w = HC.wp F (.seq (.reg (.eff (.call 17) (.cons (.inp 0) .nil) (.eff (.call 17) (.cons (.inp 1) .nil) (.chk none (.bin .eql) (.cons (.bv 0) (.cons (.bv 1) .nil)) (.done [(3, (.op (.bin .eql) (.cons (.bv 0) (.cons (.bv 1) .nil))))] none))))) h6_3) Q env w := rfl
def l6 : Lifted := ⟨[0, 1, 4, 5, 6], 45, [.slot 2], (.seq (.reg (.done [(2, (.cst (.bool false)))] none)) h6_4)⟩
theorem l6_ok : liftFn F1 6 400 = some l6 := by kernel_rfl


theorem pairs_walk (x y : List UInt8) (w0 w : World) (A : Asn) (hx : x.length ≤ 1048576) (hy : y.length ≤ 1048576) (s : St w0 A w) :
    CallW Try.prog 6 [.string (mk x), .string (mk y)] (fun r w' => r = .bool true ∧ St w0 A w') w := by
  refine callW_of_lift l6_ok (by simp [l6]) ?_
  simp [l6]
  refine eff_call ((rFold_spec x w0 w A hx s).mono ?_)
  rintro r w1 ⟨rfl, s1⟩
  simp
  refine eff_call ((rFold_spec y w0 w1 A hy s1).mono ?_)
  rintro r w2 ⟨rfl, s2⟩
  simp
  refine eff_call ((rLook_spec x w0 w2 A hx s2).mono ?_)
  rintro r w3 ⟨rfl, s3⟩
  simp
  refine eff_call ((rLook_spec y w0 w3 A hy s3).mono ?_)
  rintro r w4 ⟨rfl, s4⟩
  simp
  refine eff_call ((same_spec x y w0 w4 A hx hy s4).mono ?_)
  rintro r w5 ⟨rfl, s5⟩
  simp
  refine eff_call ((alike_spec x y w0 w5 A hx hy s5).mono ?_)
  rintro r w6 ⟨rfl, s6⟩
  simp
  refine eff_call ((Has_spec x y w0 w6 A hx hy s6).mono ?_)
  rintro r w7 ⟨rfl, s7⟩
  simp
  refine eff_call ((rHas_spec x y w0 w7 A hx hy s7).mono ?_)
  rintro r w8 ⟨rfl, s8⟩
  simp
  refine eff_call ((Compare_spec x y w0 w8 A hx hy s8).mono ?_)
  rintro r w9 ⟨rfl, s9⟩
  simp
  refine eff_call ((rCompare_spec x y w0 w9 A hx hy s9).mono ?_)
  rintro r w10 ⟨rfl, s10⟩
  simp
  exact s10
end Go.HL.Nm
