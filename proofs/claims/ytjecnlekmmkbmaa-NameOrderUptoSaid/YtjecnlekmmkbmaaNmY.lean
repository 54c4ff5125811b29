/-
  The law NameOrder returns true for every three texts, where what it reads is of bulk at most 1048576: the walk.
-/
import Derived.Test.YtjecnlekmmkbmaaNmX
import Derived.Test.YtjecnlekmmkbmaaNmV
namespace Go.HL.Nm
open Go.HL Go.Proofs
set_option maxRecDepth 4000
set_option linter.unusedSimpArgs false
set_option linter.unusedVariables false
-- bazaar/bazaarlaw04.NameOrder
def h7_0 : HC := (.seq (.reg (.done [(3, (.cst (.bool true)))] none)) .ret)
@[simp] theorem h7_0_wp {P : Program} {F : PF P} {Q : EX → List Value → World → Prop} {env : List Value} {w : World} : h7_0.wp F Q env w = HC.wp F (.seq (.reg (.done [(3, (.cst (.bool true)))] none)) .ret) Q env w := rfl
def h7_1 : HC := (.seq (.reg (.chk none (.bin .leq) (.cons (.inp 6) (.cons (.cst (.int .i64 0)) .nil)) (.bnd (.op (.bin .leq) (.cons (.inp 6) (.cons (.cst (.int .i64 0)) .nil))) (.isb none (.bv 0) (.done [(3, (.ite (.bv 0) true (.inp 7) (.cst (.bool false))))] none))))) .ret)
@[simp] theorem h7_1_wp {P : Program} {F : PF P} {Q : EX → List Value → World → Prop} {env : List Value} {w : World} : h7_1.wp F Q env w = HC.wp F (.seq (.reg (.chk none (.bin .leq) (.cons (.inp 6) (.cons (.cst (.int .i64 0)) .nil)) (.bnd (.op (.bin .leq) (.cons (.inp 6) (.cons (.cst (.int .i64 0)) .nil))) (.isb none (.bv 0) (.done [(3, (.ite (.bv 0) true (.inp 7) (.cst (.bool false))))] none))))) .ret) Q env w := rfl
def h7_2 : HC := (.seq (.reg (.eff (.call 20) (.cons (.inp 0) (.cons (.inp 2) .nil)) (.chk none (.un .not) (.cons (.bv 0) .nil) (.bnd (.op (.un .not) (.cons (.bv 0) .nil)) (.ite (.bv 1) false (.eff (.call 20) (.cons (.ite (.bv 1) false (.inp 0) (.cst (.tuple #[]))) (.cons (.ite (.bv 1) false (.inp 1) (.cst (.tuple #[]))) .nil)) (.isb none (.bv 1) (.done [(7, (.bv 2))] none))) (.isb none (.bv 1) (.done [(7, (.cst (.bool true)))] none))))))) h7_1)
@[simp] theorem h7_2_wp {P : Program} {F : PF P} {Q : EX → List Value → World → Prop} {env : List Value} {w : World} : h7_2.wp F Q env w = HC.wp F (.seq (.reg (.eff (.call 20) (.cons (.inp 0) (.cons (.inp 2) .nil)) (.chk none (.un .not) (.cons (.bv 0) .nil) (.bnd (.op (.un .not) (.cons (.bv 0) .nil)) (.ite (.bv 1) false (.eff (.call 20) (.cons (.ite (.bv 1) false (.inp 0) (.cst (.tuple #[]))) (.cons (.ite (.bv 1) false (.inp 1) (.cst (.tuple #[]))) .nil)) (.isb none (.bv 1) (.done [(7, (.bv 2))] none))) (.isb none (.bv 1) (.done [(7, (.cst (.bool true)))] none))))))) h7_1) Q env w := rfl
def h7_3 : HC := (.seq (.br (.chk none (.bin .leq) (.cons (.inp 4) (.cons (.cst (.int .i64 0)) .nil)) (.bnd (.op (.bin .leq) (.cons (.inp 4) (.cons (.cst (.int .i64 0)) .nil))) (.chk (some ((.bv 0), true)) (.bin .leq) (.cons (.inp 5) (.cons (.cst (.int .i64 0)) .nil)) (.isb none (.bv 0) (.done [] (some (.ite (.bv 0) true (.op (.bin .leq) (.cons (.inp 5) (.cons (.cst (.int .i64 0)) .nil))) (.cst (.bool false))))))))) h7_2 .skip) h7_0)
@[simp] theorem h7_3_wp {P : Program} {F : PF P} {Q : EX → List Value → World → Prop} {env : List Value} {w : World} : h7_3.wp F Q env w = HC.wp F (.seq (.br (.chk none (.bin .leq) (.cons (.inp 4) (.cons (.cst (.int .i64 0)) .nil)) (.bnd (.op (.bin .leq) (.cons (.inp 4) (.cons (.cst (.int .i64 0)) .nil))) (.chk (some ((.bv 0), true)) (.bin .leq) (.cons (.inp 5) (.cons (.cst (.int .i64 0)) .nil)) (.isb none (.bv 0) (.done [] (some (.ite (.bv 0) true (.op (.bin .leq) (.cons (.inp 5) (.cons (.cst (.int .i64 0)) .nil))) (.cst (.bool false))))))))) h7_2 .skip) h7_0) Q env w := rfl
def h7_4 : HC := (.seq (.reg (.done [(3, (.cst (.bool false)))] none)) .ret)
@[simp] theorem h7_4_wp {P : Program} {F : PF P} {Q : EX → List Value → World → Prop} {env : List Value} {w : World} : h7_4.wp F Q env w = HC.wp F (.seq (.reg (.done [(3, (.cst (.bool false)))] none)) .ret) Q env w := rfl
def h7_5 : HC := (.seq (.br (.chk none (.bin .eql) (.cons (.inp 4) (.cons (.cst (.int .i64 0)) .nil)) (.chk none (.bin .eql) (.cons (.inp 0) (.cons (.inp 1) .nil)) (.chk none (.eqB true) (.cons (.op (.bin .eql) (.cons (.inp 4) (.cons (.cst (.int .i64 0)) .nil))) (.cons (.op (.bin .eql) (.cons (.inp 0) (.cons (.inp 1) .nil))) .nil)) (.bnd (.op (.eqB true) (.cons (.op (.bin .eql) (.cons (.inp 4) (.cons (.cst (.int .i64 0)) .nil))) (.cons (.op (.bin .eql) (.cons (.inp 0) (.cons (.inp 1) .nil))) .nil))) (.ite (.bv 0) false (.eff (.call 24) (.cons (.ite (.bv 0) false (.inp 1) (.cst (.tuple #[]))) (.cons (.ite (.bv 0) false (.inp 0) (.cst (.tuple #[]))) .nil)) (.chk none (.un .neg) (.cons (.inp 4) .nil) (.chk none (.bin .neq) (.cons (.bv 1) (.cons (.op (.un .neg) (.cons (.inp 4) .nil)) .nil)) (.isb none (.bv 0) (.bnd (.op (.bin .neq) (.cons (.bv 1) (.cons (.op (.un .neg) (.cons (.inp 4) .nil)) .nil))) (.ite (.bv 2) false (.eff (.call 24) (.cons (.ite (.bv 2) false (.inp 0) (.cst (.tuple #[]))) (.cons (.ite (.bv 2) false (.inp 0) (.cst (.tuple #[]))) .nil)) (.chk none (.bin .neq) (.cons (.bv 3) (.cons (.cst (.int .i64 0)) .nil)) (.isb none (.bv 2) (.bnd (.op (.bin .neq) (.cons (.bv 3) (.cons (.cst (.int .i64 0)) .nil))) (.chk (some ((.bv 4), false)) (.bin .lss) (.cons (.inp 4) (.cons (.cst (.int .i64 (-1))) .nil)) (.isb none (.bv 4) (.bnd (.ite (.bv 4) true (.cst (.bool true)) (.op (.bin .lss) (.cons (.inp 4) (.cons (.cst (.int .i64 (-1))) .nil)))) (.chk (some ((.bv 5), false)) (.bin .gtr) (.cons (.inp 4) (.cons (.cst (.int .i64 1)) .nil)) (.isb none (.bv 5) (.done [] (some (.ite (.bv 5) true (.cst (.bool true)) (.op (.bin .gtr) (.cons (.inp 4) (.cons (.cst (.int .i64 1)) .nil))))))))))))))) (.isb none (.bv 2) (.isb none (.cst (.bool true)) (.isb none (.cst (.bool true)) (.done [] (some (.cst (.bool true))))))))))))) (.isb none (.bv 0) (.isb none (.cst (.bool true)) (.isb none (.cst (.bool true)) (.isb none (.cst (.bool true)) (.done [] (some (.cst (.bool true))))))))))))) h7_4 .skip) h7_3)
@[simp] theorem h7_5_wp {P : Program} {F : PF P} {Q : EX → List Value → World → Prop} {env : List Value} {w : World} : h7_5.wp F Q env w = HC.wp F (.seq (.br (.chk none (.bin .eql) (.cons (.inp 4) (.cons (.cst (.int .i64 0)) .nil)) (.chk none (.bin .eql) (.cons (.inp 0) (.cons (.inp 1) .nil)) (.chk none (.eqB true) (.cons (.op (.bin .eql) (.cons (.inp 4) (.cons (.cst (.int .i64 0)) .nil))) (.cons (.op (.bin .eql) (.cons (.inp 0) (.cons (.inp 1) .nil))) .nil)) (.bnd (.op (.eqB true) (.cons (.op (.bin .eql) (.cons (.inp 4) (.cons (.cst (.int .i64 0)) .nil))) (.cons (.op (.bin .eql) (.cons (.inp 0) (.cons (.inp 1) .nil))) .nil))) (.ite (.bv 0) false (.eff (.call 24) (.cons (.ite (.bv 0) false (.inp 1) (.cst (.tuple #[]))) (.cons (.ite (.bv 0) false (.inp 0) (.cst (.tuple #[]))) .nil)) (.chk none (.un .neg) (.cons (.inp 4) .nil) (.chk none (.bin .neq) (.cons (.bv 1) (.cons (.op (.un .neg) (.cons (.inp 4) .nil)) .nil)) (.isb none (.bv 0) (.bnd (.op (.bin .neq) (.cons (.bv 1) (.cons (.op (.un .neg) (.cons (.inp 4) .nil)) .nil))) (.ite (.bv 2) false (.eff (.call 24) (.cons (.ite (.bv 2) false (.inp 0) (.cst (.tuple #[]))) (.cons (.ite (.bv 2) false (.inp 0) (.cst (.tuple #[]))) .nil)) (.chk none (.bin .neq) (.cons (.bv 3) (.cons (.cst (.int .i64 0)) .nil)) (.isb none (.bv 2) (.bnd (.op (.bin .neq) (.cons (.bv 3) (.cons (.cst (.int .i64 0)) .nil))) (.chk (some ((.bv 4), false)) (.bin .lss) (.cons (.inp 4) (.cons (.cst (.int .i64 (-1))) .nil)) (.isb none (.bv 4) (.bnd (.ite (.bv 4) true (.cst (.bool true)) (.op (.bin .lss) (.cons (.inp 4) (.cons (.cst (.int .i64 (-1))) .nil)))) (.chk (some ((.bv 5), false)) (.bin .gtr) (.cons (.inp 4) (.cons (.cst (.int .i64 1)) .nil)) (.isb none (.bv 5) (.done [] (some (.ite (.bv 5) true (.cst (.bool true)) (.op (.bin .gtr) (.cons (.inp 4) (.cons (.cst (.int .i64 1)) .nil))))))))))))))) (.isb none (.bv 2) (.isb none (.cst (.bool true)) (.isb none (.cst (.bool true)) (.done [] (some (.cst (.bool true))))))))))))) (.isb none (.bv 0) (.isb none (.cst (.bool true)) (.isb none (.cst (.bool true)) (.isb none (.cst (.bool true)) (.done [] (some (.cst (.bool true))))))))))))) h7_4 .skip) h7_3) Q env w := rfl
def h7_6 : HC := (.seq (.reg (.eff (.call 24) (.cons (.inp 0) (.cons (.inp 2) .nil)) (.done [(6, (.bv 0))] none))) h7_5)
@[simp] theorem h7_6_wp {P : Program} {F : PF P} {Q : EX → List Value → World → Prop} {env : List Value} {w : World} : h7_6.wp F Q env w = HC.wp F (.seq (.reg (.eff (.call 24) (.cons (.inp 0) (.cons (.inp 2) .nil)) (.done [(6, (.bv 0))] none))) h7_5) Q env w := rfl
def h7_7 : HC := (.seq (.reg (.eff (.call 24) (.cons (.inp 1) (.cons (.inp 2) .nil)) (.done [(5, (.bv 0))] none))) h7_6)
@[simp] theorem h7_7_wp {P : Program} {F : PF P} {Q : EX → List Value → World → Prop} {env : List Value} {w : World} : h7_7.wp F Q env w = HC.wp F (.seq (.reg (.eff (.call 24) (.cons (.inp 1) (.cons (.inp 2) .nil)) (.done [(5, (.bv 0))] none))) h7_6) Q env w := rfl
def h7_8 : HC := (.seq (.reg (.eff (.call 24) (.cons (.inp 0) (.cons (.inp 1) .nil)) (.done [(4, (.bv 0))] none))) h7_7)
@[simp] theorem h7_8_wp {P : Program} {F : PF P} {Q : EX → List Value → World → Prop} {env : List Value} {w : World} : h7_8.wp F Q env w = HC.wp F (.seq (.reg (.eff (.call 24) (.cons (.inp 0) (.cons (.inp 1) .nil)) (.done [(4, (.bv 0))] none))) h7_7) Q env w := rfl
def h7_9 : HC := (.seq (.reg (.done [(3, (.cst (.bool false)))] none)) .ret)
@[simp] theorem h7_9_wp {P : Program} {F : PF P} {Q : EX → List Value → World → Prop} {env : List Value} {w : World} : h7_9.wp F Q env w = HC.wp F (.seq (.reg (.done [(3, (.cst (.bool false)))] none)) .ret) Q env w := rfl
def h7_10 : HC := (.seq (.br (.eff (.call 26) .nil (.chk none (.un .not) (.cons (.bv 0) .nil) (.done [] (some (.op (.un .not) (.cons (.bv 0) .nil)))))) h7_9 .skip) h7_8)
@[simp] theorem h7_10_wp {P : Program} {F : PF P} {Q : EX → List Value → World → Prop} {env : List Value} {w : World} : h7_10.wp F Q env w = HC.wp F (.seq (.br (.eff (.call 26) .nil (.chk none (.un .not) (.cons (.bv 0) .nil) (.done [] (some (.op (.un .not) (.cons (.bv 0) .nil)))))) h7_9 .skip) h7_8) Q env w := rfl
def l7 : Lifted := ⟨[0, 1, 2, 6, 7, 8, 9, 10], 70, [.slot 3], (.seq (.reg (.done [(3, (.cst (.bool false)))] none)) h7_10)⟩
theorem l7_ok : liftFn F1 7 400 = some l7 := by kernel_rfl


theorem order_walk (x y z : List UInt8) (w0 w : World) (A : Asn) (hx : x.length ≤ 1048576) (hy : y.length ≤ 1048576) (hz : z.length ≤ 1048576) (s : St w0 A w) :
    CallW Try.prog 7 [.string (mk x), .string (mk y), .string (mk z)] (fun r w' => r = .bool true ∧ St w0 A w') w := by
  refine callW_of_lift l7_ok (by simp [l7]) ?_
  simp [l7]
  refine eff_call ((awake_spec w0 w A s).mono ?_)
  rintro r w1 ⟨rfl, s1⟩
  simp
  refine eff_call ((Compare_spec x y w0 w1 A hx hy s1).mono ?_)
  rintro r w2 ⟨rfl, s2⟩
  simp
  refine eff_call ((Compare_spec y z w0 w2 A hy hz s2).mono ?_)
  rintro r w3 ⟨rfl, s3⟩
  simp
  refine eff_call ((Compare_spec x z w0 w3 A hx hz s3).mono ?_)
  rintro r w4 ⟨rfl, s4⟩
  simp
  have key : (decide (compareF x y = 0) != (x == y)) = false := by
    by_cases e : x = y
    · subst e; simp [cmpF_self]
    · have : compareF x y ≠ 0 := fun h => e (cmpF_zero h)
      simp [e, this]
  have bd := cmpF_bd x y
  rw [key]
  simp
  refine eff_call ((Compare_spec y x w0 w4 A hy hx s4).mono ?_)
  rintro r w5 ⟨rfl, s5⟩
  have hw : IntKind.i64.wrap (-compareF x y) = compareF y x := by rw [cmpF_swap x y, wrap64 (by omega) (by omega)]
  simp [hw, cmpF_self]
  refine eff_call ((Compare_spec x x w0 w5 A hx hx s5).mono ?_)
  rintro r w6 ⟨rfl, s6⟩
  have n1 : ¬ compareF x y < -1 := by omega
  have n2 : ¬ 1 < compareF x y := by omega
  simp [cmpF_self, n1, n2]
  by_cases h1 : compareF x y ≤ 0
  · by_cases h2 : compareF y z ≤ 0
    · simp [h1, h2]
      refine eff_call ((same_spec x z w0 w6 A hx hz s6).mono ?_)
      rintro r w7 ⟨rfl, s7⟩
      by_cases h3 : encAll (foldedF x) = encAll (foldedF z)
      · have h3' : (encAll (foldedF x) == encAll (foldedF z)) = true := by simpa using h3
        rw [h3']
        simp
        refine eff_call ((same_spec x y w0 w7 A hx hy s7).mono ?_)
        rintro r w8 ⟨rfl, s8⟩
        have h4 : (encAll (foldedF x) == encAll (foldedF y)) = true := by simpa using cmpF_mid h1 h2 h3
        simp [cmpF_trans h1 h2, h4]
        exact s8
      · have h3' : (encAll (foldedF x) == encAll (foldedF z)) = false := by simpa using h3
        rw [h3']
        simp [cmpF_trans h1 h2]
        exact s7
    · simp [h1, h2]
      exact s6
  · simp [h1]
    exact s6
end Go.HL.Nm
