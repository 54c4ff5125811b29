/-
  The law NameParts returns true for every three texts and every number, where what it reads is of bulk at most 1048576: the walk.
-/
import Derived.Test.YtjecnlekmmkbmaaNmPa
import Derived.Test.YtjecnlekmmkbmaaNmV
namespace Go.HL.Nm
open Go.HL Go.Proofs
set_option maxRecDepth 4000
set_option linter.unusedSimpArgs false
set_option linter.unusedVariables false
-- bazaar/bazaarlaw04.NameParts
def h9_0 : HC := (.seq (.reg (.eff (.call 22) (.cons (.inp 0) (.cons (.inp 1) .nil)) (.chk none (.un .not) (.cons (.bv 0) .nil) (.bnd (.op (.un .not) (.cons (.bv 0) .nil)) (.ite (.bv 1) false (.eff (.call 22) (.cons (.ite (.bv 1) false (.inp 1) (.cst (.tuple #[]))) (.cons (.ite (.bv 1) false (.inp 2) (.cst (.tuple #[]))) .nil)) (.chk none (.un .not) (.cons (.bv 2) .nil) (.isb none (.bv 1) (.bnd (.op (.un .not) (.cons (.bv 2) .nil)) (.ite (.bv 3) false (.eff (.call 22) (.cons (.ite (.bv 3) false (.inp 0) (.cst (.tuple #[]))) (.cons (.ite (.bv 3) false (.inp 2) (.cst (.tuple #[]))) .nil)) (.isb none (.bv 3) (.done [(4, (.bv 4))] none))) (.isb none (.bv 3) (.done [(4, (.cst (.bool true)))] none))))))) (.isb none (.bv 1) (.isb none (.cst (.bool true)) (.done [(4, (.cst (.bool true)))] none)))))))) .ret)
@[simp] theorem h9_0_wp {P : Program} {F : PF P} {Q : EX → List Value → World → Prop} {env : List Value} {w : World} : h9_0.wp F Q env w = HC.wp F (.seq (.reg (.eff (.call 22) (.cons (.inp 0) (.cons (.inp 1) .nil)) (.chk none (.un .not) (.cons (.bv 0) .nil) (.bnd (.op (.un .not) (.cons (.bv 0) .nil)) (.ite (.bv 1) false (.eff (.call 22) (.cons (.ite (.bv 1) false (.inp 1) (.cst (.tuple #[]))) (.cons (.ite (.bv 1) false (.inp 2) (.cst (.tuple #[]))) .nil)) (.chk none (.un .not) (.cons (.bv 2) .nil) (.isb none (.bv 1) (.bnd (.op (.un .not) (.cons (.bv 2) .nil)) (.ite (.bv 3) false (.eff (.call 22) (.cons (.ite (.bv 3) false (.inp 0) (.cst (.tuple #[]))) (.cons (.ite (.bv 3) false (.inp 2) (.cst (.tuple #[]))) .nil)) (.isb none (.bv 3) (.done [(4, (.bv 4))] none))) (.isb none (.bv 3) (.done [(4, (.cst (.bool true)))] none))))))) (.isb none (.bv 1) (.isb none (.cst (.bool true)) (.done [(4, (.cst (.bool true)))] none)))))))) .ret) Q env w := rfl
def h9_1 : HC := (.seq (.reg (.done [(4, (.cst (.bool false)))] none)) .ret)
@[simp] theorem h9_1_wp {P : Program} {F : PF P} {Q : EX → List Value → World → Prop} {env : List Value} {w : World} : h9_1.wp F Q env w = HC.wp F (.seq (.reg (.done [(4, (.cst (.bool false)))] none)) .ret) Q env w := rfl
def h9_2 : HC := (.seq (.br (.chk none (.bin .geq) (.cons (.inp 3) (.cons (.cst (.int .i64 0)) .nil)) (.bnd (.op (.bin .geq) (.cons (.inp 3) (.cons (.cst (.int .i64 0)) .nil))) (.ite (.bv 0) true (.eff (.call 11) (.cons (.ite (.bv 0) true (.inp 5) (.cst (.tuple #[]))) .nil) (.eff (.call 11) (.cons (.inp 0) .nil) (.eff (.bi .min #[3, 3] 3 #[false, false]) (.cons (.inp 3) (.cons (.bv 2) .nil)) (.chk none (.bin .neq) (.cons (.bv 1) (.cons (.bv 3) .nil)) (.isb none (.bv 0) (.bnd (.op (.bin .neq) (.cons (.bv 1) (.cons (.bv 3) .nil))) (.chk (some ((.bv 4), false)) (.bin .lss) (.cons (.inp 3) (.cons (.cst (.int .i64 0)) .nil)) (.bnd (.ite (.bv 4) false (.op (.bin .lss) (.cons (.inp 3) (.cons (.cst (.int .i64 0)) .nil))) (.cst (.tuple #[]))) (.chk (some ((.bv 5), true)) (.bin .neq) (.cons (.inp 5) (.cons (.cst (.string ⟨#[]⟩)) .nil)) (.isb (some ((.bv 4), false)) (.bv 5) (.isb none (.bv 4) (.done [] (some (.ite (.bv 4) true (.cst (.bool true)) (.ite (.bv 5) true (.op (.bin .neq) (.cons (.inp 5) (.cons (.cst (.string ⟨#[]⟩)) .nil))) (.cst (.bool false))))))))))))))))) (.isb none (.bv 0) (.chk none (.bin .lss) (.cons (.inp 3) (.cons (.cst (.int .i64 0)) .nil)) (.bnd (.op (.bin .lss) (.cons (.inp 3) (.cons (.cst (.int .i64 0)) .nil))) (.chk (some ((.bv 1), true)) (.bin .neq) (.cons (.inp 5) (.cons (.cst (.string ⟨#[]⟩)) .nil)) (.isb none (.bv 1) (.isb none (.cst (.bool false)) (.done [] (some (.ite (.bv 1) true (.op (.bin .neq) (.cons (.inp 5) (.cons (.cst (.string ⟨#[]⟩)) .nil))) (.cst (.bool false)))))))))))))) h9_1 .skip) h9_0)
@[simp] theorem h9_2_wp {P : Program} {F : PF P} {Q : EX → List Value → World → Prop} {env : List Value} {w : World} : h9_2.wp F Q env w = HC.wp F (.seq (.br (.chk none (.bin .geq) (.cons (.inp 3) (.cons (.cst (.int .i64 0)) .nil)) (.bnd (.op (.bin .geq) (.cons (.inp 3) (.cons (.cst (.int .i64 0)) .nil))) (.ite (.bv 0) true (.eff (.call 11) (.cons (.ite (.bv 0) true (.inp 5) (.cst (.tuple #[]))) .nil) (.eff (.call 11) (.cons (.inp 0) .nil) (.eff (.bi .min #[3, 3] 3 #[false, false]) (.cons (.inp 3) (.cons (.bv 2) .nil)) (.chk none (.bin .neq) (.cons (.bv 1) (.cons (.bv 3) .nil)) (.isb none (.bv 0) (.bnd (.op (.bin .neq) (.cons (.bv 1) (.cons (.bv 3) .nil))) (.chk (some ((.bv 4), false)) (.bin .lss) (.cons (.inp 3) (.cons (.cst (.int .i64 0)) .nil)) (.bnd (.ite (.bv 4) false (.op (.bin .lss) (.cons (.inp 3) (.cons (.cst (.int .i64 0)) .nil))) (.cst (.tuple #[]))) (.chk (some ((.bv 5), true)) (.bin .neq) (.cons (.inp 5) (.cons (.cst (.string ⟨#[]⟩)) .nil)) (.isb (some ((.bv 4), false)) (.bv 5) (.isb none (.bv 4) (.done [] (some (.ite (.bv 4) true (.cst (.bool true)) (.ite (.bv 5) true (.op (.bin .neq) (.cons (.inp 5) (.cons (.cst (.string ⟨#[]⟩)) .nil))) (.cst (.bool false))))))))))))))))) (.isb none (.bv 0) (.chk none (.bin .lss) (.cons (.inp 3) (.cons (.cst (.int .i64 0)) .nil)) (.bnd (.op (.bin .lss) (.cons (.inp 3) (.cons (.cst (.int .i64 0)) .nil))) (.chk (some ((.bv 1), true)) (.bin .neq) (.cons (.inp 5) (.cons (.cst (.string ⟨#[]⟩)) .nil)) (.isb none (.bv 1) (.isb none (.cst (.bool false)) (.done [] (some (.ite (.bv 1) true (.op (.bin .neq) (.cons (.inp 5) (.cons (.cst (.string ⟨#[]⟩)) .nil))) (.cst (.bool false)))))))))))))) h9_1 .skip) h9_0) Q env w := rfl
def h9_3 : HC := (.seq (.reg (.done [(4, (.cst (.bool false)))] none)) .ret)
@[simp] theorem h9_3_wp {P : Program} {F : PF P} {Q : EX → List Value → World → Prop} {env : List Value} {w : World} : h9_3.wp F Q env w = HC.wp F (.seq (.reg (.done [(4, (.cst (.bool false)))] none)) .ret) Q env w := rfl
def h9_4 : HC := (.seq (.br (.eff (.call 11) (.cons (.inp 5) .nil) (.eff (.call 11) (.cons (.inp 6) .nil) (.chk none (.bin .add) (.cons (.bv 0) (.cons (.bv 1) .nil)) (.eff (.call 11) (.cons (.inp 0) .nil) (.chk none (.bin .neq) (.cons (.op (.bin .add) (.cons (.bv 0) (.cons (.bv 1) .nil))) (.cons (.bv 2) .nil)) (.bnd (.op (.bin .neq) (.cons (.op (.bin .add) (.cons (.bv 0) (.cons (.bv 1) .nil))) (.cons (.bv 2) .nil))) (.ite (.bv 3) false (.eff (.call 22) (.cons (.ite (.bv 3) false (.inp 0) (.cst (.tuple #[]))) (.cons (.ite (.bv 3) false (.inp 5) (.cst (.tuple #[]))) .nil)) (.chk none (.un .not) (.cons (.bv 4) .nil) (.isb none (.bv 3) (.bnd (.op (.un .not) (.cons (.bv 4) .nil)) (.ite (.bv 5) false (.eff (.call 22) (.cons (.ite (.bv 5) false (.inp 0) (.cst (.tuple #[]))) (.cons (.ite (.bv 5) false (.inp 6) (.cst (.tuple #[]))) .nil)) (.chk none (.un .not) (.cons (.bv 6) .nil) (.isb none (.bv 5) (.bnd (.op (.un .not) (.cons (.bv 6) .nil)) (.ite (.bv 7) false (.eff (.call 22) (.cons (.ite (.bv 7) false (.inp 0) (.cst (.tuple #[]))) (.cons (.cst (.string ⟨#[]⟩)) .nil)) (.chk none (.un .not) (.cons (.bv 8) .nil) (.isb none (.bv 7) (.done [] (some (.op (.un .not) (.cons (.bv 8) .nil))))))) (.isb none (.bv 7) (.done [] (some (.cst (.bool true)))))))))) (.isb none (.bv 5) (.isb none (.cst (.bool true)) (.done [] (some (.cst (.bool true))))))))))) (.isb none (.bv 3) (.isb none (.cst (.bool true)) (.isb none (.cst (.bool true)) (.done [] (some (.cst (.bool true)))))))))))))) h9_3 .skip) h9_2)
@[simp] theorem h9_4_wp {P : Program} {F : PF P} {Q : EX → List Value → World → Prop} {env : List Value} {w : World} : h9_4.wp F Q env w = HC.wp F (.seq (.br (.eff (.call 11) (.cons (.inp 5) .nil) (.eff (.call 11) (.cons (.inp 6) .nil) (.chk none (.bin .add) (.cons (.bv 0) (.cons (.bv 1) .nil)) (.eff (.call 11) (.cons (.inp 0) .nil) (.chk none (.bin .neq) (.cons (.op (.bin .add) (.cons (.bv 0) (.cons (.bv 1) .nil))) (.cons (.bv 2) .nil)) (.bnd (.op (.bin .neq) (.cons (.op (.bin .add) (.cons (.bv 0) (.cons (.bv 1) .nil))) (.cons (.bv 2) .nil))) (.ite (.bv 3) false (.eff (.call 22) (.cons (.ite (.bv 3) false (.inp 0) (.cst (.tuple #[]))) (.cons (.ite (.bv 3) false (.inp 5) (.cst (.tuple #[]))) .nil)) (.chk none (.un .not) (.cons (.bv 4) .nil) (.isb none (.bv 3) (.bnd (.op (.un .not) (.cons (.bv 4) .nil)) (.ite (.bv 5) false (.eff (.call 22) (.cons (.ite (.bv 5) false (.inp 0) (.cst (.tuple #[]))) (.cons (.ite (.bv 5) false (.inp 6) (.cst (.tuple #[]))) .nil)) (.chk none (.un .not) (.cons (.bv 6) .nil) (.isb none (.bv 5) (.bnd (.op (.un .not) (.cons (.bv 6) .nil)) (.ite (.bv 7) false (.eff (.call 22) (.cons (.ite (.bv 7) false (.inp 0) (.cst (.tuple #[]))) (.cons (.cst (.string ⟨#[]⟩)) .nil)) (.chk none (.un .not) (.cons (.bv 8) .nil) (.isb none (.bv 7) (.done [] (some (.op (.un .not) (.cons (.bv 8) .nil))))))) (.isb none (.bv 7) (.done [] (some (.cst (.bool true)))))))))) (.isb none (.bv 5) (.isb none (.cst (.bool true)) (.done [] (some (.cst (.bool true))))))))))) (.isb none (.bv 3) (.isb none (.cst (.bool true)) (.isb none (.cst (.bool true)) (.done [] (some (.cst (.bool true)))))))))))))) h9_3 .skip) h9_2) Q env w := rfl
def h9_5 : HC := (.seq (.reg (.chk none .lenS (.cons (.inp 5) .nil) (.chk none (.slS true false) (.cons (.inp 0) (.cons (.op .lenS (.cons (.inp 5) .nil)) .nil)) (.done [(6, (.op (.slS true false) (.cons (.inp 0) (.cons (.op .lenS (.cons (.inp 5) .nil)) .nil))))] none)))) h9_4)
@[simp] theorem h9_5_wp {P : Program} {F : PF P} {Q : EX → List Value → World → Prop} {env : List Value} {w : World} : h9_5.wp F Q env w = HC.wp F (.seq (.reg (.chk none .lenS (.cons (.inp 5) .nil) (.chk none (.slS true false) (.cons (.inp 0) (.cons (.op .lenS (.cons (.inp 5) .nil)) .nil)) (.done [(6, (.op (.slS true false) (.cons (.inp 0) (.cons (.op .lenS (.cons (.inp 5) .nil)) .nil))))] none)))) h9_4) Q env w := rfl
def h9_6 : HC := (.seq (.reg (.done [(4, (.cst (.bool false)))] none)) .ret)
@[simp] theorem h9_6_wp {P : Program} {F : PF P} {Q : EX → List Value → World → Prop} {env : List Value} {w : World} : h9_6.wp F Q env w = HC.wp F (.seq (.reg (.done [(4, (.cst (.bool false)))] none)) .ret) Q env w := rfl
def h9_7 : HC := (.seq (.br (.chk none .lenS (.cons (.inp 5) .nil) (.chk none .lenS (.cons (.inp 0) .nil) (.chk none (.bin .gtr) (.cons (.op .lenS (.cons (.inp 5) .nil)) (.cons (.op .lenS (.cons (.inp 0) .nil)) .nil)) (.bnd (.op (.bin .gtr) (.cons (.op .lenS (.cons (.inp 5) .nil)) (.cons (.op .lenS (.cons (.inp 0) .nil)) .nil))) (.chk (some ((.bv 0), false)) .lenS (.cons (.inp 5) .nil) (.chk (some ((.bv 0), false)) (.slS false true) (.cons (.inp 0) (.cons (.op .lenS (.cons (.inp 5) .nil)) .nil)) (.chk (some ((.bv 0), false)) (.bin .neq) (.cons (.op (.slS false true) (.cons (.inp 0) (.cons (.op .lenS (.cons (.inp 5) .nil)) .nil))) (.cons (.inp 5) .nil)) (.isb none (.bv 0) (.done [] (some (.ite (.bv 0) true (.cst (.bool true)) (.op (.bin .neq) (.cons (.op (.slS false true) (.cons (.inp 0) (.cons (.op .lenS (.cons (.inp 5) .nil)) .nil))) (.cons (.inp 5) .nil)))))))))))))) h9_6 .skip) h9_5)
@[simp] theorem h9_7_wp {P : Program} {F : PF P} {Q : EX → List Value → World → Prop} {env : List Value} {w : World} : h9_7.wp F Q env w = HC.wp F (.seq (.br (.chk none .lenS (.cons (.inp 5) .nil) (.chk none .lenS (.cons (.inp 0) .nil) (.chk none (.bin .gtr) (.cons (.op .lenS (.cons (.inp 5) .nil)) (.cons (.op .lenS (.cons (.inp 0) .nil)) .nil)) (.bnd (.op (.bin .gtr) (.cons (.op .lenS (.cons (.inp 5) .nil)) (.cons (.op .lenS (.cons (.inp 0) .nil)) .nil))) (.chk (some ((.bv 0), false)) .lenS (.cons (.inp 5) .nil) (.chk (some ((.bv 0), false)) (.slS false true) (.cons (.inp 0) (.cons (.op .lenS (.cons (.inp 5) .nil)) .nil)) (.chk (some ((.bv 0), false)) (.bin .neq) (.cons (.op (.slS false true) (.cons (.inp 0) (.cons (.op .lenS (.cons (.inp 5) .nil)) .nil))) (.cons (.inp 5) .nil)) (.isb none (.bv 0) (.done [] (some (.ite (.bv 0) true (.cst (.bool true)) (.op (.bin .neq) (.cons (.op (.slS false true) (.cons (.inp 0) (.cons (.op .lenS (.cons (.inp 5) .nil)) .nil))) (.cons (.inp 5) .nil)))))))))))))) h9_6 .skip) h9_5) Q env w := rfl
def h9_8 : HC := (.seq (.reg (.eff (.call 12) (.cons (.inp 0) (.cons (.inp 3) .nil)) (.done [(5, (.bv 0))] none))) h9_7)
@[simp] theorem h9_8_wp {P : Program} {F : PF P} {Q : EX → List Value → World → Prop} {env : List Value} {w : World} : h9_8.wp F Q env w = HC.wp F (.seq (.reg (.eff (.call 12) (.cons (.inp 0) (.cons (.inp 3) .nil)) (.done [(5, (.bv 0))] none))) h9_7) Q env w := rfl
def h9_9 : HC := (.seq (.reg (.done [(4, (.cst (.bool false)))] none)) .ret)
@[simp] theorem h9_9_wp {P : Program} {F : PF P} {Q : EX → List Value → World → Prop} {env : List Value} {w : World} : h9_9.wp F Q env w = HC.wp F (.seq (.reg (.done [(4, (.cst (.bool false)))] none)) .ret) Q env w := rfl
def h9_10 : HC := (.seq (.br (.eff (.call 26) .nil (.chk none (.un .not) (.cons (.bv 0) .nil) (.done [] (some (.op (.un .not) (.cons (.bv 0) .nil)))))) h9_9 .skip) h9_8)
@[simp] theorem h9_10_wp {P : Program} {F : PF P} {Q : EX → List Value → World → Prop} {env : List Value} {w : World} : h9_10.wp F Q env w = HC.wp F (.seq (.br (.eff (.call 26) .nil (.chk none (.un .not) (.cons (.bv 0) .nil) (.done [] (some (.op (.un .not) (.cons (.bv 0) .nil)))))) h9_9 .skip) h9_8) Q env w := rfl
def l9 : Lifted := ⟨[0, 1, 2, 3, 8, 9, 10], 92, [.slot 4], (.seq (.reg (.done [(4, (.cst (.bool false)))] none)) h9_10)⟩
theorem l9_ok : liftFn F1 9 400 = some l9 := by kernel_rfl


theorem eff_min {P : Program} {ats : Array TypeId} {ty : TypeId} {cs : Array Bool} {k k' : IntKind} {a b : Int} {K : Value → World → Prop} {w : World} (hk : K (.int k (if b < a then b else a)) w) :
    EffW P (.bi .min ats ty cs) [.int k a, .int k' b] K w := by
  intro _
  refine upon_val (s := Builtin.min_ ats ty #[.int k a, .int k' b]) (w' := w) ?_ hk
  simp [Builtin.min_, Builtin.min2]
theorem parts_walk (x y z : List UInt8) (n : Int) (w0 w : World) (A : Asn) (hx : x.length ≤ 1048576) (hy : y.length ≤ 1048576) (hz : z.length ≤ 1048576) (hn : -9223372036854775808 ≤ n ∧ n ≤ 9223372036854775807) (s : St w0 A w) :
    CallW Try.prog 9 [.string (mk x), .string (mk y), .string (mk z), .int .i64 n] (fun r w' => r = .bool true ∧ St w0 A w') w := by
  have hc := cut_le x n
  have ht := cut_take x n
  have hsum := cut_sum x n
  have hu := units_len x
  refine callW_of_lift l9_ok (by simp [l9]) ?_
  simp [l9]
  refine eff_call ((awake_spec w0 w A s).mono ?_)
  rintro r w1 ⟨rfl, s1⟩
  simp
  refine eff_call ((cut_spec x n w0 w1 A hx hn s1).mono ?_)
  rintro r w2 ⟨rfl, s2⟩
  simp
  have c1 : (decide (x.length < (cutF x n).length) || !(x.take (cutF x n).length == cutF x n)) = false := by
    have : ¬ x.length < (cutF x n).length := by omega
    simp [this, ht]
  rw [c1]
  simp [hc]
  refine eff_call ((runes_spec (cutF x n) w0 w2 A (by omega) s2).mono ?_)
  rintro r w3 ⟨rfl, s3⟩
  simp
  refine eff_call ((runes_spec (x.drop (cutF x n).length) w0 w3 A (by rw [List.length_drop]; omega) s3).mono ?_)
  rintro r w4 ⟨rfl, s4⟩
  simp
  refine eff_call ((runes_spec x w0 w4 A hx s4).mono ?_)
  rintro r w5 ⟨rfl, s5⟩
  have hw : IntKind.i64.wrap ((units (cutF x n)).length + (units (x.drop (cutF x n).length)).length) = (units x).length := by
    rw [wrap64 (by omega) (by omega)]; omega
  simp [hw]
  refine eff_call ((Has_spec x (cutF x n) w0 w5 A hx (by omega) s5).mono ?_)
  rintro r w6 ⟨rfl, s6⟩
  simp [has_cut]
  refine eff_call ((Has_spec x (x.drop (cutF x n).length) w0 w6 A hx (by rw [List.length_drop]; omega) s6).mono ?_)
  rintro r w7 ⟨rfl, s7⟩
  simp [has_rest]
  refine eff_call ((Has_spec x [] w0 w7 A hx (by simp) s7).mono ?_)
  rintro r w8 ⟨rfl, s8⟩
  simp [has_none]
  have fin : ∀ w9, St w0 A w9 → HC.wp F1 h9_0 (endQ Try.prog [RV.slot 4] fun r w' => r = Value.bool true ∧ St w0 A w')
      [.string (mk x), .string (mk y), .string (mk z), .int .i64 n, .bool false, .string (mk (cutF x n)), .string (mk (x.drop (cutF x n).length))] w9 := by
    intro w9 s9
    simp
    refine eff_call ((Has_spec x y w0 w9 A hx hy s9).mono ?_)
    rintro r w10 ⟨rfl, s10⟩
    by_cases h1 : hasF (foldedF x) (foldedF y) = true
    · simp [h1]
      refine eff_call ((Has_spec y z w0 w10 A hy hz s10).mono ?_)
      rintro r w11 ⟨rfl, s11⟩
      by_cases h2 : hasF (foldedF y) (foldedF z) = true
      · simp [h2]
        refine eff_call ((Has_spec x z w0 w11 A hx hz s11).mono ?_)
        rintro r w12 ⟨rfl, s12⟩
        simp [has_trans h1 h2]
        exact s12
      · simp [h2]
        exact s11
    · simp [h1]
      exact s10
  by_cases h0 : 0 ≤ n
  · simp [h0]
    refine eff_call ((runes_spec (cutF x n) w0 w8 A (by omega) s8).mono ?_)
    rintro r w9 ⟨rfl, s9⟩
    simp
    refine eff_call ((runes_spec x w0 w9 A hx s9).mono ?_)
    rintro r w10 ⟨rfl, s10⟩
    simp
    refine eff_min ?_
    have e : (if ((units x).length : Int) < n then ((units x).length : Int) else n) = (units (cutF x n)).length := by
      rw [cut_units, List.length_take]
      split <;> omega
    have hn0 : ¬ n < 0 := by omega
    simp [e, hn0]
    simpa using fin w10 s10
  · have hc0 : cutF x n = [] := by
      unfold cutF
      have : n.toNat = 0 := by omega
      rw [this]; simp [sumW]
    have hn0 : n < 0 := by omega
    simp [h0, hn0, hc0]
    simpa [hc0] using fin w8 s8
end Go.HL.Nm
