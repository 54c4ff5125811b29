/-
  The law NameOnce returns true for every two texts, where what it reads is of bulk at most 1048576: the walk.
-/
import Derived.Test.YtjecnlekmmkbmaaNmZ
import Derived.Test.YtjecnlekmmkbmaaNmV
namespace Go.HL.Nm
open Go.HL Go.Proofs
set_option maxRecDepth 4000
set_option linter.unusedSimpArgs false
set_option linter.unusedVariables false
-- bazaar/bazaarlaw04.NameOnce
def h8_0 : HC := (.seq (.reg (.eff (.call 11) (.cons (.inp 3) .nil) (.eff (.call 11) (.cons (.inp 0) .nil) (.chk none (.bin .geq) (.cons (.bv 0) (.cons (.bv 1) .nil)) (.bnd (.op (.bin .geq) (.cons (.bv 0) (.cons (.bv 1) .nil))) (.ite (.bv 2) true (.eff (.call 11) (.cons (.ite (.bv 2) true (.inp 3) (.cst (.tuple #[]))) .nil) (.eff (.call 11) (.cons (.inp 0) .nil) (.chk none (.bin .mul) (.cons (.cst (.int .i64 2)) (.cons (.bv 4) .nil)) (.chk none (.bin .leq) (.cons (.bv 3) (.cons (.op (.bin .mul) (.cons (.cst (.int .i64 2)) (.cons (.bv 4) .nil))) .nil)) (.isb none (.bv 2) (.done [(2, (.op (.bin .leq) (.cons (.bv 3) (.cons (.op (.bin .mul) (.cons (.cst (.int .i64 2)) (.cons (.bv 4) .nil))) .nil))))] none)))))) (.isb none (.bv 2) (.done [(2, (.cst (.bool false)))] none)))))))) .ret)
@[simp] theorem h8_0_wp {P : Program} {F : PF P} {Q : EX → List Value → World → Prop} {env : List Value} {w : World} : h8_0.wp F Q env w = HC.wp F (.seq (.reg (.eff (.call 11) (.cons (.inp 3) .nil) (.eff (.call 11) (.cons (.inp 0) .nil) (.chk none (.bin .geq) (.cons (.bv 0) (.cons (.bv 1) .nil)) (.bnd (.op (.bin .geq) (.cons (.bv 0) (.cons (.bv 1) .nil))) (.ite (.bv 2) true (.eff (.call 11) (.cons (.ite (.bv 2) true (.inp 3) (.cst (.tuple #[]))) .nil) (.eff (.call 11) (.cons (.inp 0) .nil) (.chk none (.bin .mul) (.cons (.cst (.int .i64 2)) (.cons (.bv 4) .nil)) (.chk none (.bin .leq) (.cons (.bv 3) (.cons (.op (.bin .mul) (.cons (.cst (.int .i64 2)) (.cons (.bv 4) .nil))) .nil)) (.isb none (.bv 2) (.done [(2, (.op (.bin .leq) (.cons (.bv 3) (.cons (.op (.bin .mul) (.cons (.cst (.int .i64 2)) (.cons (.bv 4) .nil))) .nil))))] none)))))) (.isb none (.bv 2) (.done [(2, (.cst (.bool false)))] none)))))))) .ret) Q env w := rfl
def h8_1 : HC := (.reg (.chk none (.bin .add) (.cons (.inp 7) (.cons (.cst (.int .i64 1)) .nil)) (.done [(7, (.op (.bin .add) (.cons (.inp 7) (.cons (.cst (.int .i64 1)) .nil))))] none)))
@[simp] theorem h8_1_wp {P : Program} {F : PF P} {Q : EX → List Value → World → Prop} {env : List Value} {w : World} : h8_1.wp F Q env w = HC.wp F (.reg (.chk none (.bin .add) (.cons (.inp 7) (.cons (.cst (.int .i64 1)) .nil)) (.done [(7, (.op (.bin .add) (.cons (.inp 7) (.cons (.cst (.int .i64 1)) .nil))))] none))) Q env w := rfl
def h8_2 : HC := (.seq (.reg (.done [(2, (.cst (.bool false)))] none)) .ret)
@[simp] theorem h8_2_wp {P : Program} {F : PF P} {Q : EX → List Value → World → Prop} {env : List Value} {w : World} : h8_2.wp F Q env w = HC.wp F (.seq (.reg (.done [(2, (.cst (.bool false)))] none)) .ret) Q env w := rfl
def h8_3 : HC := (.br (.chk none (.un .not) (.cons (.inp 8) .nil) (.bnd (.op (.un .not) (.cons (.inp 8) .nil)) (.chk (some ((.bv 0), true)) (.un .not) (.cons (.inp 9) .nil) (.isb none (.bv 0) (.done [] (some (.ite (.bv 0) true (.op (.un .not) (.cons (.inp 9) .nil)) (.cst (.bool false))))))))) h8_2 .skip)
@[simp] theorem h8_3_wp {P : Program} {F : PF P} {Q : EX → List Value → World → Prop} {env : List Value} {w : World} : h8_3.wp F Q env w = HC.wp F (.br (.chk none (.un .not) (.cons (.inp 8) .nil) (.bnd (.op (.un .not) (.cons (.inp 8) .nil)) (.chk (some ((.bv 0), true)) (.un .not) (.cons (.inp 9) .nil) (.isb none (.bv 0) (.done [] (some (.ite (.bv 0) true (.op (.un .not) (.cons (.inp 9) .nil)) (.cst (.bool false))))))))) h8_2 .skip) Q env w := rfl
def h8_4 : HC := (.seq (.reg (.chk none (.idxL 1) (.cons (.inp 6) (.cons (.inp 7) .nil)) (.eff (.ld false 1) (.cons (.op (.idxL 1) (.cons (.inp 6) (.cons (.inp 7) .nil))) .nil) (.chk none (.cal 28) (.cons (.bv 0) .nil) (.done [(9, (.op (.cal 28) (.cons (.bv 0) .nil)))] none))))) h8_3)
@[simp] theorem h8_4_wp {P : Program} {F : PF P} {Q : EX → List Value → World → Prop} {env : List Value} {w : World} : h8_4.wp F Q env w = HC.wp F (.seq (.reg (.chk none (.idxL 1) (.cons (.inp 6) (.cons (.inp 7) .nil)) (.eff (.ld false 1) (.cons (.op (.idxL 1) (.cons (.inp 6) (.cons (.inp 7) .nil))) .nil) (.chk none (.cal 28) (.cons (.bv 0) .nil) (.done [(9, (.op (.cal 28) (.cons (.bv 0) .nil)))] none))))) h8_3) Q env w := rfl
def h8_5 : HC := (.seq (.reg (.chk none (.idxL 1) (.cons (.inp 6) (.cons (.inp 7) .nil)) (.eff (.ld false 1) (.cons (.op (.idxL 1) (.cons (.inp 6) (.cons (.inp 7) .nil))) .nil) (.chk none (.cal 27) (.cons (.bv 0) .nil) (.done [(8, (.op (.cal 27) (.cons (.bv 0) .nil)))] none))))) h8_4)
@[simp] theorem h8_5_wp {P : Program} {F : PF P} {Q : EX → List Value → World → Prop} {env : List Value} {w : World} : h8_5.wp F Q env w = HC.wp F (.seq (.reg (.chk none (.idxL 1) (.cons (.inp 6) (.cons (.inp 7) .nil)) (.eff (.ld false 1) (.cons (.op (.idxL 1) (.cons (.inp 6) (.cons (.inp 7) .nil))) .nil) (.chk none (.cal 27) (.cons (.bv 0) .nil) (.done [(8, (.op (.cal 27) (.cons (.bv 0) .nil)))] none))))) h8_4) Q env w := rfl
def h8_6 : HC := (.seq (.block 1 h8_5) h8_1)
@[simp] theorem h8_6_wp {P : Program} {F : PF P} {Q : EX → List Value → World → Prop} {env : List Value} {w : World} : h8_6.wp F Q env w = HC.wp F (.seq (.block 1 h8_5) h8_1) Q env w := rfl
def h8_7 : HC := (.seq (.br (.chk none .lenL (.cons (.inp 6) .nil) (.chk none (.bin .lss) (.cons (.inp 7) (.cons (.op .lenL (.cons (.inp 6) .nil)) .nil)) (.done [] (some (.op (.bin .lss) (.cons (.inp 7) (.cons (.op .lenL (.cons (.inp 6) .nil)) .nil))))))) .skip (.exit 0)) h8_6)
@[simp] theorem h8_7_wp {P : Program} {F : PF P} {Q : EX → List Value → World → Prop} {env : List Value} {w : World} : h8_7.wp F Q env w = HC.wp F (.seq (.br (.chk none .lenL (.cons (.inp 6) .nil) (.chk none (.bin .lss) (.cons (.inp 7) (.cons (.op .lenL (.cons (.inp 6) .nil)) .nil)) (.done [] (some (.op (.bin .lss) (.cons (.inp 7) (.cons (.op .lenL (.cons (.inp 6) .nil)) .nil))))))) .skip (.exit 0)) h8_6) Q env w := rfl
def h8_8 : HC := (.loop h8_7)
@[simp] theorem h8_8_wp {P : Program} {F : PF P} {Q : EX → List Value → World → Prop} {env : List Value} {w : World} : h8_8.wp F Q env w = HC.wp F (.loop h8_7) Q env w := rfl
def h8_9 : HC := (.seq (.block 0 h8_8) h8_0)
@[simp] theorem h8_9_wp {P : Program} {F : PF P} {Q : EX → List Value → World → Prop} {env : List Value} {w : World} : h8_9.wp F Q env w = HC.wp F (.seq (.block 0 h8_8) h8_0) Q env w := rfl
def h8_10 : HC := (.seq (.reg (.done [(7, (.cst (.int .i64 0)))] none)) h8_9)
@[simp] theorem h8_10_wp {P : Program} {F : PF P} {Q : EX → List Value → World → Prop} {env : List Value} {w : World} : h8_10.wp F Q env w = HC.wp F (.seq (.reg (.done [(7, (.cst (.int .i64 0)))] none)) h8_9) Q env w := rfl
def h8_11 : HC := (.seq (.reg (.eff (.call 10) (.cons (.inp 3) .nil) (.chk none (.ext 0) (.cons (.bv 0) .nil) (.chk none (.ext 1) (.cons (.bv 0) .nil) (.done [(6, (.op (.ext 0) (.cons (.bv 0) .nil)))] none))))) h8_10)
@[simp] theorem h8_11_wp {P : Program} {F : PF P} {Q : EX → List Value → World → Prop} {env : List Value} {w : World} : h8_11.wp F Q env w = HC.wp F (.seq (.reg (.eff (.call 10) (.cons (.inp 3) .nil) (.chk none (.ext 0) (.cons (.bv 0) .nil) (.chk none (.ext 1) (.cons (.bv 0) .nil) (.done [(6, (.op (.ext 0) (.cons (.bv 0) .nil)))] none))))) h8_10) Q env w := rfl
def h8_12 : HC := (.seq (.reg (.done [(2, (.cst (.bool true)))] none)) .ret)
@[simp] theorem h8_12_wp {P : Program} {F : PF P} {Q : EX → List Value → World → Prop} {env : List Value} {w : World} : h8_12.wp F Q env w = HC.wp F (.seq (.reg (.done [(2, (.cst (.bool true)))] none)) .ret) Q env w := rfl
def h8_13 : HC := (.seq (.br (.chk none (.bin .neq) (.cons (.inp 5) (.cons (.cst (.int .i64 0)) .nil)) (.done [] (some (.op (.bin .neq) (.cons (.inp 5) (.cons (.cst (.int .i64 0)) .nil)))))) h8_12 .skip) h8_11)
@[simp] theorem h8_13_wp {P : Program} {F : PF P} {Q : EX → List Value → World → Prop} {env : List Value} {w : World} : h8_13.wp F Q env w = HC.wp F (.seq (.br (.chk none (.bin .neq) (.cons (.inp 5) (.cons (.cst (.int .i64 0)) .nil)) (.done [] (some (.op (.bin .neq) (.cons (.inp 5) (.cons (.cst (.int .i64 0)) .nil)))))) h8_12 .skip) h8_11) Q env w := rfl
def h8_14 : HC := (.seq (.reg (.eff (.call 14) (.cons (.inp 0) .nil) (.chk none (.ext 0) (.cons (.bv 0) .nil) (.chk none (.ext 1) (.cons (.bv 0) .nil) (.done [(5, (.op (.ext 1) (.cons (.bv 0) .nil)))] none))))) h8_13)
@[simp] theorem h8_14_wp {P : Program} {F : PF P} {Q : EX → List Value → World → Prop} {env : List Value} {w : World} : h8_14.wp F Q env w = HC.wp F (.seq (.reg (.eff (.call 14) (.cons (.inp 0) .nil) (.chk none (.ext 0) (.cons (.bv 0) .nil) (.chk none (.ext 1) (.cons (.bv 0) .nil) (.done [(5, (.op (.ext 1) (.cons (.bv 0) .nil)))] none))))) h8_13) Q env w := rfl
def h8_15 : HC := (.seq (.reg (.done [(2, (.cst (.bool false)))] none)) .ret)
@[simp] theorem h8_15_wp {P : Program} {F : PF P} {Q : EX → List Value → World → Prop} {env : List Value} {w : World} : h8_15.wp F Q env w = HC.wp F (.seq (.reg (.done [(2, (.cst (.bool false)))] none)) .ret) Q env w := rfl
def h8_16 : HC := (.seq (.br (.eff (.call 20) (.cons (.inp 0) (.cons (.inp 1) .nil)) (.ite (.bv 0) true (.eff (.call 21) (.cons (.ite (.bv 0) true (.inp 0) (.cst (.tuple #[]))) (.cons (.ite (.bv 0) true (.inp 1) (.cst (.tuple #[]))) .nil)) (.chk none (.un .not) (.cons (.bv 1) .nil) (.isb none (.bv 0) (.bnd (.op (.un .not) (.cons (.bv 1) .nil)) (.ite (.bv 2) false (.eff (.call 20) (.cons (.ite (.bv 2) false (.inp 0) (.cst (.tuple #[]))) (.cons (.ite (.bv 2) false (.inp 3) (.cst (.tuple #[]))) .nil)) (.chk none (.un .not) (.cons (.bv 3) .nil) (.isb none (.bv 2) (.bnd (.op (.un .not) (.cons (.bv 3) .nil)) (.ite (.bv 4) false (.eff (.call 21) (.cons (.ite (.bv 4) false (.inp 0) (.cst (.tuple #[]))) (.cons (.ite (.bv 4) false (.inp 4) (.cst (.tuple #[]))) .nil)) (.chk none (.un .not) (.cons (.bv 5) .nil) (.isb none (.bv 4) (.done [] (some (.op (.un .not) (.cons (.bv 5) .nil))))))) (.isb none (.bv 4) (.done [] (some (.cst (.bool true)))))))))) (.isb none (.bv 2) (.isb none (.cst (.bool true)) (.done [] (some (.cst (.bool true))))))))))) (.isb none (.bv 0) (.eff (.call 20) (.cons (.inp 0) (.cons (.inp 3) .nil)) (.chk none (.un .not) (.cons (.bv 1) .nil) (.isb none (.cst (.bool false)) (.bnd (.op (.un .not) (.cons (.bv 1) .nil)) (.ite (.bv 2) false (.eff (.call 21) (.cons (.ite (.bv 2) false (.inp 0) (.cst (.tuple #[]))) (.cons (.ite (.bv 2) false (.inp 4) (.cst (.tuple #[]))) .nil)) (.chk none (.un .not) (.cons (.bv 3) .nil) (.isb none (.bv 2) (.done [] (some (.op (.un .not) (.cons (.bv 3) .nil))))))) (.isb none (.bv 2) (.done [] (some (.cst (.bool true))))))))))))) h8_15 .skip) h8_14)
@[simp] theorem h8_16_wp {P : Program} {F : PF P} {Q : EX → List Value → World → Prop} {env : List Value} {w : World} : h8_16.wp F Q env w = HC.wp F (.seq (.br (.eff (.call 20) (.cons (.inp 0) (.cons (.inp 1) .nil)) (.ite (.bv 0) true (.eff (.call 21) (.cons (.ite (.bv 0) true (.inp 0) (.cst (.tuple #[]))) (.cons (.ite (.bv 0) true (.inp 1) (.cst (.tuple #[]))) .nil)) (.chk none (.un .not) (.cons (.bv 1) .nil) (.isb none (.bv 0) (.bnd (.op (.un .not) (.cons (.bv 1) .nil)) (.ite (.bv 2) false (.eff (.call 20) (.cons (.ite (.bv 2) false (.inp 0) (.cst (.tuple #[]))) (.cons (.ite (.bv 2) false (.inp 3) (.cst (.tuple #[]))) .nil)) (.chk none (.un .not) (.cons (.bv 3) .nil) (.isb none (.bv 2) (.bnd (.op (.un .not) (.cons (.bv 3) .nil)) (.ite (.bv 4) false (.eff (.call 21) (.cons (.ite (.bv 4) false (.inp 0) (.cst (.tuple #[]))) (.cons (.ite (.bv 4) false (.inp 4) (.cst (.tuple #[]))) .nil)) (.chk none (.un .not) (.cons (.bv 5) .nil) (.isb none (.bv 4) (.done [] (some (.op (.un .not) (.cons (.bv 5) .nil))))))) (.isb none (.bv 4) (.done [] (some (.cst (.bool true)))))))))) (.isb none (.bv 2) (.isb none (.cst (.bool true)) (.done [] (some (.cst (.bool true))))))))))) (.isb none (.bv 0) (.eff (.call 20) (.cons (.inp 0) (.cons (.inp 3) .nil)) (.chk none (.un .not) (.cons (.bv 1) .nil) (.isb none (.cst (.bool false)) (.bnd (.op (.un .not) (.cons (.bv 1) .nil)) (.ite (.bv 2) false (.eff (.call 21) (.cons (.ite (.bv 2) false (.inp 0) (.cst (.tuple #[]))) (.cons (.ite (.bv 2) false (.inp 4) (.cst (.tuple #[]))) .nil)) (.chk none (.un .not) (.cons (.bv 3) .nil) (.isb none (.bv 2) (.done [] (some (.op (.un .not) (.cons (.bv 3) .nil))))))) (.isb none (.bv 2) (.done [] (some (.cst (.bool true))))))))))))) h8_15 .skip) h8_14) Q env w := rfl
def h8_17 : HC := (.seq (.reg (.done [(2, (.cst (.bool false)))] none)) .ret)
@[simp] theorem h8_17_wp {P : Program} {F : PF P} {Q : EX → List Value → World → Prop} {env : List Value} {w : World} : h8_17.wp F Q env w = HC.wp F (.seq (.reg (.done [(2, (.cst (.bool false)))] none)) .ret) Q env w := rfl
def h8_18 : HC := (.seq (.br (.eff (.call 16) (.cons (.inp 3) .nil) (.chk none (.bin .neq) (.cons (.bv 0) (.cons (.inp 3) .nil)) (.bnd (.op (.bin .neq) (.cons (.bv 0) (.cons (.inp 3) .nil))) (.ite (.bv 1) false (.eff (.call 18) (.cons (.ite (.bv 1) false (.inp 4) (.cst (.tuple #[]))) .nil) (.chk none (.bin .neq) (.cons (.bv 2) (.cons (.inp 4) .nil)) (.isb none (.bv 1) (.bnd (.op (.bin .neq) (.cons (.bv 2) (.cons (.inp 4) .nil))) (.ite (.bv 3) false (.eff (.call 18) (.cons (.ite (.bv 3) false (.inp 3) (.cst (.tuple #[]))) .nil) (.chk none (.bin .neq) (.cons (.bv 4) (.cons (.inp 4) .nil)) (.isb none (.bv 3) (.bnd (.op (.bin .neq) (.cons (.bv 4) (.cons (.inp 4) .nil))) (.ite (.bv 5) false (.eff (.call 16) (.cons (.ite (.bv 5) false (.inp 4) (.cst (.tuple #[]))) .nil) (.chk none (.bin .neq) (.cons (.bv 6) (.cons (.inp 4) .nil)) (.isb none (.bv 5) (.done [] (some (.op (.bin .neq) (.cons (.bv 6) (.cons (.inp 4) .nil)))))))) (.isb none (.bv 5) (.done [] (some (.cst (.bool true)))))))))) (.isb none (.bv 3) (.isb none (.cst (.bool true)) (.done [] (some (.cst (.bool true))))))))))) (.isb none (.bv 1) (.isb none (.cst (.bool true)) (.isb none (.cst (.bool true)) (.done [] (some (.cst (.bool true))))))))))) h8_17 .skip) h8_16)
@[simp] theorem h8_18_wp {P : Program} {F : PF P} {Q : EX → List Value → World → Prop} {env : List Value} {w : World} : h8_18.wp F Q env w = HC.wp F (.seq (.br (.eff (.call 16) (.cons (.inp 3) .nil) (.chk none (.bin .neq) (.cons (.bv 0) (.cons (.inp 3) .nil)) (.bnd (.op (.bin .neq) (.cons (.bv 0) (.cons (.inp 3) .nil))) (.ite (.bv 1) false (.eff (.call 18) (.cons (.ite (.bv 1) false (.inp 4) (.cst (.tuple #[]))) .nil) (.chk none (.bin .neq) (.cons (.bv 2) (.cons (.inp 4) .nil)) (.isb none (.bv 1) (.bnd (.op (.bin .neq) (.cons (.bv 2) (.cons (.inp 4) .nil))) (.ite (.bv 3) false (.eff (.call 18) (.cons (.ite (.bv 3) false (.inp 3) (.cst (.tuple #[]))) .nil) (.chk none (.bin .neq) (.cons (.bv 4) (.cons (.inp 4) .nil)) (.isb none (.bv 3) (.bnd (.op (.bin .neq) (.cons (.bv 4) (.cons (.inp 4) .nil))) (.ite (.bv 5) false (.eff (.call 16) (.cons (.ite (.bv 5) false (.inp 4) (.cst (.tuple #[]))) .nil) (.chk none (.bin .neq) (.cons (.bv 6) (.cons (.inp 4) .nil)) (.isb none (.bv 5) (.done [] (some (.op (.bin .neq) (.cons (.bv 6) (.cons (.inp 4) .nil)))))))) (.isb none (.bv 5) (.done [] (some (.cst (.bool true)))))))))) (.isb none (.bv 3) (.isb none (.cst (.bool true)) (.done [] (some (.cst (.bool true))))))))))) (.isb none (.bv 1) (.isb none (.cst (.bool true)) (.isb none (.cst (.bool true)) (.done [] (some (.cst (.bool true))))))))))) h8_17 .skip) h8_16) Q env w := rfl
def h8_19 : HC := (.seq (.reg (.eff (.call 18) (.cons (.inp 0) .nil) (.done [(4, (.bv 0))] none))) h8_18)
@[simp] theorem h8_19_wp {P : Program} {F : PF P} {Q : EX → List Value → World → Prop} {env : List Value} {w : World} : h8_19.wp F Q env w = HC.wp F (.seq (.reg (.eff (.call 18) (.cons (.inp 0) .nil) (.done [(4, (.bv 0))] none))) h8_18) Q env w := rfl
def h8_20 : HC := (.seq (.reg (.eff (.call 16) (.cons (.inp 0) .nil) (.done [(3, (.bv 0))] none))) h8_19)
@[simp] theorem h8_20_wp {P : Program} {F : PF P} {Q : EX → List Value → World → Prop} {env : List Value} {w : World} : h8_20.wp F Q env w = HC.wp F (.seq (.reg (.eff (.call 16) (.cons (.inp 0) .nil) (.done [(3, (.bv 0))] none))) h8_19) Q env w := rfl
def h8_21 : HC := (.seq (.reg (.done [(2, (.cst (.bool false)))] none)) .ret)
@[simp] theorem h8_21_wp {P : Program} {F : PF P} {Q : EX → List Value → World → Prop} {env : List Value} {w : World} : h8_21.wp F Q env w = HC.wp F (.seq (.reg (.done [(2, (.cst (.bool false)))] none)) .ret) Q env w := rfl
def h8_22 : HC := (.seq (.br (.eff (.call 26) .nil (.chk none (.un .not) (.cons (.bv 0) .nil) (.done [] (some (.op (.un .not) (.cons (.bv 0) .nil)))))) h8_21 .skip) h8_20)
@[simp] theorem h8_22_wp {P : Program} {F : PF P} {Q : EX → List Value → World → Prop} {env : List Value} {w : World} : h8_22.wp F Q env w = HC.wp F (.seq (.br (.eff (.call 26) .nil (.chk none (.un .not) (.cons (.bv 0) .nil) (.done [] (some (.op (.un .not) (.cons (.bv 0) .nil)))))) h8_21 .skip) h8_20) Q env w := rfl
def l8 : Lifted := ⟨[0, 1, 4, 5, 6, 8, 9, 11, 12, 13], 110, [.slot 2], (.seq (.reg (.done [(2, (.cst (.bool false)))] none)) h8_22)⟩
theorem l8_ok : liftFn F4 8 400 = some l8 := by kernel_rfl


theorem once_tail (x y : List UInt8) (w0 w9 : World) (A : Asn) (hx : x.length ≤ 1048576) (s9 : St w0 A w9) :
    HC.wp F4 h8_14 (endQ Try.prog [RV.slot 2] fun r w' => r = Value.bool true ∧ St w0 A w')
      [Value.string (mk x), Value.string (mk y), Value.bool false, Value.string (mk (encAll (foldedF x))), Value.string (mk (encAll (lookF x))), undef, undef, undef, undef, undef] w9 := by
  have hf := fold_short x
  simp
  refine eff_call ((check_spec x w0 w9 A hx s9).mono ?_)
  rintro r w10 ⟨rfl, s10⟩
  simp
  refine cndI (fun h => ?_) (fun h => ?_)
  · simp at h
    simp
    exact s10
  simp at h
  simp
  refine eff_call ((units_spec (encAll (foldedF x)) w0 w10 A (by omega) s10).mono ?_)
  rintro r w11 ⟨v1, v2, rfl, s11⟩
  simp
  have hu : (units (encAll (foldedF x))).map (·.1) = foldedF x := by rw [units_folded]; exact map_fst_enc _
  have hn : (units (encAll (foldedF x))).length = (foldedF x).length := units_fold_len x
  have hul := units_len (encAll (foldedF x))
  rw [hu] at s11
  obtain ⟨a, cap, rfl, _⟩ := s11.swap.own_val
  refine loopI (fun env w' => ∃ (i : Nat) (u1 u2 : Value), env = [.string (mk x), .string (mk y), .bool false, .string (mk (encAll (foldedF x))), .string (mk (encAll (lookF x))), .int .i64 (checkF x).2, .slice a (units (encAll (foldedF x))).length cap, .int .i64 i, u1, u2] ∧ i ≤ (units (encAll (foldedF x))).length ∧ w' = w11)
    (fun env _ => (units (encAll (foldedF x))).length - slotN env 7) ⟨0, _, _, rfl, by omega, rfl⟩ ?_
  rintro LQ env w' ⟨i, u1, u2, rfl, hi, rfl⟩ hN hE hR
  simp
  refine cndI (fun h1 => ?_) (fun h1 => ?_)
  · simp at h1
    obtain ⟨g, cap', hv, _, hc⟩ := s11.swap.own_at (by omega)
    cases hv
    have hlt : i < (foldedF x).length := by omega
    have hcell : w'.cell? ⟨g, i, none⟩ = some (.int .i64 (foldedF x)[i]) := hc i _ (by simp [ints, hlt])
    simp [h1]
    refine eff_ldc hcell ?_
    simp [h1]
    refine eff_ldc hcell ?_
    simp
    have hlj := check_folded (l := x) h (foldedF x)[i] (List.getElem_mem hlt)
    have hcond : (!letterF (foldedF x)[i] && !joinerF (foldedF x)[i]) = false := by
      rcases hlj with e | e <;> simp [e]
    rw [hcond]
    simp
    try simp (disch := omega) only [wrap64]
    refine hN _ _ ⟨i + 1, _, _, by simp; exact ⟨rfl, rfl⟩, by omega, rfl⟩ (by simp [slotN]; omega)
  · simp at h1
    simp
    refine hE _ _ _ ?_
    simp
    refine eff_call ((runes_spec (encAll (foldedF x)) w0 w' _ (by omega) s11).mono ?_)
    rintro r w12 ⟨rfl, s12⟩
    simp
    refine eff_call ((runes_spec x w0 w12 _ hx s12).mono ?_)
    rintro r w13 ⟨rfl, s13⟩
    have hr := fold_runes x
    have hxl := units_len x
    have hge : (units x).length ≤ (foldedF x).length := by omega
    have hge2 : (units x).length ≤ (units (encAll (foldedF x))).length := hr.1
    simp [hge2]
    refine eff_call ((runes_spec (encAll (foldedF x)) w0 w13 _ (by omega) s13).mono ?_)
    rintro r w14 ⟨rfl, s14⟩
    simp
    refine eff_call ((runes_spec x w0 w14 _ hx s14).mono ?_)
    rintro r w15 ⟨rfl, s15⟩
    have hww : IntKind.i64.wrap (2 * ((units x).length : Int)) = 2 * ((units x).length : Int) := wrap64 (by omega) (by omega)
    have hr2 := hr.2
    simp [hww]
    exact ⟨by omega, s15.drop.drop⟩
set_option maxHeartbeats 1000000 in
theorem once_walk (x y : List UInt8) (w0 w : World) (A : Asn) (hx : x.length ≤ 1048576) (hy : y.length ≤ 1048576) (s : St w0 A w) :
    CallW Try.prog 8 [.string (mk x), .string (mk y)] (fun r w' => r = .bool true ∧ St w0 A w') w := by
  have hf := fold_short x
  have hl := look_short x
  refine callW_of_lift l8_ok (by simp [l8]) ?_
  simp [l8]
  refine eff_call ((awake_spec w0 w A s).mono ?_)
  rintro r w1 ⟨rfl, s1⟩
  simp
  refine eff_call ((Fold_spec x w0 w1 A hx s1).mono ?_)
  rintro r w2 ⟨rfl, s2⟩
  simp
  refine eff_call ((Look_spec x w0 w2 A hx s2).mono ?_)
  rintro r w3 ⟨rfl, s3⟩
  simp
  refine eff_call ((Fold_spec (encAll (foldedF x)) w0 w3 A (by omega) s3).mono ?_)
  rintro r w4 ⟨rfl, s4⟩
  simp [fold_fold]
  refine eff_call ((Look_spec (encAll (lookF x)) w0 w4 A (by omega) s4).mono ?_)
  rintro r w5 ⟨rfl, s5⟩
  simp [look_look]
  refine eff_call ((Look_spec (encAll (foldedF x)) w0 w5 A (by omega) s5).mono ?_)
  rintro r w6 ⟨rfl, s6⟩
  simp [look_fold]
  refine eff_call ((Fold_spec (encAll (lookF x)) w0 w6 A (by omega) s6).mono ?_)
  rintro r w7 ⟨rfl, s7⟩
  simp [fold_look]
  have bb : ∀ a b : List UInt8, a = b → (a == b) = true := fun a b h => by simpa using h
  have nb : ∀ a b : List UInt8, ¬ a = b → (a == b) = false := fun a b h => by simpa using h
  refine eff_call ((same_spec x y w0 w7 A hx hy s7).mono ?_)
  rintro r w8 ⟨rfl, s8⟩
  by_cases h3 : encAll (foldedF x) = encAll (foldedF y)
  · rw [bb _ _ h3]
    simp
    refine eff_call ((alike_spec x y w0 w8 A hx hy s8).mono ?_)
    rintro r w9 ⟨rfl, s9⟩
    rw [bb _ _ (show encAll (lookF x) = encAll (lookF y) by rw [alike_same h3])]
    simp
    refine eff_call ((same_spec x (encAll (foldedF x)) w0 w9 A hx (by omega) s9).mono ?_)
    rintro r w10 ⟨rfl, s10⟩
    simp [fold_fold]
    refine eff_call ((alike_spec x (encAll (lookF x)) w0 w10 A hx (by omega) s10).mono ?_)
    rintro r w11 ⟨rfl, s11⟩
    simp [look_look]
    simpa using once_tail x y w0 w11 A hx s11
  · rw [nb _ _ h3]
    simp
    refine eff_call ((same_spec x (encAll (foldedF x)) w0 w8 A hx (by omega) s8).mono ?_)
    rintro r w10 ⟨rfl, s10⟩
    simp [fold_fold]
    refine eff_call ((alike_spec x (encAll (lookF x)) w0 w10 A hx (by omega) s10).mono ?_)
    rintro r w11 ⟨rfl, s11⟩
    simp [look_look]
    simpa using once_tail x y w0 w11 A hx s11
end Go.HL.Nm
