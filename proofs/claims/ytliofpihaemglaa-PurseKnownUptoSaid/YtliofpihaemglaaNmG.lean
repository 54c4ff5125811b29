/-
  Check of name and of bazaarref04 answer by one plain law. Conditions: texts within the bound.
-/
import Derived.Test.YtliofpihaemglaaNmF
namespace Go.HL.Nm
open Go.HL Go.Proofs
set_option maxRecDepth 4000
set_option linter.unusedSimpArgs false
set_option linter.unusedVariables false
/-- may this unit not stand here? (j: a joiner may not) -/
def badAt (j : Bool) (u : Int) : Bool := !letterF u && (j || !joinerF u)
/-- the first place at fault; the last unit may be no joiner -/
def faultF : Bool → Nat → List (Int × Nat) → Option Nat
  | _, _, [] => none
  | j, p, u :: r => if badAt (j || r.isEmpty) u.1 then some p else faultF (joinerF u.1) (p + u.2) r
/-- the same, but for the last unit -/
def faultP : Bool → Nat → List (Int × Nat) → Option Nat
  | _, _, [] => none
  | j, p, u :: r => if badAt j u.1 then some p else faultP (joinerF u.1) (p + u.2) r
def lastJ : Bool → List (Int × Nat) → Bool
  | j, [] => j
  | _, u :: r => lastJ (joinerF u.1) r
def lastP : Nat → Nat → List (Int × Nat) → Nat
  | d, _, [] => d
  | _, p, u :: r => lastP p (p + u.2) r
theorem joiner_letter {u : Int} (h : joinerF u = true) : letterF u = false := by
  simp only [joinerF, Bool.or_eq_true, decide_eq_true_eq] at h
  rcases h with (h | h) | h <;> subst h <;> decide
theorem fault_eq : ∀ (r : List (Int × Nat)) (j : Bool) (p d : Nat), r ≠ [] → faultF j p r = (match faultP j p r with | some q => some q | none => if lastJ j r then some (lastP d p r) else none)
  | [], _, _, _, h => absurd rfl h
  | [u], j, p, d, _ => by
    cases hj : joinerF u.1 <;> cases hl : letterF u.1 <;> cases j <;> (first | (simp [faultF, faultP, lastJ, lastP, badAt, hj, hl]; done) | (have := joiner_letter hj; rw [hl] at this; cases this))
  | u :: v :: r, j, p, d, _ => by
    have ih := fault_eq (v :: r) (joinerF u.1) (p + u.2) p (by simp)
    rw [faultF, faultP]
    simp only [List.isEmpty_cons, Bool.or_false]
    cases badAt j u.1
    · simp only [Bool.false_eq_true, if_false]; rw [ih]; rfl
    · rfl
theorem faultP_snoc : ∀ (r : List (Int × Nat)) (u : Int × Nat) (j : Bool) (p : Nat), faultP j p (r ++ [u]) = (match faultP j p r with | some q => some q | none => if badAt (lastJ j r) u.1 then some (p + sumW r) else none)
  | [], u, j, p => by cases h : badAt j u.1 <;> simp [faultP, lastJ, sumW, h]
  | v :: r, u, j, p => by
    have ih := faultP_snoc r u (joinerF v.1) (p + v.2)
    cases h : badAt j v.1
    · simp only [List.cons_append, faultP, lastJ, sumW, h, Bool.false_eq_true, if_false]
      rw [ih, Nat.add_assoc]
      rfl
    · simp [faultP, h]
theorem lastJ_snoc : ∀ (r : List (Int × Nat)) (u : Int × Nat) (j : Bool), lastJ j (r ++ [u]) = joinerF u.1
  | [], u, j => rfl
  | v :: r, u, j => by simp only [List.cons_append, lastJ]; exact lastJ_snoc r u _
theorem lastP_snoc : ∀ (r : List (Int × Nat)) (u : Int × Nat) (d p : Nat), lastP d p (r ++ [u]) = p + sumW r
  | [], u, d, p => by simp [lastP, sumW]
  | v :: r, u, d, p => by simp only [List.cons_append, lastP, sumW]; rw [lastP_snoc r u]; omega
def optI : Option Nat → Int
  | some q => q
  | none => -1
/-- the answer: a place, an error's number -/
def checkF (l : List UInt8) : Int × Int :=
  if l = [] then (0, 41)
  else if 24 < (units l).length then (sumW ((units l).take 24), 42)
  else match faultF true 0 (units l) with
    | some p => (p, 40)
    | none => (0, 0)
-- bazaar/name.Check
def h11_0 : HC := (.seq (.reg (.done [(1, (.cst (.int .i64 0))), (2, (.cst (.int .i64 0)))] none)) .ret)
@[simp] theorem h11_0_wp {P : Program} {F : PF P} {Q : EX → List Value → World → Prop} {env : List Value} {w : World} : h11_0.wp F Q env w = HC.wp F (.seq (.reg (.done [(1, (.cst (.int .i64 0))), (2, (.cst (.int .i64 0)))] none)) .ret) Q env w := rfl
def h11_1 : HC := (.seq (.reg (.done [(1, (.inp 4)), (2, (.cst (.int .i64 40)))] none)) .ret)
@[simp] theorem h11_1_wp {P : Program} {F : PF P} {Q : EX → List Value → World → Prop} {env : List Value} {w : World} : h11_1.wp F Q env w = HC.wp F (.seq (.reg (.done [(1, (.inp 4)), (2, (.cst (.int .i64 40)))] none)) .ret) Q env w := rfl
def h11_2 : HC := (.seq (.br (.chk none (.bin .geq) (.cons (.inp 4) (.cons (.cst (.int .i64 0)) .nil)) (.done [] (some (.op (.bin .geq) (.cons (.inp 4) (.cons (.cst (.int .i64 0)) .nil)))))) h11_1 .skip) h11_0)
@[simp] theorem h11_2_wp {P : Program} {F : PF P} {Q : EX → List Value → World → Prop} {env : List Value} {w : World} : h11_2.wp F Q env w = HC.wp F (.seq (.br (.chk none (.bin .geq) (.cons (.inp 4) (.cons (.cst (.int .i64 0)) .nil)) (.done [] (some (.op (.bin .geq) (.cons (.inp 4) (.cons (.cst (.int .i64 0)) .nil)))))) h11_1 .skip) h11_0) Q env w := rfl
def h11_3 : HC := (.reg (.done [(4, (.inp 5))] none))
@[simp] theorem h11_3_wp {P : Program} {F : PF P} {Q : EX → List Value → World → Prop} {env : List Value} {w : World} : h11_3.wp F Q env w = HC.wp F (.reg (.done [(4, (.inp 5))] none)) Q env w := rfl
def h11_4 : HC := (.seq (.br (.chk none (.bin .lss) (.cons (.inp 4) (.cons (.cst (.int .i64 0)) .nil)) (.bnd (.op (.bin .lss) (.cons (.inp 4) (.cons (.cst (.int .i64 0)) .nil))) (.isb none (.bv 0) (.done [] (some (.ite (.bv 0) true (.inp 6) (.cst (.bool false)))))))) h11_3 .skip) h11_2)
@[simp] theorem h11_4_wp {P : Program} {F : PF P} {Q : EX → List Value → World → Prop} {env : List Value} {w : World} : h11_4.wp F Q env w = HC.wp F (.seq (.br (.chk none (.bin .lss) (.cons (.inp 4) (.cons (.cst (.int .i64 0)) .nil)) (.bnd (.op (.bin .lss) (.cons (.inp 4) (.cons (.cst (.int .i64 0)) .nil))) (.isb none (.bv 0) (.done [] (some (.ite (.bv 0) true (.inp 6) (.cst (.bool false)))))))) h11_3 .skip) h11_2) Q env w := rfl
def h11_5 : HC := (.reg (.done [(5, (.inp 7))] none))
@[simp] theorem h11_5_wp {P : Program} {F : PF P} {Q : EX → List Value → World → Prop} {env : List Value} {w : World} : h11_5.wp F Q env w = HC.wp F (.reg (.done [(5, (.inp 7))] none)) Q env w := rfl
def h11_6 : HC := (.seq (.reg (.chk none (.cal 46) (.cons (.inp 9) .nil) (.done [(6, (.op (.cal 46) (.cons (.inp 9) .nil)))] none))) h11_5)
@[simp] theorem h11_6_wp {P : Program} {F : PF P} {Q : EX → List Value → World → Prop} {env : List Value} {w : World} : h11_6.wp F Q env w = HC.wp F (.seq (.reg (.chk none (.cal 46) (.cons (.inp 9) .nil) (.done [(6, (.op (.cal 46) (.cons (.inp 9) .nil)))] none))) h11_5) Q env w := rfl
def h11_7 : HC := (.reg (.done [(4, (.inp 7))] none))
@[simp] theorem h11_7_wp {P : Program} {F : PF P} {Q : EX → List Value → World → Prop} {env : List Value} {w : World} : h11_7.wp F Q env w = HC.wp F (.reg (.done [(4, (.inp 7))] none)) Q env w := rfl
def h11_8 : HC := (.seq (.br (.chk none (.bin .lss) (.cons (.inp 4) (.cons (.cst (.int .i64 0)) .nil)) (.bnd (.op (.bin .lss) (.cons (.inp 4) (.cons (.cst (.int .i64 0)) .nil))) (.chk (some ((.bv 0), true)) (.cal 45) (.cons (.inp 9) .nil) (.chk (some ((.bv 0), true)) (.un .not) (.cons (.op (.cal 45) (.cons (.inp 9) .nil)) .nil) (.isb none (.bv 0) (.bnd (.ite (.bv 0) true (.op (.un .not) (.cons (.op (.cal 45) (.cons (.inp 9) .nil)) .nil)) (.cst (.bool false))) (.bnd (.ite (.bv 1) true (.inp 6) (.cst (.tuple #[]))) (.chk (some ((.bv 2), false)) (.cal 46) (.cons (.inp 9) .nil) (.chk (some ((.bv 2), false)) (.un .not) (.cons (.op (.cal 46) (.cons (.inp 9) .nil)) .nil) (.isb (some ((.bv 1), true)) (.bv 2) (.isb none (.bv 1) (.done [] (some (.ite (.bv 1) true (.ite (.bv 2) true (.cst (.bool true)) (.op (.un .not) (.cons (.op (.cal 46) (.cons (.inp 9) .nil)) .nil))) (.cst (.bool false)))))))))))))))) h11_7 .skip) h11_6)
@[simp] theorem h11_8_wp {P : Program} {F : PF P} {Q : EX → List Value → World → Prop} {env : List Value} {w : World} : h11_8.wp F Q env w = HC.wp F (.seq (.br (.chk none (.bin .lss) (.cons (.inp 4) (.cons (.cst (.int .i64 0)) .nil)) (.bnd (.op (.bin .lss) (.cons (.inp 4) (.cons (.cst (.int .i64 0)) .nil))) (.chk (some ((.bv 0), true)) (.cal 45) (.cons (.inp 9) .nil) (.chk (some ((.bv 0), true)) (.un .not) (.cons (.op (.cal 45) (.cons (.inp 9) .nil)) .nil) (.isb none (.bv 0) (.bnd (.ite (.bv 0) true (.op (.un .not) (.cons (.op (.cal 45) (.cons (.inp 9) .nil)) .nil)) (.cst (.bool false))) (.bnd (.ite (.bv 1) true (.inp 6) (.cst (.tuple #[]))) (.chk (some ((.bv 2), false)) (.cal 46) (.cons (.inp 9) .nil) (.chk (some ((.bv 2), false)) (.un .not) (.cons (.op (.cal 46) (.cons (.inp 9) .nil)) .nil) (.isb (some ((.bv 1), true)) (.bv 2) (.isb none (.bv 1) (.done [] (some (.ite (.bv 1) true (.ite (.bv 2) true (.cst (.bool true)) (.op (.un .not) (.cons (.op (.cal 46) (.cons (.inp 9) .nil)) .nil))) (.cst (.bool false)))))))))))))))) h11_7 .skip) h11_6) Q env w := rfl
def h11_9 : HC := (.seq (.reg (.chk none (.cal 44) (.cons (.inp 0) (.cons (.inp 7) (.cons (.inp 8) .nil))) (.done [(9, (.op (.cal 44) (.cons (.inp 0) (.cons (.inp 7) (.cons (.inp 8) .nil)))))] none))) h11_8)
@[simp] theorem h11_9_wp {P : Program} {F : PF P} {Q : EX → List Value → World → Prop} {env : List Value} {w : World} : h11_9.wp F Q env w = HC.wp F (.seq (.reg (.chk none (.cal 44) (.cons (.inp 0) (.cons (.inp 7) (.cons (.inp 8) .nil))) (.done [(9, (.op (.cal 44) (.cons (.inp 0) (.cons (.inp 7) (.cons (.inp 8) .nil)))))] none))) h11_8) Q env w := rfl
def h11_10 : HC := (.seq (.reg (.chk none (.bin .add) (.cons (.inp 3) (.cons (.cst (.int .i64 1)) .nil)) (.done [(3, (.op (.bin .add) (.cons (.inp 3) (.cons (.cst (.int .i64 1)) .nil))))] none))) h11_9)
@[simp] theorem h11_10_wp {P : Program} {F : PF P} {Q : EX → List Value → World → Prop} {env : List Value} {w : World} : h11_10.wp F Q env w = HC.wp F (.seq (.reg (.chk none (.bin .add) (.cons (.inp 3) (.cons (.cst (.int .i64 1)) .nil)) (.done [(3, (.op (.bin .add) (.cons (.inp 3) (.cons (.cst (.int .i64 1)) .nil))))] none))) h11_9) Q env w := rfl
def h11_11 : HC := (.seq (.reg (.done [(1, (.inp 7)), (2, (.cst (.int .i64 42)))] none)) .ret)
@[simp] theorem h11_11_wp {P : Program} {F : PF P} {Q : EX → List Value → World → Prop} {env : List Value} {w : World} : h11_11.wp F Q env w = HC.wp F (.seq (.reg (.done [(1, (.inp 7)), (2, (.cst (.int .i64 42)))] none)) .ret) Q env w := rfl
def h11_12 : HC := (.seq (.br (.chk none (.bin .eql) (.cons (.inp 3) (.cons (.cst (.int .i64 24)) .nil)) (.done [] (some (.op (.bin .eql) (.cons (.inp 3) (.cons (.cst (.int .i64 24)) .nil)))))) h11_11 .skip) h11_10)
@[simp] theorem h11_12_wp {P : Program} {F : PF P} {Q : EX → List Value → World → Prop} {env : List Value} {w : World} : h11_12.wp F Q env w = HC.wp F (.seq (.br (.chk none (.bin .eql) (.cons (.inp 3) (.cons (.cst (.int .i64 24)) .nil)) (.done [] (some (.op (.bin .eql) (.cons (.inp 3) (.cons (.cst (.int .i64 24)) .nil)))))) h11_11 .skip) h11_10) Q env w := rfl
def h11_13 : HC := (.seq (.reg (.chk none (.ext 1) (.cons (.inp 11) .nil) (.chk none (.ext 2) (.cons (.inp 11) .nil) (.done [(7, (.op (.ext 1) (.cons (.inp 11) .nil))), (8, (.op (.ext 2) (.cons (.inp 11) .nil)))] none)))) h11_12)
@[simp] theorem h11_13_wp {P : Program} {F : PF P} {Q : EX → List Value → World → Prop} {env : List Value} {w : World} : h11_13.wp F Q env w = HC.wp F (.seq (.reg (.chk none (.ext 1) (.cons (.inp 11) .nil) (.chk none (.ext 2) (.cons (.inp 11) .nil) (.done [(7, (.op (.ext 1) (.cons (.inp 11) .nil))), (8, (.op (.ext 2) (.cons (.inp 11) .nil)))] none)))) h11_12) Q env w := rfl
def h11_14 : HC := (.block 1 h11_13)
@[simp] theorem h11_14_wp {P : Program} {F : PF P} {Q : EX → List Value → World → Prop} {env : List Value} {w : World} : h11_14.wp F Q env w = HC.wp F (.block 1 h11_13) Q env w := rfl
def h11_15 : HC := (.seq (.br (.eff (.nxt true 0) (.cons (.inp 10) .nil) (.chk none (.ext 0) (.cons (.bv 0) .nil) (.done [(11, (.bv 0))] (some (.op (.ext 0) (.cons (.bv 0) .nil)))))) .skip (.exit 0)) h11_14)
@[simp] theorem h11_15_wp {P : Program} {F : PF P} {Q : EX → List Value → World → Prop} {env : List Value} {w : World} : h11_15.wp F Q env w = HC.wp F (.seq (.br (.eff (.nxt true 0) (.cons (.inp 10) .nil) (.chk none (.ext 0) (.cons (.bv 0) .nil) (.done [(11, (.bv 0))] (some (.op (.ext 0) (.cons (.bv 0) .nil)))))) .skip (.exit 0)) h11_14) Q env w := rfl
def h11_16 : HC := (.loop h11_15)
@[simp] theorem h11_16_wp {P : Program} {F : PF P} {Q : EX → List Value → World → Prop} {env : List Value} {w : World} : h11_16.wp F Q env w = HC.wp F (.loop h11_15) Q env w := rfl
def h11_17 : HC := (.seq (.block 0 h11_16) h11_4)
@[simp] theorem h11_17_wp {P : Program} {F : PF P} {Q : EX → List Value → World → Prop} {env : List Value} {w : World} : h11_17.wp F Q env w = HC.wp F (.seq (.block 0 h11_16) h11_4) Q env w := rfl
def h11_18 : HC := (.seq (.reg (.eff (.rngS 9) (.cons (.inp 0) .nil) (.done [(10, (.bv 0))] none))) h11_17)
@[simp] theorem h11_18_wp {P : Program} {F : PF P} {Q : EX → List Value → World → Prop} {env : List Value} {w : World} : h11_18.wp F Q env w = HC.wp F (.seq (.reg (.eff (.rngS 9) (.cons (.inp 0) .nil) (.done [(10, (.bv 0))] none))) h11_17) Q env w := rfl
def h11_19 : HC := (.seq (.reg (.done [(6, (.cst (.bool true)))] none)) h11_18)
@[simp] theorem h11_19_wp {P : Program} {F : PF P} {Q : EX → List Value → World → Prop} {env : List Value} {w : World} : h11_19.wp F Q env w = HC.wp F (.seq (.reg (.done [(6, (.cst (.bool true)))] none)) h11_18) Q env w := rfl
def h11_20 : HC := (.seq (.reg (.done [(3, (.cst (.int .i64 0))), (4, (.cst (.int .i64 (-1)))), (5, (.cst (.int .i64 0)))] none)) h11_19)
@[simp] theorem h11_20_wp {P : Program} {F : PF P} {Q : EX → List Value → World → Prop} {env : List Value} {w : World} : h11_20.wp F Q env w = HC.wp F (.seq (.reg (.done [(3, (.cst (.int .i64 0))), (4, (.cst (.int .i64 (-1)))), (5, (.cst (.int .i64 0)))] none)) h11_19) Q env w := rfl
def h11_21 : HC := (.seq (.reg (.done [(1, (.cst (.int .i64 0))), (2, (.cst (.int .i64 41)))] none)) .ret)
@[simp] theorem h11_21_wp {P : Program} {F : PF P} {Q : EX → List Value → World → Prop} {env : List Value} {w : World} : h11_21.wp F Q env w = HC.wp F (.seq (.reg (.done [(1, (.cst (.int .i64 0))), (2, (.cst (.int .i64 41)))] none)) .ret) Q env w := rfl
def h11_22 : HC := (.seq (.br (.chk none (.bin .eql) (.cons (.inp 0) (.cons (.cst (.string ⟨#[]⟩)) .nil)) (.done [] (some (.op (.bin .eql) (.cons (.inp 0) (.cons (.cst (.string ⟨#[]⟩)) .nil)))))) h11_21 .skip) h11_20)
@[simp] theorem h11_22_wp {P : Program} {F : PF P} {Q : EX → List Value → World → Prop} {env : List Value} {w : World} : h11_22.wp F Q env w = HC.wp F (.seq (.br (.chk none (.bin .eql) (.cons (.inp 0) (.cons (.cst (.string ⟨#[]⟩)) .nil)) (.done [] (some (.op (.bin .eql) (.cons (.inp 0) (.cons (.cst (.string ⟨#[]⟩)) .nil)))))) h11_21 .skip) h11_20) Q env w := rfl
def l11 : Lifted := ⟨[0, 2, 3, 4, 5, 6, 7, 8, 9, 10, 14, 15], 56, [.slot 1, .slot 2], (.seq (.reg (.done [(1, (.cst (.int .i64 0))), (2, (.cst (.int .i64 0)))] none)) h11_22)⟩
theorem l11_ok : liftFn F4 11 400 = some l11 := by kernel_rfl

-- bazaar/bazaarref04.Check
def h54_0 : HC := (.seq (.reg (.done [(1, (.cst (.int .i64 0))), (2, (.cst (.int .i64 0)))] none)) .ret)
@[simp] theorem h54_0_wp {P : Program} {F : PF P} {Q : EX → List Value → World → Prop} {env : List Value} {w : World} : h54_0.wp F Q env w = HC.wp F (.seq (.reg (.done [(1, (.cst (.int .i64 0))), (2, (.cst (.int .i64 0)))] none)) .ret) Q env w := rfl
def h54_1 : HC := (.reg (.chk none (.bin .add) (.cons (.inp 5) (.cons (.cst (.int .i64 1)) .nil)) (.done [(5, (.op (.bin .add) (.cons (.inp 5) (.cons (.cst (.int .i64 1)) .nil))))] none)))
@[simp] theorem h54_1_wp {P : Program} {F : PF P} {Q : EX → List Value → World → Prop} {env : List Value} {w : World} : h54_1.wp F Q env w = HC.wp F (.reg (.chk none (.bin .add) (.cons (.inp 5) (.cons (.cst (.int .i64 1)) .nil)) (.done [(5, (.op (.bin .add) (.cons (.inp 5) (.cons (.cst (.int .i64 1)) .nil))))] none))) Q env w := rfl
def h54_2 : HC := (.seq (.reg (.chk none (.idxL 1) (.cons (.inp 4) (.cons (.inp 5) .nil)) (.eff (.ld false 1) (.cons (.op (.idxL 1) (.cons (.inp 4) (.cons (.inp 5) .nil))) .nil) (.done [(1, (.bv 0)), (2, (.cst (.int .i64 40)))] none)))) .ret)
@[simp] theorem h54_2_wp {P : Program} {F : PF P} {Q : EX → List Value → World → Prop} {env : List Value} {w : World} : h54_2.wp F Q env w = HC.wp F (.seq (.reg (.chk none (.idxL 1) (.cons (.inp 4) (.cons (.inp 5) .nil)) (.eff (.ld false 1) (.cons (.op (.idxL 1) (.cons (.inp 4) (.cons (.inp 5) .nil))) .nil) (.done [(1, (.bv 0)), (2, (.cst (.int .i64 40)))] none)))) .ret) Q env w := rfl
def h54_3 : HC := (.br (.chk none (.idxL 1) (.cons (.inp 3) (.cons (.inp 5) .nil)) (.eff (.ld false 1) (.cons (.op (.idxL 1) (.cons (.inp 3) (.cons (.inp 5) .nil))) .nil) (.chk none (.cal 82) (.cons (.bv 0) .nil) (.chk none (.un .not) (.cons (.op (.cal 82) (.cons (.bv 0) .nil)) .nil) (.bnd (.op (.un .not) (.cons (.op (.cal 82) (.cons (.bv 0) .nil)) .nil)) (.chk (some ((.bv 1), true)) (.idxL 1) (.cons (.inp 3) (.cons (.inp 5) .nil)) (.ite (.bv 1) true (.eff (.ld false 1) (.cons (.ite (.bv 1) true (.op (.idxL 1) (.cons (.inp 3) (.cons (.inp 5) .nil))) (.cst (.tuple #[]))) .nil) (.chk none (.cal 81) (.cons (.bv 2) .nil) (.chk none (.un .not) (.cons (.op (.cal 81) (.cons (.bv 2) .nil)) .nil) (.bnd (.op (.un .not) (.cons (.op (.cal 81) (.cons (.bv 2) .nil)) .nil)) (.isb none (.bv 3) (.isb none (.bv 1) (.done [] (some (.ite (.bv 3) true (.cst (.bool true)) (.inp 6)))))))))) (.isb none (.bv 1) (.done [] (some (.cst (.bool false)))))))))))) h54_2 .skip)
@[simp] theorem h54_3_wp {P : Program} {F : PF P} {Q : EX → List Value → World → Prop} {env : List Value} {w : World} : h54_3.wp F Q env w = HC.wp F (.br (.chk none (.idxL 1) (.cons (.inp 3) (.cons (.inp 5) .nil)) (.eff (.ld false 1) (.cons (.op (.idxL 1) (.cons (.inp 3) (.cons (.inp 5) .nil))) .nil) (.chk none (.cal 82) (.cons (.bv 0) .nil) (.chk none (.un .not) (.cons (.op (.cal 82) (.cons (.bv 0) .nil)) .nil) (.bnd (.op (.un .not) (.cons (.op (.cal 82) (.cons (.bv 0) .nil)) .nil)) (.chk (some ((.bv 1), true)) (.idxL 1) (.cons (.inp 3) (.cons (.inp 5) .nil)) (.ite (.bv 1) true (.eff (.ld false 1) (.cons (.ite (.bv 1) true (.op (.idxL 1) (.cons (.inp 3) (.cons (.inp 5) .nil))) (.cst (.tuple #[]))) .nil) (.chk none (.cal 81) (.cons (.bv 2) .nil) (.chk none (.un .not) (.cons (.op (.cal 81) (.cons (.bv 2) .nil)) .nil) (.bnd (.op (.un .not) (.cons (.op (.cal 81) (.cons (.bv 2) .nil)) .nil)) (.isb none (.bv 3) (.isb none (.bv 1) (.done [] (some (.ite (.bv 3) true (.cst (.bool true)) (.inp 6)))))))))) (.isb none (.bv 1) (.done [] (some (.cst (.bool false)))))))))))) h54_2 .skip) Q env w := rfl
def h54_4 : HC := (.seq (.reg (.chk none (.bin .eql) (.cons (.inp 5) (.cons (.cst (.int .i64 0)) .nil)) (.bnd (.op (.bin .eql) (.cons (.inp 5) (.cons (.cst (.int .i64 0)) .nil))) (.chk (some ((.bv 0), false)) .lenL (.cons (.inp 3) .nil) (.chk (some ((.bv 0), false)) (.bin .sub) (.cons (.op .lenL (.cons (.inp 3) .nil)) (.cons (.cst (.int .i64 1)) .nil)) (.chk (some ((.bv 0), false)) (.bin .eql) (.cons (.inp 5) (.cons (.op (.bin .sub) (.cons (.op .lenL (.cons (.inp 3) .nil)) (.cons (.cst (.int .i64 1)) .nil))) .nil)) (.isb none (.bv 0) (.bnd (.ite (.bv 0) true (.cst (.bool true)) (.op (.bin .eql) (.cons (.inp 5) (.cons (.op (.bin .sub) (.cons (.op .lenL (.cons (.inp 3) .nil)) (.cons (.cst (.int .i64 1)) .nil))) .nil)))) (.chk (some ((.bv 1), false)) (.bin .sub) (.cons (.inp 5) (.cons (.cst (.int .i64 1)) .nil)) (.chk (some ((.bv 1), false)) (.idxL 1) (.cons (.inp 3) (.cons (.op (.bin .sub) (.cons (.inp 5) (.cons (.cst (.int .i64 1)) .nil))) .nil)) (.ite (.bv 1) false (.eff (.ld false 1) (.cons (.ite (.bv 1) false (.op (.idxL 1) (.cons (.inp 3) (.cons (.op (.bin .sub) (.cons (.inp 5) (.cons (.cst (.int .i64 1)) .nil))) .nil))) (.cst (.tuple #[]))) .nil) (.chk none (.cal 81) (.cons (.bv 2) .nil) (.isb none (.bv 1) (.done [(6, (.op (.cal 81) (.cons (.bv 2) .nil)))] none)))) (.isb none (.bv 1) (.done [(6, (.cst (.bool true)))] none))))))))))))) h54_3)
@[simp] theorem h54_4_wp {P : Program} {F : PF P} {Q : EX → List Value → World → Prop} {env : List Value} {w : World} : h54_4.wp F Q env w = HC.wp F (.seq (.reg (.chk none (.bin .eql) (.cons (.inp 5) (.cons (.cst (.int .i64 0)) .nil)) (.bnd (.op (.bin .eql) (.cons (.inp 5) (.cons (.cst (.int .i64 0)) .nil))) (.chk (some ((.bv 0), false)) .lenL (.cons (.inp 3) .nil) (.chk (some ((.bv 0), false)) (.bin .sub) (.cons (.op .lenL (.cons (.inp 3) .nil)) (.cons (.cst (.int .i64 1)) .nil)) (.chk (some ((.bv 0), false)) (.bin .eql) (.cons (.inp 5) (.cons (.op (.bin .sub) (.cons (.op .lenL (.cons (.inp 3) .nil)) (.cons (.cst (.int .i64 1)) .nil))) .nil)) (.isb none (.bv 0) (.bnd (.ite (.bv 0) true (.cst (.bool true)) (.op (.bin .eql) (.cons (.inp 5) (.cons (.op (.bin .sub) (.cons (.op .lenL (.cons (.inp 3) .nil)) (.cons (.cst (.int .i64 1)) .nil))) .nil)))) (.chk (some ((.bv 1), false)) (.bin .sub) (.cons (.inp 5) (.cons (.cst (.int .i64 1)) .nil)) (.chk (some ((.bv 1), false)) (.idxL 1) (.cons (.inp 3) (.cons (.op (.bin .sub) (.cons (.inp 5) (.cons (.cst (.int .i64 1)) .nil))) .nil)) (.ite (.bv 1) false (.eff (.ld false 1) (.cons (.ite (.bv 1) false (.op (.idxL 1) (.cons (.inp 3) (.cons (.op (.bin .sub) (.cons (.inp 5) (.cons (.cst (.int .i64 1)) .nil))) .nil))) (.cst (.tuple #[]))) .nil) (.chk none (.cal 81) (.cons (.bv 2) .nil) (.isb none (.bv 1) (.done [(6, (.op (.cal 81) (.cons (.bv 2) .nil)))] none)))) (.isb none (.bv 1) (.done [(6, (.cst (.bool true)))] none))))))))))))) h54_3) Q env w := rfl
def h54_5 : HC := (.seq (.block 1 h54_4) h54_1)
@[simp] theorem h54_5_wp {P : Program} {F : PF P} {Q : EX → List Value → World → Prop} {env : List Value} {w : World} : h54_5.wp F Q env w = HC.wp F (.seq (.block 1 h54_4) h54_1) Q env w := rfl
def h54_6 : HC := (.seq (.br (.chk none .lenL (.cons (.inp 3) .nil) (.chk none (.bin .lss) (.cons (.inp 5) (.cons (.op .lenL (.cons (.inp 3) .nil)) .nil)) (.done [] (some (.op (.bin .lss) (.cons (.inp 5) (.cons (.op .lenL (.cons (.inp 3) .nil)) .nil))))))) .skip (.exit 0)) h54_5)
@[simp] theorem h54_6_wp {P : Program} {F : PF P} {Q : EX → List Value → World → Prop} {env : List Value} {w : World} : h54_6.wp F Q env w = HC.wp F (.seq (.br (.chk none .lenL (.cons (.inp 3) .nil) (.chk none (.bin .lss) (.cons (.inp 5) (.cons (.op .lenL (.cons (.inp 3) .nil)) .nil)) (.done [] (some (.op (.bin .lss) (.cons (.inp 5) (.cons (.op .lenL (.cons (.inp 3) .nil)) .nil))))))) .skip (.exit 0)) h54_5) Q env w := rfl
def h54_7 : HC := (.loop h54_6)
@[simp] theorem h54_7_wp {P : Program} {F : PF P} {Q : EX → List Value → World → Prop} {env : List Value} {w : World} : h54_7.wp F Q env w = HC.wp F (.loop h54_6) Q env w := rfl
def h54_8 : HC := (.seq (.block 0 h54_7) h54_0)
@[simp] theorem h54_8_wp {P : Program} {F : PF P} {Q : EX → List Value → World → Prop} {env : List Value} {w : World} : h54_8.wp F Q env w = HC.wp F (.seq (.block 0 h54_7) h54_0) Q env w := rfl
def h54_9 : HC := (.seq (.reg (.done [(5, (.cst (.int .i64 0)))] none)) h54_8)
@[simp] theorem h54_9_wp {P : Program} {F : PF P} {Q : EX → List Value → World → Prop} {env : List Value} {w : World} : h54_9.wp F Q env w = HC.wp F (.seq (.reg (.done [(5, (.cst (.int .i64 0)))] none)) h54_8) Q env w := rfl
def h54_10 : HC := (.seq (.reg (.chk none (.idxL 1) (.cons (.inp 4) (.cons (.cst (.int .i64 24)) .nil)) (.eff (.ld false 1) (.cons (.op (.idxL 1) (.cons (.inp 4) (.cons (.cst (.int .i64 24)) .nil))) .nil) (.done [(1, (.bv 0)), (2, (.cst (.int .i64 42)))] none)))) .ret)
@[simp] theorem h54_10_wp {P : Program} {F : PF P} {Q : EX → List Value → World → Prop} {env : List Value} {w : World} : h54_10.wp F Q env w = HC.wp F (.seq (.reg (.chk none (.idxL 1) (.cons (.inp 4) (.cons (.cst (.int .i64 24)) .nil)) (.eff (.ld false 1) (.cons (.op (.idxL 1) (.cons (.inp 4) (.cons (.cst (.int .i64 24)) .nil))) .nil) (.done [(1, (.bv 0)), (2, (.cst (.int .i64 42)))] none)))) .ret) Q env w := rfl
def h54_11 : HC := (.seq (.br (.chk none .lenL (.cons (.inp 3) .nil) (.chk none (.bin .gtr) (.cons (.op .lenL (.cons (.inp 3) .nil)) (.cons (.cst (.int .i64 24)) .nil)) (.done [] (some (.op (.bin .gtr) (.cons (.op .lenL (.cons (.inp 3) .nil)) (.cons (.cst (.int .i64 24)) .nil))))))) h54_10 .skip) h54_9)
@[simp] theorem h54_11_wp {P : Program} {F : PF P} {Q : EX → List Value → World → Prop} {env : List Value} {w : World} : h54_11.wp F Q env w = HC.wp F (.seq (.br (.chk none .lenL (.cons (.inp 3) .nil) (.chk none (.bin .gtr) (.cons (.op .lenL (.cons (.inp 3) .nil)) (.cons (.cst (.int .i64 24)) .nil)) (.done [] (some (.op (.bin .gtr) (.cons (.op .lenL (.cons (.inp 3) .nil)) (.cons (.cst (.int .i64 24)) .nil))))))) h54_10 .skip) h54_9) Q env w := rfl
def h54_12 : HC := (.seq (.reg (.done [(1, (.cst (.int .i64 0))), (2, (.cst (.int .i64 41)))] none)) .ret)
@[simp] theorem h54_12_wp {P : Program} {F : PF P} {Q : EX → List Value → World → Prop} {env : List Value} {w : World} : h54_12.wp F Q env w = HC.wp F (.seq (.reg (.done [(1, (.cst (.int .i64 0))), (2, (.cst (.int .i64 41)))] none)) .ret) Q env w := rfl
def h54_13 : HC := (.seq (.br (.chk none .lenL (.cons (.inp 3) .nil) (.chk none (.bin .eql) (.cons (.op .lenL (.cons (.inp 3) .nil)) (.cons (.cst (.int .i64 0)) .nil)) (.done [] (some (.op (.bin .eql) (.cons (.op .lenL (.cons (.inp 3) .nil)) (.cons (.cst (.int .i64 0)) .nil))))))) h54_12 .skip) h54_11)
@[simp] theorem h54_13_wp {P : Program} {F : PF P} {Q : EX → List Value → World → Prop} {env : List Value} {w : World} : h54_13.wp F Q env w = HC.wp F (.seq (.br (.chk none .lenL (.cons (.inp 3) .nil) (.chk none (.bin .eql) (.cons (.op .lenL (.cons (.inp 3) .nil)) (.cons (.cst (.int .i64 0)) .nil)) (.done [] (some (.op (.bin .eql) (.cons (.op .lenL (.cons (.inp 3) .nil)) (.cons (.cst (.int .i64 0)) .nil))))))) h54_12 .skip) h54_11) Q env w := rfl
def h54_14 : HC := (.seq (.reg (.eff (.call 80) (.cons (.inp 0) .nil) (.chk none (.ext 0) (.cons (.bv 0) .nil) (.chk none (.ext 1) (.cons (.bv 0) .nil) (.done [(3, (.op (.ext 0) (.cons (.bv 0) .nil))), (4, (.op (.ext 1) (.cons (.bv 0) .nil)))] none))))) h54_13)
@[simp] theorem h54_14_wp {P : Program} {F : PF P} {Q : EX → List Value → World → Prop} {env : List Value} {w : World} : h54_14.wp F Q env w = HC.wp F (.seq (.reg (.eff (.call 80) (.cons (.inp 0) .nil) (.chk none (.ext 0) (.cons (.bv 0) .nil) (.chk none (.ext 1) (.cons (.bv 0) .nil) (.done [(3, (.op (.ext 0) (.cons (.bv 0) .nil))), (4, (.op (.ext 1) (.cons (.bv 0) .nil)))] none))))) h54_13) Q env w := rfl
def l54 : Lifted := ⟨[0, 2, 3, 4, 5, 6, 7], 66, [.slot 1, .slot 2], (.seq (.reg (.done [(1, (.cst (.int .i64 0))), (2, (.cst (.int .i64 0)))] none)) h54_14)⟩
theorem l54_ok : liftFn F4 54 400 = some l54 := by kernel_rfl


theorem check_spec (l : List UInt8) (w0 w : World) (A : Asn) (hl : l.length ≤ 1048576) (s : St w0 A w) :
    CallW Try.prog 11 [.string (mk l)] (fun r w' => r = .tuple #[.int .i64 (checkF l).1, .int .i64 (checkF l).2] ∧ St w0 A w') w := by
  refine callW_of_lift l11_ok (by simp [l11]) ?_
  simp [l11]
  refine cndI (fun h => ?_) (fun h => ?_)
  · simp at h
    subst h
    simp [checkF]
    exact s
  simp at h
  simp
  refine eff_rngS s ?_
  intro b w1 s1
  simp
  refine loopI (fun env w' => ∃ (i : Nat) (done : List (Int × Nat)) (x y z t : Value), env = [.string (mk l), .int .i64 0, .int .i64 0, .int .i64 done.length, .int .i64 (optI (faultP true 0 done)), .int .i64 (lastP 0 0 done), .bool (lastJ true done), x, y, z, .pointer (some ⟨b, 0, none⟩), t] ∧
      i ≤ l.length ∧ units l = done ++ units (l.drop i) ∧ i = sumW done ∧ done.length ≤ 24 ∧ St w0 (A * pt b (.stringIter (mk l) i)) w')
    (fun env _ => 25 - slotN env 3) ⟨0, [], _, _, _, _, by simp [optI, faultP, lastP, lastJ]; exact ⟨rfl, rfl, rfl, rfl⟩, by omega, by simp, rfl, by simp, s1⟩ ?_
  rintro LQ env w' ⟨i, done, x, y, z, t, rfl, hi, hu, hsum, hd24, s'⟩ hN hE hR
  simp
  refine eff_nxtS s' (fun h w2 s2 => ?_) (fun h => ?_)
  · simp at h
    have hle := oneF_le (l := l) (i := i) h
    have hob := oneF_bd (l := l.drop i) (by simp; omega)
    rw [decode_decL, decL_oneF _ (by simp; omega)] at s2
    have hstep := units_step hu h
    rw [decode_decL, decL_oneF _ (by simp; omega)]
    simp
    refine cndI (fun h2 => ?_) (fun h2 => ?_)
    · simp at h2
      simp
      refine hR _ _ ?_
      simp
      refine ⟨?_, s2.drop⟩
      have hlen : 24 < (units l).length := by rw [hstep]; simp; omega
      unfold checkF
      rw [if_neg (by assumption), if_pos hlen, hu, show (24 : Nat) = done.length by omega, List.take_left, ← hsum]
      simp
    · simp at h2
      simp
      try simp (disch := omega) only [wrap64]
      refine ⟨⟨hl, h⟩, ?_⟩
      have hsn := faultP_snoc done (oneF (l.drop i)) true 0
      -- how the round ends
      have fin : ∀ fv : Int, fv = optI (faultP true 0 (done ++ [oneF (l.drop i)])) → LQ .nrm [.string (mk l), .int .i64 0, .int .i64 0, .int .i64 (done.length + 1), .int .i64 fv, .int .i64 i, .bool (joinerF (oneF (l.drop i)).1), .int .i64 i, .int .i32 (runeOf (oneF (l.drop i)).1), .int .i32 (oneF (l.drop i)).1, .pointer (some ⟨b, 0, none⟩), .tuple #[.bool true, .int .i64 i, .int .i32 (runeOf (oneF (l.drop i)).1)]] w2 := by
        intro fv hfv
        refine hN _ _ ⟨i + (oneF (l.drop i)).2, done ++ [oneF (l.drop i)], .int .i64 i, .int .i32 (runeOf (oneF (l.drop i)).1), .int .i32 (oneF (l.drop i)).1, .tuple #[.bool true, .int .i64 i, .int .i32 (runeOf (oneF (l.drop i)).1)], ?_, hle.1, hstep, by simp [sumW_append, sumW, hsum], by simp; omega, s2⟩ (by simp [slotN]; omega)
        rw [hfv, lastP_snoc, lastJ_snoc, Nat.zero_add, ← hsum]
        simp
      cases hf : faultP true 0 done with
      | some q =>
        have e0 : optI (some q) = (q : Int) := rfl
        rw [hf] at hsn
        have e1 : ¬ ((q : Int) < 0) := by omega
        rw [e0]
        simp [e1]
        exact fin _ (by rw [hsn]; rfl)
      | none =>
        have e0 : optI none = -1 := rfl
        rw [hf] at hsn
        simp only at hsn
        rw [e0]
        cases hlt : letterF (oneF (l.drop i)).1
        · simp
          refine cndI (fun h3 => ?_) (fun h3 => ?_)
          · simp
            refine fin _ ?_
            rw [hsn, badAt, hlt, h3]
            simp [optI, hsum]
          · simp
            refine fin _ ?_
            rw [hsn, badAt, hlt, h3]
            rfl
        · simp
          refine fin _ ?_
          rw [hsn, badAt, hlt]
          rfl
  · simp at h
    simp
    refine hE _ _ _ ?_
    simp
    have : i = l.length := by omega
    subst this
    rw [List.drop_length, units_nil, List.append_nil] at hu
    have hne : units l ≠ [] := by intro e; have := sumW_units l; rw [e] at this; simp [sumW] at this; exact absurd (List.eq_nil_of_length_eq_zero this.symm) (by assumption)
    have hck : checkF l = (match faultF true 0 (units l) with | some p => ((p : Int), 40) | none => (0, 0)) := by
      unfold checkF
      rw [if_neg (by assumption), if_neg (by rw [hu]; omega)]
    rw [fault_eq _ _ _ 0 hne, hu] at hck
    cases hf : faultP true 0 done with
    | some q =>
      rw [hf] at hck
      simp only at hck
      have e0 : optI (some q) = (q : Int) := rfl
      rw [e0, hck]
      have e1 : decide ((q : Int) < 0) = false := by simp
      simp [e1]
      exact s'.drop
    | none =>
      rw [hf] at hck
      simp only at hck
      have e0 : optI none = -1 := rfl
      rw [e0, hck]
      cases hj : lastJ true done
      · simp
        exact s'.drop
      · simp
        exact s'.drop

theorem lastJ_take (us : List (Int × Nat)) (i : Nat) (hi : i ≤ us.length) : lastJ true (us.take i) = if i = 0 then true else joinerF (us[i - 1]?.getD (0, 0)).1 := by
  cases i with
  | zero => simp [lastJ]
  | succ i =>
    have hlt : i < us.length := by omega
    rw [List.take_succ_eq_append_getElem hlt, lastJ_snoc]
    simp [hlt]
theorem rcheck_spec (l : List UInt8) (w0 w : World) (A : Asn) (hl : l.length ≤ 1048576) (s : St w0 A w) :
    CallW Try.prog 54 [.string (mk l)] (fun r w' => r = .tuple #[.int .i64 (checkF l).1, .int .i64 (checkF l).2] ∧ St w0 A w') w := by
  refine callW_of_lift l54_ok (by simp [l54]) ?_
  simp [l54]
  refine eff_call ((units_spec l w0 w A hl s).mono ?_)
  rintro r w' ⟨v1, v2, rfl, s1⟩
  obtain ⟨a1, c1, rfl, hc1, hn1⟩ := s1.swap.own_val
  obtain ⟨a2, c2, rfl, hc2, hn2⟩ := s1.own_val
  have hul := units_len l
  simp
  refine cndI (fun h => ?_) (fun h => ?_)
  · simp at h
    have : l = [] := by have := sumW_units l; rw [h] at this; simp [sumW] at this; exact List.eq_nil_of_length_eq_zero this.symm
    simp [checkF, this]
    exact s1.drop.drop
  simp at h
  have hne : ¬ l = [] := by intro e; exact h (by rw [e]; rfl)
  have hpos : 0 < (units l).length := by have : (units l).length ≠ 0 := by simpa using h
                                         omega
  obtain ⟨g1, c1', e1, _, hcell1⟩ := s1.swap.own_at hpos
  obtain ⟨g2, c2', e2, _, hcell2⟩ := s1.own_at hpos
  cases e1
  cases e2
  simp
  refine cndI (fun h2 => ?_) (fun h2 => ?_)
  · simp at h2
    have h3 : 24 < (units l).length := by omega
    simp
    refine ⟨h2, eff_ldc (v := .int .i64 (sumW ((units l).take 24))) (hcell2 24 _ (by simp [ints, starts_get 0 (units l) 24 h3])) ?_⟩
    simp
    unfold checkF
    rw [if_neg hne, if_pos h3]
    simp
    exact s1.drop.drop
  simp at h2
  simp
  have hck : checkF l = (match faultF true 0 (units l) with | some p => ((p : Int), 40) | none => (0, 0)) := by
    unfold checkF
    rw [if_neg hne, if_neg (by omega)]
  refine loopI (fun env w'' => ∃ (i : Nat) (o : Value), env = [.string (mk l), .int .i64 0, .int .i64 0, .slice (some ⟨g1, 0, none⟩) (units l).length c1, .slice (some ⟨g2, 0, none⟩) (units l).length c2, .int .i64 i, o] ∧ w'' = w' ∧ i ≤ (units l).length ∧
      faultF true 0 (units l) = faultF (lastJ true ((units l).take i)) (sumW ((units l).take i)) ((units l).drop i)) (fun env _ => (units l).length - slotN env 5) ⟨0, _, rfl, rfl, by omega, by simp [lastJ, sumW]⟩ ?_
  rintro LQ env w'' ⟨i, o, rfl, rfl, hi, hf⟩ hN hE hR
  simp
  refine cndI (fun h3 => ?_) (fun h3 => ?_)
  · simp at h3
    have hdr : (units l).drop i = (units l)[i] :: (units l).drop (i + 1) := by rw [List.drop_eq_getElem_cons h3]
    have hge : (units l)[i]? = some (units l)[i] := by simp [h3]
    have htk : (units l).take (i + 1) = (units l).take i ++ [(units l)[i]] := by rw [List.take_succ_eq_append_getElem h3]
    have hlj := lastJ_take (units l) i (by omega)
    rw [hdr] at hf
    simp only [faultF] at hf
    have k1 : ∀ j, j < (units l).length → w''.cell? ⟨g1, j, none⟩ = some (.int .i64 ((units l)[j]?.getD (0, 0)).1) := by
      intro j hj
      refine hcell1 j _ ?_
      simp [ints, hj]
    have k2 : ∀ j, j < (units l).length → w''.cell? ⟨g2, j, none⟩ = some (.int .i64 (sumW ((units l).take j))) := by
      intro j hj
      refine hcell2 j _ ?_
      simp [ints, starts_get 0 (units l) j hj]
    have k1' : ∀ j (hj : j < (units l).length), w''.cell? ⟨g1, j, none⟩ = some (.int .i64 ((units l)[j]).1) := by
      intro j hj
      have := k1 j hj
      simpa [hj] using this
    -- what follows, once it is known whether a joiner may not stand here
    have rest : ∀ ov : Bool, ov = (lastJ true ((units l).take i) || ((units l).drop (i + 1)).isEmpty) → HC.wp F4 h54_3 (blockQ 1 (seqQ F4 h54_1 LQ)) [.string (mk l), .int .i64 0, .int .i64 0, .slice (some ⟨g1, 0, none⟩) (units l).length c1, .slice (some ⟨g2, 0, none⟩) (units l).length c2, .int .i64 i, .bool ov] w'' := by
      intro ov hov
      rw [← hov] at hf
      simp
      refine ⟨h3, eff_ldc (k1' i h3) ?_⟩
      have fin : badAt ov (units l)[i].1 = false → LQ .nrm [.string (mk l), .int .i64 0, .int .i64 0, .slice (some ⟨g1, 0, none⟩) (units l).length c1, .slice (some ⟨g2, 0, none⟩) (units l).length c2, .int .i64 (i + 1), .bool ov] w'' := by
        intro hb
        rw [hb] at hf
        refine hN _ _ ⟨i + 1, .bool ov, by simp, rfl, h3, ?_⟩ (by simp [slotN]; omega)
        rw [hf, htk, lastJ_snoc, sumW_append]
        simp [sumW]
      cases hlt : letterF (units l)[i].1
      · simp [hlt, h3]
        refine eff_ldc (k1' i h3) ?_
        simp
        refine cndI (fun h6 => ?_) (fun h6 => ?_)
        · have hb : badAt ov (units l)[i].1 = true := by rw [badAt, hlt, Bool.or_comm, h6]; rfl
          simp
          refine ⟨h3, eff_ldc (k2 i h3) ?_⟩
          simp
          refine hR _ _ ?_
          rw [hck, hf, hb]
          simp
          exact s1.drop.drop
        · have hb : badAt ov (units l)[i].1 = false := by rw [badAt, hlt, Bool.or_comm, h6]; rfl
          simp
          try simp (disch := omega) only [wrap64]
          exact fin hb
      · have hb : badAt ov (units l)[i].1 = false := by rw [badAt, hlt]; rfl
        simp [hlt]
        refine iteR_bool (fun e => by cases e) (fun _ => ?_)
        simp
        try simp (disch := omega) only [wrap64]
        exact fin hb
    simp
    try simp (disch := omega) only [wrap64]
    refine ⟨fun h4 h5 => by omega, ?_⟩
    refine iteR_bool (fun h4 => ?_) (fun h4 => ?_)
    · simp at h4
      simp [h4.1, h4.2]
      have e1 : (IntKind.i64.wrap ((i : Int) - 1)).toNat = i - 1 := by rw [wrap64 (by omega) (by omega)]; omega
      rw [e1]
      refine eff_ldc (k1' (i - 1) (by omega)) ?_
      simp
      have hh := rest (joinerF ((units l)[i - 1]'(by omega)).1) ?_
      · simp at hh
        exact hh
      rw [hlj]
      simp [show i ≠ 0 by omega, show i - 1 < (units l).length by omega]
      omega
    · simp
      have hh := rest true ?_
      · simp at hh
        exact hh
      simp at h4
      rw [hlj]
      rcases h4 with h4 | h4
      · simp [h4]
      · simp; right; omega
  · simp at h3
    simp
    refine hE _ _ _ ?_
    simp
    have : i = (units l).length := by omega
    subst this
    rw [List.drop_length] at hf
    rw [hck, hf]
    simp [faultF]
    exact s1.drop.drop
end Go.HL.Nm
