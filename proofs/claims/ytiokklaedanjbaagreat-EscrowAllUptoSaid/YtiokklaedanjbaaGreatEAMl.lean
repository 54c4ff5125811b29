/-
  What the claim leans on, part 12 of 16. Conditions: as each theorem says.
-/
import Derived.Test.YtiokklaedanjbaaGreatEAMk
namespace Go.HL.Pu
open Go.HL Go.HL.Nm Go.Proofs
set_option maxRecDepth 4000
set_option linter.unusedSimpArgs false
set_option linter.unusedVariables false
/-- coins within bounds -/
structure Bd (P : Ps) : Prop where
  coins : ∀ i, i < P.rows.length → 0 ≤ (P.rows.getD i ⟨[], 0⟩).coins ∧ (P.rows.getD i ⟨[], 0⟩).coins ≤ 4611686018427387904
  held : 0 ≤ P.held ∧ P.held ≤ 4611686018427387904
  sup : 0 ≤ P.sup ∧ P.sup ≤ 4611686018427387904
  len : P.rows.length ≤ 64
def coin (l : List Ac) (i : Nat) : Int := (l.getD i ⟨[], 0⟩).coins
def setC (l : List Ac) (i : Nat) (c : Int) : List Ac := l.set i ⟨(l.getD i ⟨[], 0⟩).name, c⟩
theorem coin_at {l : List Ac} {i : Nat} (h : i < l.length) : coin l i = l[i].coins := by simp [coin, h]
theorem setC_at {l : List Ac} {i : Nat} (h : i < l.length) (c : Int) : (flat l).set (i * 2 + 1) (.int .u64 c) = flat (setC l i c) := by
  rw [flat_set1 h]; simp [setC, h]
theorem setC_len (l : List Ac) (i : Nat) (c : Int) : (setC l i c).length = l.length := by simp [setC]
theorem keys_setC (l : List Ac) (i : Nat) (c : Int) : keys (setC l i c) = keys l := by
  unfold keys setC
  rw [List.map_set]
  by_cases h : i < l.length
  · have e : keyF (l.getD i ⟨[], 0⟩).name = (l.map fun x => keyF x.name)[i]'(by simpa using h) := by simp [h]
    show (l.map fun x => keyF x.name).set i (keyF (l.getD i ⟨[], 0⟩).name) = _
    rw [e]; exact List.set_getElem_self _
  · rw [List.set_eq_of_length_le (by simp; omega)]
def accE (l : List Ac) (n : Int) : Int := if 0 ≤ n ∧ n < l.length then 0 else 142
-- (*bazaar/purse.Purse).account
def h98_0 : HC := (.seq (.reg (.done [(2, (.cst (.int .i64 0)))] none)) .ret)
@[simp] theorem h98_0_wp {P : Program} {F : PF P} {Q : EX → List Value → World → Prop} {env : List Value} {w : World} : h98_0.wp F Q env w = HC.wp F (.seq (.reg (.done [(2, (.cst (.int .i64 0)))] none)) .ret) Q env w := rfl
def h98_1 : HC := (.seq (.reg (.done [(2, (.cst (.int .i64 142)))] none)) .ret)
@[simp] theorem h98_1_wp {P : Program} {F : PF P} {Q : EX → List Value → World → Prop} {env : List Value} {w : World} : h98_1.wp F Q env w = HC.wp F (.seq (.reg (.done [(2, (.cst (.int .i64 142)))] none)) .ret) Q env w := rfl
def h98_2 : HC := (.seq (.br (.chk none (.bin .lss) (.cons (.inp 1) (.cons (.cst (.int .i64 0)) .nil)) (.bnd (.op (.bin .lss) (.cons (.inp 1) (.cons (.cst (.int .i64 0)) .nil))) (.chk (some ((.bv 0), false)) .chkp (.cons (.inp 0) .nil) (.chk (some ((.bv 0), false)) (.fld 2) (.cons (.op .chkp (.cons (.inp 0) .nil)) .nil) (.ite (.bv 0) false (.eff (.ld false 1) (.cons (.ite (.bv 0) false (.op (.fld 2) (.cons (.op .chkp (.cons (.inp 0) .nil)) .nil)) (.cst (.tuple #[]))) .nil) (.chk none .lenL (.cons (.bv 1) .nil) (.chk none (.bin .geq) (.cons (.ite (.bv 0) false (.inp 1) (.cst (.tuple #[]))) (.cons (.op .lenL (.cons (.bv 1) .nil)) .nil)) (.isb none (.bv 0) (.done [] (some (.op (.bin .geq) (.cons (.ite (.bv 0) false (.inp 1) (.cst (.tuple #[]))) (.cons (.op .lenL (.cons (.bv 1) .nil)) .nil))))))))) (.isb none (.bv 0) (.done [] (some (.cst (.bool true)))))))))) h98_1 .skip) h98_0)
@[simp] theorem h98_2_wp {P : Program} {F : PF P} {Q : EX → List Value → World → Prop} {env : List Value} {w : World} : h98_2.wp F Q env w = HC.wp F (.seq (.br (.chk none (.bin .lss) (.cons (.inp 1) (.cons (.cst (.int .i64 0)) .nil)) (.bnd (.op (.bin .lss) (.cons (.inp 1) (.cons (.cst (.int .i64 0)) .nil))) (.chk (some ((.bv 0), false)) .chkp (.cons (.inp 0) .nil) (.chk (some ((.bv 0), false)) (.fld 2) (.cons (.op .chkp (.cons (.inp 0) .nil)) .nil) (.ite (.bv 0) false (.eff (.ld false 1) (.cons (.ite (.bv 0) false (.op (.fld 2) (.cons (.op .chkp (.cons (.inp 0) .nil)) .nil)) (.cst (.tuple #[]))) .nil) (.chk none .lenL (.cons (.bv 1) .nil) (.chk none (.bin .geq) (.cons (.ite (.bv 0) false (.inp 1) (.cst (.tuple #[]))) (.cons (.op .lenL (.cons (.bv 1) .nil)) .nil)) (.isb none (.bv 0) (.done [] (some (.op (.bin .geq) (.cons (.ite (.bv 0) false (.inp 1) (.cst (.tuple #[]))) (.cons (.op .lenL (.cons (.bv 1) .nil)) .nil))))))))) (.isb none (.bv 0) (.done [] (some (.cst (.bool true)))))))))) h98_1 .skip) h98_0) Q env w := rfl
def h98_3 : HC := (.seq (.reg (.done [(2, (.cst (.int .i64 1)))] none)) .ret)
@[simp] theorem h98_3_wp {P : Program} {F : PF P} {Q : EX → List Value → World → Prop} {env : List Value} {w : World} : h98_3.wp F Q env w = HC.wp F (.seq (.reg (.done [(2, (.cst (.int .i64 1)))] none)) .ret) Q env w := rfl
def h98_4 : HC := (.seq (.br (.chk none (.eqNil false (.pointer 81) (.pointer none)) (.cons (.inp 0) .nil) (.done [] (some (.op (.eqNil false (.pointer 81) (.pointer none)) (.cons (.inp 0) .nil))))) h98_3 .skip) h98_2)
@[simp] theorem h98_4_wp {P : Program} {F : PF P} {Q : EX → List Value → World → Prop} {env : List Value} {w : World} : h98_4.wp F Q env w = HC.wp F (.seq (.br (.chk none (.eqNil false (.pointer 81) (.pointer none)) (.cons (.inp 0) .nil) (.done [] (some (.op (.eqNil false (.pointer 81) (.pointer none)) (.cons (.inp 0) .nil))))) h98_3 .skip) h98_2) Q env w := rfl
def l98 : Lifted := ⟨[0, 1, 4], 18, [.slot 2], (.seq (.reg (.done [(2, (.cst (.int .i64 0)))] none)) h98_4)⟩
theorem l98_ok : liftFn U0 98 400 = some l98 := by kernel_rfl

-- (*bazaar/purse.Purse).Open
def h31_0 : HC := (.seq (.reg (.done [(2, (.inp 6)), (3, (.cst (.int .i64 0)))] none)) .ret)
@[simp] theorem h31_0_wp {P : Program} {F : PF P} {Q : EX → List Value → World → Prop} {env : List Value} {w : World} : h31_0.wp F Q env w = HC.wp F (.seq (.reg (.done [(2, (.inp 6)), (3, (.cst (.int .i64 0)))] none)) .ret) Q env w := rfl
def h31_1 : HC := (.seq (.reg (.chk none .chkp (.cons (.inp 0) .nil) (.chk none (.fld 0) (.cons (.op .chkp (.cons (.inp 0) .nil)) .nil) (.eff (.call 77) (.cons (.op (.fld 0) (.cons (.op .chkp (.cons (.inp 0) .nil)) .nil)) (.cons (.inp 1) (.cons (.inp 6) .nil))) (.done [] none))))) h31_0)
@[simp] theorem h31_1_wp {P : Program} {F : PF P} {Q : EX → List Value → World → Prop} {env : List Value} {w : World} : h31_1.wp F Q env w = HC.wp F (.seq (.reg (.chk none .chkp (.cons (.inp 0) .nil) (.chk none (.fld 0) (.cons (.op .chkp (.cons (.inp 0) .nil)) .nil) (.eff (.call 77) (.cons (.op (.fld 0) (.cons (.op .chkp (.cons (.inp 0) .nil)) .nil)) (.cons (.inp 1) (.cons (.inp 6) .nil))) (.done [] none))))) h31_0) Q env w := rfl
def h31_2 : HC := (.seq (.reg (.chk none .chkp (.cons (.inp 0) .nil) (.chk none (.fld 2) (.cons (.op .chkp (.cons (.inp 0) .nil)) .nil) (.eff (.ld false 1) (.cons (.op (.fld 2) (.cons (.op .chkp (.cons (.inp 0) .nil)) .nil)) .nil) (.chk none (.build #[(.string ⟨#[]⟩), (.int .u64 0)] [(0, 1), (1, 1)] [0]) (.cons (.inp 1) .nil) (.eff (.bsl 58 1 2 #[(.string ⟨#[]⟩), (.int .u64 0)] [0]) (.cons (.op (.build #[(.string ⟨#[]⟩), (.int .u64 0)] [(0, 1), (1, 1)] [0]) (.cons (.inp 1) .nil)) .nil) (.eff (.app 22 22 58 2 24 (.agg #[(.string ⟨#[]⟩), (.int .u64 0)])) (.cons (.bv 0) (.cons (.bv 1) .nil)) (.chk none .chkp (.cons (.inp 0) .nil) (.chk none (.fld 2) (.cons (.op .chkp (.cons (.inp 0) .nil)) .nil) (.eff (.st 1) (.cons (.op (.fld 2) (.cons (.op .chkp (.cons (.inp 0) .nil)) .nil)) (.cons (.bv 2) .nil)) (.done [] none))))))))))) h31_1)
@[simp] theorem h31_2_wp {P : Program} {F : PF P} {Q : EX → List Value → World → Prop} {env : List Value} {w : World} : h31_2.wp F Q env w = HC.wp F (.seq (.reg (.chk none .chkp (.cons (.inp 0) .nil) (.chk none (.fld 2) (.cons (.op .chkp (.cons (.inp 0) .nil)) .nil) (.eff (.ld false 1) (.cons (.op (.fld 2) (.cons (.op .chkp (.cons (.inp 0) .nil)) .nil)) .nil) (.chk none (.build #[(.string ⟨#[]⟩), (.int .u64 0)] [(0, 1), (1, 1)] [0]) (.cons (.inp 1) .nil) (.eff (.bsl 58 1 2 #[(.string ⟨#[]⟩), (.int .u64 0)] [0]) (.cons (.op (.build #[(.string ⟨#[]⟩), (.int .u64 0)] [(0, 1), (1, 1)] [0]) (.cons (.inp 1) .nil)) .nil) (.eff (.app 22 22 58 2 24 (.agg #[(.string ⟨#[]⟩), (.int .u64 0)])) (.cons (.bv 0) (.cons (.bv 1) .nil)) (.chk none .chkp (.cons (.inp 0) .nil) (.chk none (.fld 2) (.cons (.op .chkp (.cons (.inp 0) .nil)) .nil) (.eff (.st 1) (.cons (.op (.fld 2) (.cons (.op .chkp (.cons (.inp 0) .nil)) .nil)) (.cons (.bv 2) .nil)) (.done [] none))))))))))) h31_1) Q env w := rfl
def h31_3 : HC := (.seq (.reg (.done [(2, (.cst (.int .i64 0))), (3, (.cst (.int .i64 141)))] none)) .ret)
@[simp] theorem h31_3_wp {P : Program} {F : PF P} {Q : EX → List Value → World → Prop} {env : List Value} {w : World} : h31_3.wp F Q env w = HC.wp F (.seq (.reg (.done [(2, (.cst (.int .i64 0))), (3, (.cst (.int .i64 141)))] none)) .ret) Q env w := rfl
def h31_4 : HC := (.seq (.br (.chk none .chkp (.cons (.inp 0) .nil) (.chk none (.fld 1) (.cons (.op .chkp (.cons (.inp 0) .nil)) .nil) (.eff (.ld false 1) (.cons (.op (.fld 1) (.cons (.op .chkp (.cons (.inp 0) .nil)) .nil)) .nil) (.chk none (.bin .eql) (.cons (.inp 6) (.cons (.bv 0) .nil)) (.done [] (some (.op (.bin .eql) (.cons (.inp 6) (.cons (.bv 0) .nil))))))))) h31_3 .skip) h31_2)
@[simp] theorem h31_4_wp {P : Program} {F : PF P} {Q : EX → List Value → World → Prop} {env : List Value} {w : World} : h31_4.wp F Q env w = HC.wp F (.seq (.br (.chk none .chkp (.cons (.inp 0) .nil) (.chk none (.fld 1) (.cons (.op .chkp (.cons (.inp 0) .nil)) .nil) (.eff (.ld false 1) (.cons (.op (.fld 1) (.cons (.op .chkp (.cons (.inp 0) .nil)) .nil)) .nil) (.chk none (.bin .eql) (.cons (.inp 6) (.cons (.bv 0) .nil)) (.done [] (some (.op (.bin .eql) (.cons (.inp 6) (.cons (.bv 0) .nil))))))))) h31_3 .skip) h31_2) Q env w := rfl
def h31_5 : HC := (.seq (.reg (.chk none .chkp (.cons (.inp 0) .nil) (.chk none (.fld 2) (.cons (.op .chkp (.cons (.inp 0) .nil)) .nil) (.eff (.ld false 1) (.cons (.op (.fld 2) (.cons (.op .chkp (.cons (.inp 0) .nil)) .nil)) .nil) (.chk none .lenL (.cons (.bv 0) .nil) (.done [(6, (.op .lenL (.cons (.bv 0) .nil)))] none)))))) h31_4)
@[simp] theorem h31_5_wp {P : Program} {F : PF P} {Q : EX → List Value → World → Prop} {env : List Value} {w : World} : h31_5.wp F Q env w = HC.wp F (.seq (.reg (.chk none .chkp (.cons (.inp 0) .nil) (.chk none (.fld 2) (.cons (.op .chkp (.cons (.inp 0) .nil)) .nil) (.eff (.ld false 1) (.cons (.op (.fld 2) (.cons (.op .chkp (.cons (.inp 0) .nil)) .nil)) .nil) (.chk none .lenL (.cons (.bv 0) .nil) (.done [(6, (.op .lenL (.cons (.bv 0) .nil)))] none)))))) h31_4) Q env w := rfl
def h31_6 : HC := (.seq (.reg (.done [(2, (.cst (.int .i64 0))), (3, (.cst (.int .i64 140)))] none)) .ret)
@[simp] theorem h31_6_wp {P : Program} {F : PF P} {Q : EX → List Value → World → Prop} {env : List Value} {w : World} : h31_6.wp F Q env w = HC.wp F (.seq (.reg (.done [(2, (.cst (.int .i64 0))), (3, (.cst (.int .i64 140)))] none)) .ret) Q env w := rfl
def h31_7 : HC := (.seq (.br (.done [] (some (.inp 5))) h31_6 .skip) h31_5)
@[simp] theorem h31_7_wp {P : Program} {F : PF P} {Q : EX → List Value → World → Prop} {env : List Value} {w : World} : h31_7.wp F Q env w = HC.wp F (.seq (.br (.done [] (some (.inp 5))) h31_6 .skip) h31_5) Q env w := rfl
def h31_8 : HC := (.seq (.reg (.chk none .chkp (.cons (.inp 0) .nil) (.chk none (.fld 0) (.cons (.op .chkp (.cons (.inp 0) .nil)) .nil) (.eff (.call 76) (.cons (.op (.fld 0) (.cons (.op .chkp (.cons (.inp 0) .nil)) .nil)) (.cons (.inp 1) .nil)) (.chk none (.ext 0) (.cons (.bv 0) .nil) (.chk none (.ext 1) (.cons (.bv 0) .nil) (.done [(5, (.op (.ext 1) (.cons (.bv 0) .nil)))] none))))))) h31_7)
@[simp] theorem h31_8_wp {P : Program} {F : PF P} {Q : EX → List Value → World → Prop} {env : List Value} {w : World} : h31_8.wp F Q env w = HC.wp F (.seq (.reg (.chk none .chkp (.cons (.inp 0) .nil) (.chk none (.fld 0) (.cons (.op .chkp (.cons (.inp 0) .nil)) .nil) (.eff (.call 76) (.cons (.op (.fld 0) (.cons (.op .chkp (.cons (.inp 0) .nil)) .nil)) (.cons (.inp 1) .nil)) (.chk none (.ext 0) (.cons (.bv 0) .nil) (.chk none (.ext 1) (.cons (.bv 0) .nil) (.done [(5, (.op (.ext 1) (.cons (.bv 0) .nil)))] none))))))) h31_7) Q env w := rfl
def h31_9 : HC := (.seq (.reg (.done [(2, (.cst (.int .i64 0))), (3, (.inp 4))] none)) .ret)
@[simp] theorem h31_9_wp {P : Program} {F : PF P} {Q : EX → List Value → World → Prop} {env : List Value} {w : World} : h31_9.wp F Q env w = HC.wp F (.seq (.reg (.done [(2, (.cst (.int .i64 0))), (3, (.inp 4))] none)) .ret) Q env w := rfl
def h31_10 : HC := (.seq (.br (.chk none (.bin .neq) (.cons (.inp 4) (.cons (.cst (.int .i64 0)) .nil)) (.done [] (some (.op (.bin .neq) (.cons (.inp 4) (.cons (.cst (.int .i64 0)) .nil)))))) h31_9 .skip) h31_8)
@[simp] theorem h31_10_wp {P : Program} {F : PF P} {Q : EX → List Value → World → Prop} {env : List Value} {w : World} : h31_10.wp F Q env w = HC.wp F (.seq (.br (.chk none (.bin .neq) (.cons (.inp 4) (.cons (.cst (.int .i64 0)) .nil)) (.done [] (some (.op (.bin .neq) (.cons (.inp 4) (.cons (.cst (.int .i64 0)) .nil)))))) h31_9 .skip) h31_8) Q env w := rfl
def h31_11 : HC := (.seq (.reg (.eff (.call 75) (.cons (.inp 1) .nil) (.chk none (.ext 0) (.cons (.bv 0) .nil) (.chk none (.ext 1) (.cons (.bv 0) .nil) (.done [(4, (.op (.ext 1) (.cons (.bv 0) .nil)))] none))))) h31_10)
@[simp] theorem h31_11_wp {P : Program} {F : PF P} {Q : EX → List Value → World → Prop} {env : List Value} {w : World} : h31_11.wp F Q env w = HC.wp F (.seq (.reg (.eff (.call 75) (.cons (.inp 1) .nil) (.chk none (.ext 0) (.cons (.bv 0) .nil) (.chk none (.ext 1) (.cons (.bv 0) .nil) (.done [(4, (.op (.ext 1) (.cons (.bv 0) .nil)))] none))))) h31_10) Q env w := rfl
def h31_12 : HC := (.seq (.reg (.done [(2, (.cst (.int .i64 0))), (3, (.cst (.int .i64 1)))] none)) .ret)
@[simp] theorem h31_12_wp {P : Program} {F : PF P} {Q : EX → List Value → World → Prop} {env : List Value} {w : World} : h31_12.wp F Q env w = HC.wp F (.seq (.reg (.done [(2, (.cst (.int .i64 0))), (3, (.cst (.int .i64 1)))] none)) .ret) Q env w := rfl
def h31_13 : HC := (.seq (.br (.chk none (.eqNil false (.pointer 81) (.pointer none)) (.cons (.inp 0) .nil) (.done [] (some (.op (.eqNil false (.pointer 81) (.pointer none)) (.cons (.inp 0) .nil))))) h31_12 .skip) h31_11)
@[simp] theorem h31_13_wp {P : Program} {F : PF P} {Q : EX → List Value → World → Prop} {env : List Value} {w : World} : h31_13.wp F Q env w = HC.wp F (.seq (.br (.chk none (.eqNil false (.pointer 81) (.pointer none)) (.cons (.inp 0) .nil) (.done [] (some (.op (.eqNil false (.pointer 81) (.pointer none)) (.cons (.inp 0) .nil))))) h31_12 .skip) h31_11) Q env w := rfl
def l31 : Lifted := ⟨[0, 1, 4, 5, 7, 9, 10], 59, [.slot 2, .slot 3], (.seq (.reg (.done [(2, (.cst (.int .i64 0))), (3, (.cst (.int .i64 0)))] none)) h31_13)⟩
theorem l31_ok : liftFn U0 31 400 = some l31 := by kernel_rfl

-- (*bazaar/purse.Purse).Mint
def h59_0 : HC := (.seq (.reg (.done [(3, (.cst (.int .i64 0)))] none)) .ret)
@[simp] theorem h59_0_wp {P : Program} {F : PF P} {Q : EX → List Value → World → Prop} {env : List Value} {w : World} : h59_0.wp F Q env w = HC.wp F (.seq (.reg (.done [(3, (.cst (.int .i64 0)))] none)) .ret) Q env w := rfl
def h59_1 : HC := (.seq (.reg (.chk none .chkp (.cons (.inp 0) .nil) (.chk none (.fld 2) (.cons (.op .chkp (.cons (.inp 0) .nil)) .nil) (.eff (.ld false 1) (.cons (.op (.fld 2) (.cons (.op .chkp (.cons (.inp 0) .nil)) .nil)) .nil) (.chk none (.idxL 2) (.cons (.bv 0) (.cons (.inp 1) .nil)) (.chk none (.fld 1) (.cons (.op (.idxL 2) (.cons (.bv 0) (.cons (.inp 1) .nil))) .nil) (.eff (.ld false 1) (.cons (.op (.fld 1) (.cons (.op (.idxL 2) (.cons (.bv 0) (.cons (.inp 1) .nil))) .nil)) .nil) (.chk none (.bin .add) (.cons (.bv 1) (.cons (.inp 2) .nil)) (.chk none (.idxL 2) (.cons (.bv 0) (.cons (.inp 1) .nil)) (.chk none (.fld 1) (.cons (.op (.idxL 2) (.cons (.bv 0) (.cons (.inp 1) .nil))) .nil) (.eff (.st 1) (.cons (.op (.fld 1) (.cons (.op (.idxL 2) (.cons (.bv 0) (.cons (.inp 1) .nil))) .nil)) (.cons (.op (.bin .add) (.cons (.bv 1) (.cons (.inp 2) .nil))) .nil)) (.done [] none)))))))))))) h59_0)
@[simp] theorem h59_1_wp {P : Program} {F : PF P} {Q : EX → List Value → World → Prop} {env : List Value} {w : World} : h59_1.wp F Q env w = HC.wp F (.seq (.reg (.chk none .chkp (.cons (.inp 0) .nil) (.chk none (.fld 2) (.cons (.op .chkp (.cons (.inp 0) .nil)) .nil) (.eff (.ld false 1) (.cons (.op (.fld 2) (.cons (.op .chkp (.cons (.inp 0) .nil)) .nil)) .nil) (.chk none (.idxL 2) (.cons (.bv 0) (.cons (.inp 1) .nil)) (.chk none (.fld 1) (.cons (.op (.idxL 2) (.cons (.bv 0) (.cons (.inp 1) .nil))) .nil) (.eff (.ld false 1) (.cons (.op (.fld 1) (.cons (.op (.idxL 2) (.cons (.bv 0) (.cons (.inp 1) .nil))) .nil)) .nil) (.chk none (.bin .add) (.cons (.bv 1) (.cons (.inp 2) .nil)) (.chk none (.idxL 2) (.cons (.bv 0) (.cons (.inp 1) .nil)) (.chk none (.fld 1) (.cons (.op (.idxL 2) (.cons (.bv 0) (.cons (.inp 1) .nil))) .nil) (.eff (.st 1) (.cons (.op (.fld 1) (.cons (.op (.idxL 2) (.cons (.bv 0) (.cons (.inp 1) .nil))) .nil)) (.cons (.op (.bin .add) (.cons (.bv 1) (.cons (.inp 2) .nil))) .nil)) (.done [] none)))))))))))) h59_0) Q env w := rfl
def h59_2 : HC := (.seq (.reg (.chk none .chkp (.cons (.inp 0) .nil) (.chk none (.fld 3) (.cons (.op .chkp (.cons (.inp 0) .nil)) .nil) (.eff (.ld false 1) (.cons (.op (.fld 3) (.cons (.op .chkp (.cons (.inp 0) .nil)) .nil)) .nil) (.chk none (.bin .add) (.cons (.bv 0) (.cons (.inp 2) .nil)) (.chk none .chkp (.cons (.inp 0) .nil) (.chk none (.fld 3) (.cons (.op .chkp (.cons (.inp 0) .nil)) .nil) (.eff (.st 1) (.cons (.op (.fld 3) (.cons (.op .chkp (.cons (.inp 0) .nil)) .nil)) (.cons (.op (.bin .add) (.cons (.bv 0) (.cons (.inp 2) .nil))) .nil)) (.done [] none))))))))) h59_1)
@[simp] theorem h59_2_wp {P : Program} {F : PF P} {Q : EX → List Value → World → Prop} {env : List Value} {w : World} : h59_2.wp F Q env w = HC.wp F (.seq (.reg (.chk none .chkp (.cons (.inp 0) .nil) (.chk none (.fld 3) (.cons (.op .chkp (.cons (.inp 0) .nil)) .nil) (.eff (.ld false 1) (.cons (.op (.fld 3) (.cons (.op .chkp (.cons (.inp 0) .nil)) .nil)) .nil) (.chk none (.bin .add) (.cons (.bv 0) (.cons (.inp 2) .nil)) (.chk none .chkp (.cons (.inp 0) .nil) (.chk none (.fld 3) (.cons (.op .chkp (.cons (.inp 0) .nil)) .nil) (.eff (.st 1) (.cons (.op (.fld 3) (.cons (.op .chkp (.cons (.inp 0) .nil)) .nil)) (.cons (.op (.bin .add) (.cons (.bv 0) (.cons (.inp 2) .nil))) .nil)) (.done [] none))))))))) h59_1) Q env w := rfl
def h59_3 : HC := (.seq (.reg (.done [(3, (.cst (.int .i64 144)))] none)) .ret)
@[simp] theorem h59_3_wp {P : Program} {F : PF P} {Q : EX → List Value → World → Prop} {env : List Value} {w : World} : h59_3.wp F Q env w = HC.wp F (.seq (.reg (.done [(3, (.cst (.int .i64 144)))] none)) .ret) Q env w := rfl
def h59_4 : HC := (.seq (.br (.chk none .chkp (.cons (.inp 0) .nil) (.chk none (.fld 3) (.cons (.op .chkp (.cons (.inp 0) .nil)) .nil) (.eff (.ld false 1) (.cons (.op (.fld 3) (.cons (.op .chkp (.cons (.inp 0) .nil)) .nil)) .nil) (.chk none (.bin .sub) (.cons (.cst (.int .u64 4611686018427387904)) (.cons (.bv 0) .nil)) (.chk none (.bin .gtr) (.cons (.inp 2) (.cons (.op (.bin .sub) (.cons (.cst (.int .u64 4611686018427387904)) (.cons (.bv 0) .nil))) .nil)) (.done [] (some (.op (.bin .gtr) (.cons (.inp 2) (.cons (.op (.bin .sub) (.cons (.cst (.int .u64 4611686018427387904)) (.cons (.bv 0) .nil))) .nil)))))))))) h59_3 .skip) h59_2)
@[simp] theorem h59_4_wp {P : Program} {F : PF P} {Q : EX → List Value → World → Prop} {env : List Value} {w : World} : h59_4.wp F Q env w = HC.wp F (.seq (.br (.chk none .chkp (.cons (.inp 0) .nil) (.chk none (.fld 3) (.cons (.op .chkp (.cons (.inp 0) .nil)) .nil) (.eff (.ld false 1) (.cons (.op (.fld 3) (.cons (.op .chkp (.cons (.inp 0) .nil)) .nil)) .nil) (.chk none (.bin .sub) (.cons (.cst (.int .u64 4611686018427387904)) (.cons (.bv 0) .nil)) (.chk none (.bin .gtr) (.cons (.inp 2) (.cons (.op (.bin .sub) (.cons (.cst (.int .u64 4611686018427387904)) (.cons (.bv 0) .nil))) .nil)) (.done [] (some (.op (.bin .gtr) (.cons (.inp 2) (.cons (.op (.bin .sub) (.cons (.cst (.int .u64 4611686018427387904)) (.cons (.bv 0) .nil))) .nil)))))))))) h59_3 .skip) h59_2) Q env w := rfl
def h59_5 : HC := (.seq (.reg (.done [(3, (.cst (.int .i64 2)))] none)) .ret)
@[simp] theorem h59_5_wp {P : Program} {F : PF P} {Q : EX → List Value → World → Prop} {env : List Value} {w : World} : h59_5.wp F Q env w = HC.wp F (.seq (.reg (.done [(3, (.cst (.int .i64 2)))] none)) .ret) Q env w := rfl
def h59_6 : HC := (.seq (.br (.chk none (.bin .eql) (.cons (.inp 2) (.cons (.cst (.int .u64 0)) .nil)) (.done [] (some (.op (.bin .eql) (.cons (.inp 2) (.cons (.cst (.int .u64 0)) .nil)))))) h59_5 .skip) h59_4)
@[simp] theorem h59_6_wp {P : Program} {F : PF P} {Q : EX → List Value → World → Prop} {env : List Value} {w : World} : h59_6.wp F Q env w = HC.wp F (.seq (.br (.chk none (.bin .eql) (.cons (.inp 2) (.cons (.cst (.int .u64 0)) .nil)) (.done [] (some (.op (.bin .eql) (.cons (.inp 2) (.cons (.cst (.int .u64 0)) .nil)))))) h59_5 .skip) h59_4) Q env w := rfl
def h59_7 : HC := (.seq (.reg (.done [(3, (.inp 4))] none)) .ret)
@[simp] theorem h59_7_wp {P : Program} {F : PF P} {Q : EX → List Value → World → Prop} {env : List Value} {w : World} : h59_7.wp F Q env w = HC.wp F (.seq (.reg (.done [(3, (.inp 4))] none)) .ret) Q env w := rfl
def h59_8 : HC := (.seq (.br (.chk none (.bin .neq) (.cons (.inp 4) (.cons (.cst (.int .i64 0)) .nil)) (.done [] (some (.op (.bin .neq) (.cons (.inp 4) (.cons (.cst (.int .i64 0)) .nil)))))) h59_7 .skip) h59_6)
@[simp] theorem h59_8_wp {P : Program} {F : PF P} {Q : EX → List Value → World → Prop} {env : List Value} {w : World} : h59_8.wp F Q env w = HC.wp F (.seq (.br (.chk none (.bin .neq) (.cons (.inp 4) (.cons (.cst (.int .i64 0)) .nil)) (.done [] (some (.op (.bin .neq) (.cons (.inp 4) (.cons (.cst (.int .i64 0)) .nil)))))) h59_7 .skip) h59_6) Q env w := rfl
def h59_9 : HC := (.seq (.reg (.eff (.call 98) (.cons (.inp 0) (.cons (.inp 1) .nil)) (.done [(4, (.bv 0))] none))) h59_8)
@[simp] theorem h59_9_wp {P : Program} {F : PF P} {Q : EX → List Value → World → Prop} {env : List Value} {w : World} : h59_9.wp F Q env w = HC.wp F (.seq (.reg (.eff (.call 98) (.cons (.inp 0) (.cons (.inp 1) .nil)) (.done [(4, (.bv 0))] none))) h59_8) Q env w := rfl
def l59 : Lifted := ⟨[0, 1, 2, 6, 7], 43, [.slot 3], (.seq (.reg (.done [(3, (.cst (.int .i64 0)))] none)) h59_9)⟩
theorem l59_ok : liftFn U0 59 400 = some l59 := by kernel_rfl

-- (*bazaar/purse.Purse).Take
def h114_0 : HC := (.seq (.reg (.done [(3, (.cst (.int .i64 0)))] none)) .ret)
@[simp] theorem h114_0_wp {P : Program} {F : PF P} {Q : EX → List Value → World → Prop} {env : List Value} {w : World} : h114_0.wp F Q env w = HC.wp F (.seq (.reg (.done [(3, (.cst (.int .i64 0)))] none)) .ret) Q env w := rfl
def h114_1 : HC := (.seq (.reg (.chk none .chkp (.cons (.inp 0) .nil) (.chk none (.fld 4) (.cons (.op .chkp (.cons (.inp 0) .nil)) .nil) (.eff (.ld false 1) (.cons (.op (.fld 4) (.cons (.op .chkp (.cons (.inp 0) .nil)) .nil)) .nil) (.chk none (.bin .add) (.cons (.bv 0) (.cons (.inp 2) .nil)) (.chk none .chkp (.cons (.inp 0) .nil) (.chk none (.fld 4) (.cons (.op .chkp (.cons (.inp 0) .nil)) .nil) (.eff (.st 1) (.cons (.op (.fld 4) (.cons (.op .chkp (.cons (.inp 0) .nil)) .nil)) (.cons (.op (.bin .add) (.cons (.bv 0) (.cons (.inp 2) .nil))) .nil)) (.done [] none))))))))) h114_0)
@[simp] theorem h114_1_wp {P : Program} {F : PF P} {Q : EX → List Value → World → Prop} {env : List Value} {w : World} : h114_1.wp F Q env w = HC.wp F (.seq (.reg (.chk none .chkp (.cons (.inp 0) .nil) (.chk none (.fld 4) (.cons (.op .chkp (.cons (.inp 0) .nil)) .nil) (.eff (.ld false 1) (.cons (.op (.fld 4) (.cons (.op .chkp (.cons (.inp 0) .nil)) .nil)) .nil) (.chk none (.bin .add) (.cons (.bv 0) (.cons (.inp 2) .nil)) (.chk none .chkp (.cons (.inp 0) .nil) (.chk none (.fld 4) (.cons (.op .chkp (.cons (.inp 0) .nil)) .nil) (.eff (.st 1) (.cons (.op (.fld 4) (.cons (.op .chkp (.cons (.inp 0) .nil)) .nil)) (.cons (.op (.bin .add) (.cons (.bv 0) (.cons (.inp 2) .nil))) .nil)) (.done [] none))))))))) h114_0) Q env w := rfl
def h114_2 : HC := (.seq (.reg (.chk none .chkp (.cons (.inp 0) .nil) (.chk none (.fld 2) (.cons (.op .chkp (.cons (.inp 0) .nil)) .nil) (.eff (.ld false 1) (.cons (.op (.fld 2) (.cons (.op .chkp (.cons (.inp 0) .nil)) .nil)) .nil) (.chk none (.idxL 2) (.cons (.bv 0) (.cons (.inp 1) .nil)) (.chk none (.fld 1) (.cons (.op (.idxL 2) (.cons (.bv 0) (.cons (.inp 1) .nil))) .nil) (.eff (.st 1) (.cons (.op (.fld 1) (.cons (.op (.idxL 2) (.cons (.bv 0) (.cons (.inp 1) .nil))) .nil)) (.cons (.inp 5) .nil)) (.done [] none)))))))) h114_1)
@[simp] theorem h114_2_wp {P : Program} {F : PF P} {Q : EX → List Value → World → Prop} {env : List Value} {w : World} : h114_2.wp F Q env w = HC.wp F (.seq (.reg (.chk none .chkp (.cons (.inp 0) .nil) (.chk none (.fld 2) (.cons (.op .chkp (.cons (.inp 0) .nil)) .nil) (.eff (.ld false 1) (.cons (.op (.fld 2) (.cons (.op .chkp (.cons (.inp 0) .nil)) .nil)) .nil) (.chk none (.idxL 2) (.cons (.bv 0) (.cons (.inp 1) .nil)) (.chk none (.fld 1) (.cons (.op (.idxL 2) (.cons (.bv 0) (.cons (.inp 1) .nil))) .nil) (.eff (.st 1) (.cons (.op (.fld 1) (.cons (.op (.idxL 2) (.cons (.bv 0) (.cons (.inp 1) .nil))) .nil)) (.cons (.inp 5) .nil)) (.done [] none)))))))) h114_1) Q env w := rfl
def h114_3 : HC := (.seq (.reg (.done [(3, (.cst (.int .i64 143)))] none)) .ret)
@[simp] theorem h114_3_wp {P : Program} {F : PF P} {Q : EX → List Value → World → Prop} {env : List Value} {w : World} : h114_3.wp F Q env w = HC.wp F (.seq (.reg (.done [(3, (.cst (.int .i64 143)))] none)) .ret) Q env w := rfl
def h114_4 : HC := (.seq (.br (.chk none (.bin .neq) (.cons (.inp 6) (.cons (.cst (.int .i64 0)) .nil)) (.done [] (some (.op (.bin .neq) (.cons (.inp 6) (.cons (.cst (.int .i64 0)) .nil)))))) h114_3 .skip) h114_2)
@[simp] theorem h114_4_wp {P : Program} {F : PF P} {Q : EX → List Value → World → Prop} {env : List Value} {w : World} : h114_4.wp F Q env w = HC.wp F (.seq (.br (.chk none (.bin .neq) (.cons (.inp 6) (.cons (.cst (.int .i64 0)) .nil)) (.done [] (some (.op (.bin .neq) (.cons (.inp 6) (.cons (.cst (.int .i64 0)) .nil)))))) h114_3 .skip) h114_2) Q env w := rfl
def h114_5 : HC := (.seq (.reg (.chk none .chkp (.cons (.inp 0) .nil) (.chk none (.fld 2) (.cons (.op .chkp (.cons (.inp 0) .nil)) .nil) (.eff (.ld false 1) (.cons (.op (.fld 2) (.cons (.op .chkp (.cons (.inp 0) .nil)) .nil)) .nil) (.chk none (.idxL 2) (.cons (.bv 0) (.cons (.inp 1) .nil)) (.chk none (.fld 1) (.cons (.op (.idxL 2) (.cons (.bv 0) (.cons (.inp 1) .nil))) .nil) (.eff (.ld false 1) (.cons (.op (.fld 1) (.cons (.op (.idxL 2) (.cons (.bv 0) (.cons (.inp 1) .nil))) .nil)) .nil) (.eff (.call 32) (.cons (.bv 1) (.cons (.inp 2) .nil)) (.chk none (.ext 0) (.cons (.bv 2) .nil) (.chk none (.ext 1) (.cons (.bv 2) .nil) (.done [(5, (.op (.ext 0) (.cons (.bv 2) .nil))), (6, (.op (.ext 1) (.cons (.bv 2) .nil)))] none))))))))))) h114_4)
@[simp] theorem h114_5_wp {P : Program} {F : PF P} {Q : EX → List Value → World → Prop} {env : List Value} {w : World} : h114_5.wp F Q env w = HC.wp F (.seq (.reg (.chk none .chkp (.cons (.inp 0) .nil) (.chk none (.fld 2) (.cons (.op .chkp (.cons (.inp 0) .nil)) .nil) (.eff (.ld false 1) (.cons (.op (.fld 2) (.cons (.op .chkp (.cons (.inp 0) .nil)) .nil)) .nil) (.chk none (.idxL 2) (.cons (.bv 0) (.cons (.inp 1) .nil)) (.chk none (.fld 1) (.cons (.op (.idxL 2) (.cons (.bv 0) (.cons (.inp 1) .nil))) .nil) (.eff (.ld false 1) (.cons (.op (.fld 1) (.cons (.op (.idxL 2) (.cons (.bv 0) (.cons (.inp 1) .nil))) .nil)) .nil) (.eff (.call 32) (.cons (.bv 1) (.cons (.inp 2) .nil)) (.chk none (.ext 0) (.cons (.bv 2) .nil) (.chk none (.ext 1) (.cons (.bv 2) .nil) (.done [(5, (.op (.ext 0) (.cons (.bv 2) .nil))), (6, (.op (.ext 1) (.cons (.bv 2) .nil)))] none))))))))))) h114_4) Q env w := rfl
def h114_6 : HC := (.seq (.reg (.done [(3, (.inp 4))] none)) .ret)
@[simp] theorem h114_6_wp {P : Program} {F : PF P} {Q : EX → List Value → World → Prop} {env : List Value} {w : World} : h114_6.wp F Q env w = HC.wp F (.seq (.reg (.done [(3, (.inp 4))] none)) .ret) Q env w := rfl
def h114_7 : HC := (.seq (.br (.chk none (.bin .neq) (.cons (.inp 4) (.cons (.cst (.int .i64 0)) .nil)) (.done [] (some (.op (.bin .neq) (.cons (.inp 4) (.cons (.cst (.int .i64 0)) .nil)))))) h114_6 .skip) h114_5)
@[simp] theorem h114_7_wp {P : Program} {F : PF P} {Q : EX → List Value → World → Prop} {env : List Value} {w : World} : h114_7.wp F Q env w = HC.wp F (.seq (.br (.chk none (.bin .neq) (.cons (.inp 4) (.cons (.cst (.int .i64 0)) .nil)) (.done [] (some (.op (.bin .neq) (.cons (.inp 4) (.cons (.cst (.int .i64 0)) .nil)))))) h114_6 .skip) h114_5) Q env w := rfl
def h114_8 : HC := (.seq (.reg (.eff (.call 98) (.cons (.inp 0) (.cons (.inp 1) .nil)) (.done [(4, (.bv 0))] none))) h114_7)
@[simp] theorem h114_8_wp {P : Program} {F : PF P} {Q : EX → List Value → World → Prop} {env : List Value} {w : World} : h114_8.wp F Q env w = HC.wp F (.seq (.reg (.eff (.call 98) (.cons (.inp 0) (.cons (.inp 1) .nil)) (.done [(4, (.bv 0))] none))) h114_7) Q env w := rfl
def l114 : Lifted := ⟨[0, 1, 2, 6, 7, 8, 9], 47, [.slot 3], (.seq (.reg (.done [(3, (.cst (.int .i64 0)))] none)) h114_8)⟩
theorem l114_ok : liftFn U0 114 400 = some l114 := by kernel_rfl

-- (*bazaar/purse.Purse).Put
def h146_0 : HC := (.seq (.reg (.done [(3, (.cst (.int .i64 0)))] none)) .ret)
@[simp] theorem h146_0_wp {P : Program} {F : PF P} {Q : EX → List Value → World → Prop} {env : List Value} {w : World} : h146_0.wp F Q env w = HC.wp F (.seq (.reg (.done [(3, (.cst (.int .i64 0)))] none)) .ret) Q env w := rfl
def h146_1 : HC := (.seq (.reg (.chk none .chkp (.cons (.inp 0) .nil) (.chk none (.fld 2) (.cons (.op .chkp (.cons (.inp 0) .nil)) .nil) (.eff (.ld false 1) (.cons (.op (.fld 2) (.cons (.op .chkp (.cons (.inp 0) .nil)) .nil)) .nil) (.chk none (.idxL 2) (.cons (.bv 0) (.cons (.inp 1) .nil)) (.chk none (.fld 1) (.cons (.op (.idxL 2) (.cons (.bv 0) (.cons (.inp 1) .nil))) .nil) (.eff (.ld false 1) (.cons (.op (.fld 1) (.cons (.op (.idxL 2) (.cons (.bv 0) (.cons (.inp 1) .nil))) .nil)) .nil) (.chk none (.bin .add) (.cons (.bv 1) (.cons (.inp 2) .nil)) (.chk none (.idxL 2) (.cons (.bv 0) (.cons (.inp 1) .nil)) (.chk none (.fld 1) (.cons (.op (.idxL 2) (.cons (.bv 0) (.cons (.inp 1) .nil))) .nil) (.eff (.st 1) (.cons (.op (.fld 1) (.cons (.op (.idxL 2) (.cons (.bv 0) (.cons (.inp 1) .nil))) .nil)) (.cons (.op (.bin .add) (.cons (.bv 1) (.cons (.inp 2) .nil))) .nil)) (.done [] none)))))))))))) h146_0)
@[simp] theorem h146_1_wp {P : Program} {F : PF P} {Q : EX → List Value → World → Prop} {env : List Value} {w : World} : h146_1.wp F Q env w = HC.wp F (.seq (.reg (.chk none .chkp (.cons (.inp 0) .nil) (.chk none (.fld 2) (.cons (.op .chkp (.cons (.inp 0) .nil)) .nil) (.eff (.ld false 1) (.cons (.op (.fld 2) (.cons (.op .chkp (.cons (.inp 0) .nil)) .nil)) .nil) (.chk none (.idxL 2) (.cons (.bv 0) (.cons (.inp 1) .nil)) (.chk none (.fld 1) (.cons (.op (.idxL 2) (.cons (.bv 0) (.cons (.inp 1) .nil))) .nil) (.eff (.ld false 1) (.cons (.op (.fld 1) (.cons (.op (.idxL 2) (.cons (.bv 0) (.cons (.inp 1) .nil))) .nil)) .nil) (.chk none (.bin .add) (.cons (.bv 1) (.cons (.inp 2) .nil)) (.chk none (.idxL 2) (.cons (.bv 0) (.cons (.inp 1) .nil)) (.chk none (.fld 1) (.cons (.op (.idxL 2) (.cons (.bv 0) (.cons (.inp 1) .nil))) .nil) (.eff (.st 1) (.cons (.op (.fld 1) (.cons (.op (.idxL 2) (.cons (.bv 0) (.cons (.inp 1) .nil))) .nil)) (.cons (.op (.bin .add) (.cons (.bv 1) (.cons (.inp 2) .nil))) .nil)) (.done [] none)))))))))))) h146_0) Q env w := rfl
def h146_2 : HC := (.seq (.reg (.chk none .chkp (.cons (.inp 0) .nil) (.chk none (.fld 4) (.cons (.op .chkp (.cons (.inp 0) .nil)) .nil) (.eff (.st 1) (.cons (.op (.fld 4) (.cons (.op .chkp (.cons (.inp 0) .nil)) .nil)) (.cons (.inp 5) .nil)) (.done [] none))))) h146_1)
@[simp] theorem h146_2_wp {P : Program} {F : PF P} {Q : EX → List Value → World → Prop} {env : List Value} {w : World} : h146_2.wp F Q env w = HC.wp F (.seq (.reg (.chk none .chkp (.cons (.inp 0) .nil) (.chk none (.fld 4) (.cons (.op .chkp (.cons (.inp 0) .nil)) .nil) (.eff (.st 1) (.cons (.op (.fld 4) (.cons (.op .chkp (.cons (.inp 0) .nil)) .nil)) (.cons (.inp 5) .nil)) (.done [] none))))) h146_1) Q env w := rfl
def h146_3 : HC := (.seq (.reg (.done [(3, (.cst (.int .i64 143)))] none)) .ret)
@[simp] theorem h146_3_wp {P : Program} {F : PF P} {Q : EX → List Value → World → Prop} {env : List Value} {w : World} : h146_3.wp F Q env w = HC.wp F (.seq (.reg (.done [(3, (.cst (.int .i64 143)))] none)) .ret) Q env w := rfl
def h146_4 : HC := (.seq (.br (.chk none (.bin .neq) (.cons (.inp 6) (.cons (.cst (.int .i64 0)) .nil)) (.done [] (some (.op (.bin .neq) (.cons (.inp 6) (.cons (.cst (.int .i64 0)) .nil)))))) h146_3 .skip) h146_2)
@[simp] theorem h146_4_wp {P : Program} {F : PF P} {Q : EX → List Value → World → Prop} {env : List Value} {w : World} : h146_4.wp F Q env w = HC.wp F (.seq (.br (.chk none (.bin .neq) (.cons (.inp 6) (.cons (.cst (.int .i64 0)) .nil)) (.done [] (some (.op (.bin .neq) (.cons (.inp 6) (.cons (.cst (.int .i64 0)) .nil)))))) h146_3 .skip) h146_2) Q env w := rfl
def h146_5 : HC := (.seq (.reg (.chk none .chkp (.cons (.inp 0) .nil) (.chk none (.fld 4) (.cons (.op .chkp (.cons (.inp 0) .nil)) .nil) (.eff (.ld false 1) (.cons (.op (.fld 4) (.cons (.op .chkp (.cons (.inp 0) .nil)) .nil)) .nil) (.eff (.call 32) (.cons (.bv 0) (.cons (.inp 2) .nil)) (.chk none (.ext 0) (.cons (.bv 1) .nil) (.chk none (.ext 1) (.cons (.bv 1) .nil) (.done [(5, (.op (.ext 0) (.cons (.bv 1) .nil))), (6, (.op (.ext 1) (.cons (.bv 1) .nil)))] none)))))))) h146_4)
@[simp] theorem h146_5_wp {P : Program} {F : PF P} {Q : EX → List Value → World → Prop} {env : List Value} {w : World} : h146_5.wp F Q env w = HC.wp F (.seq (.reg (.chk none .chkp (.cons (.inp 0) .nil) (.chk none (.fld 4) (.cons (.op .chkp (.cons (.inp 0) .nil)) .nil) (.eff (.ld false 1) (.cons (.op (.fld 4) (.cons (.op .chkp (.cons (.inp 0) .nil)) .nil)) .nil) (.eff (.call 32) (.cons (.bv 0) (.cons (.inp 2) .nil)) (.chk none (.ext 0) (.cons (.bv 1) .nil) (.chk none (.ext 1) (.cons (.bv 1) .nil) (.done [(5, (.op (.ext 0) (.cons (.bv 1) .nil))), (6, (.op (.ext 1) (.cons (.bv 1) .nil)))] none)))))))) h146_4) Q env w := rfl
def h146_6 : HC := (.seq (.reg (.done [(3, (.inp 4))] none)) .ret)
@[simp] theorem h146_6_wp {P : Program} {F : PF P} {Q : EX → List Value → World → Prop} {env : List Value} {w : World} : h146_6.wp F Q env w = HC.wp F (.seq (.reg (.done [(3, (.inp 4))] none)) .ret) Q env w := rfl
def h146_7 : HC := (.seq (.br (.chk none (.bin .neq) (.cons (.inp 4) (.cons (.cst (.int .i64 0)) .nil)) (.done [] (some (.op (.bin .neq) (.cons (.inp 4) (.cons (.cst (.int .i64 0)) .nil)))))) h146_6 .skip) h146_5)
@[simp] theorem h146_7_wp {P : Program} {F : PF P} {Q : EX → List Value → World → Prop} {env : List Value} {w : World} : h146_7.wp F Q env w = HC.wp F (.seq (.br (.chk none (.bin .neq) (.cons (.inp 4) (.cons (.cst (.int .i64 0)) .nil)) (.done [] (some (.op (.bin .neq) (.cons (.inp 4) (.cons (.cst (.int .i64 0)) .nil)))))) h146_6 .skip) h146_5) Q env w := rfl
def h146_8 : HC := (.seq (.reg (.eff (.call 98) (.cons (.inp 0) (.cons (.inp 1) .nil)) (.done [(4, (.bv 0))] none))) h146_7)
@[simp] theorem h146_8_wp {P : Program} {F : PF P} {Q : EX → List Value → World → Prop} {env : List Value} {w : World} : h146_8.wp F Q env w = HC.wp F (.seq (.reg (.eff (.call 98) (.cons (.inp 0) (.cons (.inp 1) .nil)) (.done [(4, (.bv 0))] none))) h146_7) Q env w := rfl
def l146 : Lifted := ⟨[0, 1, 2, 6, 7, 8, 9], 43, [.slot 3], (.seq (.reg (.done [(3, (.cst (.int .i64 0)))] none)) h146_8)⟩
theorem l146_ok : liftFn U0 146 400 = some l146 := by kernel_rfl

-- (*bazaar/purse.Purse).Get
def h74_0 : HC := (.seq (.reg (.chk none .chkp (.cons (.inp 0) .nil) (.chk none (.fld 2) (.cons (.op .chkp (.cons (.inp 0) .nil)) .nil) (.eff (.ld false 1) (.cons (.op (.fld 2) (.cons (.op .chkp (.cons (.inp 0) .nil)) .nil)) .nil) (.chk none (.idxL 2) (.cons (.bv 0) (.cons (.inp 1) .nil)) (.eff (.ld true 2) (.cons (.op (.idxL 2) (.cons (.bv 0) (.cons (.inp 1) .nil))) .nil) (.eff (.st 2) (.cons (.inp 2) (.cons (.bv 1) .nil)) (.done [(3, (.cst (.int .i64 0)))] none)))))))) .ret)
@[simp] theorem h74_0_wp {P : Program} {F : PF P} {Q : EX → List Value → World → Prop} {env : List Value} {w : World} : h74_0.wp F Q env w = HC.wp F (.seq (.reg (.chk none .chkp (.cons (.inp 0) .nil) (.chk none (.fld 2) (.cons (.op .chkp (.cons (.inp 0) .nil)) .nil) (.eff (.ld false 1) (.cons (.op (.fld 2) (.cons (.op .chkp (.cons (.inp 0) .nil)) .nil)) .nil) (.chk none (.idxL 2) (.cons (.bv 0) (.cons (.inp 1) .nil)) (.eff (.ld true 2) (.cons (.op (.idxL 2) (.cons (.bv 0) (.cons (.inp 1) .nil))) .nil) (.eff (.st 2) (.cons (.inp 2) (.cons (.bv 1) .nil)) (.done [(3, (.cst (.int .i64 0)))] none)))))))) .ret) Q env w := rfl
def h74_1 : HC := (.seq (.reg (.chk none (.build #[(.string ⟨#[]⟩), (.int .u64 0)] [(0, 1), (1, 1)] []) .nil (.eff (.st 2) (.cons (.inp 2) (.cons (.op (.build #[(.string ⟨#[]⟩), (.int .u64 0)] [(0, 1), (1, 1)] []) .nil) .nil)) (.done [(3, (.inp 4))] none)))) .ret)
@[simp] theorem h74_1_wp {P : Program} {F : PF P} {Q : EX → List Value → World → Prop} {env : List Value} {w : World} : h74_1.wp F Q env w = HC.wp F (.seq (.reg (.chk none (.build #[(.string ⟨#[]⟩), (.int .u64 0)] [(0, 1), (1, 1)] []) .nil (.eff (.st 2) (.cons (.inp 2) (.cons (.op (.build #[(.string ⟨#[]⟩), (.int .u64 0)] [(0, 1), (1, 1)] []) .nil) .nil)) (.done [(3, (.inp 4))] none)))) .ret) Q env w := rfl
def h74_2 : HC := (.seq (.br (.chk none (.bin .neq) (.cons (.inp 4) (.cons (.cst (.int .i64 0)) .nil)) (.done [] (some (.op (.bin .neq) (.cons (.inp 4) (.cons (.cst (.int .i64 0)) .nil)))))) h74_1 .skip) h74_0)
@[simp] theorem h74_2_wp {P : Program} {F : PF P} {Q : EX → List Value → World → Prop} {env : List Value} {w : World} : h74_2.wp F Q env w = HC.wp F (.seq (.br (.chk none (.bin .neq) (.cons (.inp 4) (.cons (.cst (.int .i64 0)) .nil)) (.done [] (some (.op (.bin .neq) (.cons (.inp 4) (.cons (.cst (.int .i64 0)) .nil)))))) h74_1 .skip) h74_0) Q env w := rfl
def h74_3 : HC := (.seq (.reg (.eff (.call 98) (.cons (.inp 0) (.cons (.inp 1) .nil)) (.done [(4, (.bv 0))] none))) h74_2)
@[simp] theorem h74_3_wp {P : Program} {F : PF P} {Q : EX → List Value → World → Prop} {env : List Value} {w : World} : h74_3.wp F Q env w = HC.wp F (.seq (.reg (.eff (.call 98) (.cons (.inp 0) (.cons (.inp 1) .nil)) (.done [(4, (.bv 0))] none))) h74_2) Q env w := rfl
def l74 : Lifted := ⟨[0, 1, 4, 5, 6], 21, [.cell 2 true 2, .slot 3], (.seq (.reg (.eff (.new 58 (.agg #[(.string ⟨#[]⟩), (.int .u64 0)])) .nil (.done [(2, (.bv 0)), (3, (.cst (.int .i64 0)))] none))) h74_3)⟩
theorem l74_ok : liftFn U0 74 400 = some l74 := by kernel_rfl


theorem account_spec (p : Nat) (P : Ps) (n : Int) (w0 w : World) (A : Asn) (s : St w0 (A * pur p P) w) :
    CallW Tryz.prog 98 [.pointer (some ⟨p, 0, none⟩), .int .i64 n] (fun r w' => r = .int .i64 (accE P.rows n) ∧ St w0 (A * pur p P) w') w := by
  refine callW_of_lift l98_ok (by simp [l98]) ?_
  simp [l98]
  obtain ⟨m, v, s1⟩ := popen s
  obtain ⟨a, cap, rfl, _⟩ := s1.own_val
  by_cases h : n < 0
  · simp [h]
    rw [accE, if_neg (by omega)]
    exact ⟨rfl, s⟩
  · simp [h]
    refine eff_ldc (v := .slice a P.rows.length cap) (by rw [cell_of s1.drop.drop.look]; rfl) ?_
    simp
    refine cndI (fun h2 => ?_) (fun h2 => ?_)
    · simp at h2
      simp
      rw [accE, if_neg (by omega)]
      exact ⟨rfl, s⟩
    · simp at h2
      simp
      rw [accE, if_pos (by omega)]
      exact ⟨rfl, s⟩
theorem known_p (p : Nat) (P : Ps) (m : Nat) (v : Value) (x : List UInt8) (w0 w : World) (A : Asn) (hx : x.length ≤ 1048576) (s : St w0 (A * pt4 p P m v * mpt m P.rows) w) :
    CallW Tryz.prog 76 [.pointer (some ⟨p, 0, none⟩), .string (mk x)] (fun r w' => r = .tuple #[.int .i64 (askN (keyF x) (keys P.rows)), .bool (askB (keyF x) (keys P.rows))] ∧ St w0 (A * pt4 p P m v * mpt m P.rows) w') w :=
  known_spec p _ _ m (keys P.rows) _ x w0 w A rfl hx s
theorem enter_p (p : Nat) (P : Ps) (m : Nat) (v : Value) (x : List UInt8) (l : List Ac) (w0 w : World) (A : Asn) (hx : x.length ≤ 1048576) (hn : askB (keyF x) (keys l) = false) (s : St w0 (A * pt4 p P m v * mpt m l) w) :
    CallW Tryz.prog 77 [.pointer (some ⟨p, 0, none⟩), .string (mk x), .int .i64 (l.length : Int)] (fun r w' => St w0 (A * pt4 p P m v * mpt m (l ++ [⟨x, 0⟩])) w') w := by
  have e1 : ((keys l).length : Int) = l.length := by simp [keys]
  have e2 : keys (l ++ [⟨x, 0⟩]) = keys l ++ [keyF x] := by simp [keys]
  rw [← e1]
  show CallW _ _ _ (fun r w' => St w0 (A * pt4 p P m v * pt m (.map (mapE (keys (l ++ [⟨x, 0⟩]))) (keys (l ++ [⟨x, 0⟩])).length)) w') _
  rw [e2]
  exact enter_spec p _ _ m (keys l) x w0 w A rfl hx (by simpa [askB] using hn) s
def openF (P : Ps) (x : List UInt8) : Int × Int × Ps :=
  if (checkF x).2 = 0 then
    if askB (keyF x) (keys P.rows) = true then (0, 140, P)
    else if (P.rows.length : Int) = P.lim then (0, 141, P)
    else ((P.rows.length : Int), 0, { P with rows := P.rows ++ [⟨x, 0⟩] })
  else (0, (checkF x).2, P)
theorem Open_spec (p : Nat) (P : Ps) (x : List UInt8) (w0 w : World) (A : Asn) (hx : x.length ≤ 1048576) (hl : P.rows.length ≤ 1048576) (s : St w0 (A * pur p P) w) :
    CallW Tryz.prog 31 [.pointer (some ⟨p, 0, none⟩), .string (mk x)] (fun r w' => r = .tuple #[.int .i64 (openF P x).1, .int .i64 (openF P x).2.1] ∧ St w0 (A * pur p (openF P x).2.2) w') w := by
  refine callW_of_lift l31_ok (by simp [l31]) ?_
  simp [l31]
  refine eff_call ((check_spec x w0 w _ hx s).mono ?_)
  rintro r w1 ⟨rfl, s⟩
  simp
  refine cndI (fun h => ?_) (fun h => ?_)
  · simp at h
    simp [openF, h]
    exact s
  simp at h
  simp
  obtain ⟨m, v, s1⟩ := popen s
  refine eff_call ((known_p p P m v x w0 w1 (A * own 58 2 v P.rows.length (flat P.rows)) hx (s1.to (by ac_rfl))).mono ?_)
  rintro r w2 ⟨rfl, s2⟩
  simp
  have s3 := s2.to (B := A * pt4 p P m v * mpt m P.rows * own 58 2 v P.rows.length (flat P.rows)) (by ac_rfl)
  clear s s1 s2
  refine cndI (fun h2 => ?_) (fun h2 => ?_)
  · simp [openF, h, h2]
    exact pclose s3
  simp
  obtain ⟨a, cap, rfl, _⟩ := s3.own_val
  refine eff_ldc (v := .slice a P.rows.length cap) (by rw [cell_of s3.drop.drop.look]; rfl) ?_
  simp
  refine eff_ldc (v := .int .i64 P.lim) (by rw [cell_of s3.drop.drop.look]; rfl) ?_
  simp
  refine cndI (fun h3 => ?_) (fun h3 => ?_)
  · simp at h3
    simp [openF, h, h2, h3]
    exact pclose s3
  simp at h3
  simp
  refine eff_ldc (v := .slice a P.rows.length cap) (by rw [cell_of s3.drop.drop.look]; rfl) ?_
  simp [Instr.fill, Value.cells]
  refine eff_bslV s3 rfl ?_
  intro c w3 s4
  simp
  refine eff_app (m := 1) (news := Ac.cs ⟨x, 0⟩) (s4.to (B := A * pt4 p P m (.slice a P.rows.length cap) * mpt m P.rows * pt c (.cells (Ac.cs ⟨x, 0⟩).toArray 58 (0, 0)) * own 58 2 (.slice a P.rows.length cap) P.rows.length (flat P.rows)) (by ac_rfl)) rfl s4.cells_look (cs_one _) (by decide) rfl (by unfold maxLen; omega) (by omega) ?_
  intro v2 w4 s5
  simp
  have hv2 := s5.own_val
  obtain ⟨a2, cap2, rfl, _⟩ := hv2
  refine eff_st1 (s5.to (B := A * mpt m P.rows * pt c (.cells (Ac.cs ⟨x, 0⟩).toArray 58 (0, 0)) * own 58 2 (.slice a2 (P.rows.length + 1) cap2) (P.rows.length + 1) (flat P.rows ++ Ac.cs ⟨x, 0⟩) * pt4 p P m (.slice a P.rows.length cap)) (by ac_rfl)) rfl (by simp) ?_
  intro w5 s6
  simp at s6
  simp
  have s6 : St w0 (A * mpt m P.rows * pt c (.cells (Ac.cs ⟨x, 0⟩).toArray 58 (0, 0)) * own 58 2 (.slice a2 (P.rows.length + 1) cap2) (P.rows.length + 1) (flat P.rows ++ Ac.cs ⟨x, 0⟩) * pt4 p P m (.slice a2 (P.rows.length + 1) cap2)) w5 := s6
  refine eff_call ((enter_p p P m (.slice a2 (P.rows.length + 1) cap2) x P.rows w0 w5 (A * own 58 2 (.slice a2 (P.rows.length + 1) cap2) (P.rows.length + 1) (flat P.rows ++ Ac.cs ⟨x, 0⟩)) hx h2 (St.cut (pt c (.cells (Ac.cs ⟨x, 0⟩).toArray 58 (0, 0))) s6 (by ac_rfl))).mono ?_)
  intro r w6 s7
  simp [openF, h, h2, h3]
  refine pclose (m := m) (v := .slice a2 (P.rows.length + 1) cap2) ?_
  have e : flat (P.rows ++ [⟨x, 0⟩]) = flat P.rows ++ Ac.cs ⟨x, 0⟩ := by simp [flat]
  show St w0 (A * pt4 p P m (.slice a2 (P.rows.length + 1) cap2) * mpt m (P.rows ++ [(⟨x, 0⟩ : Ac)]) * own 58 2 (.slice a2 (P.rows.length + 1) cap2) (P.rows ++ [(⟨x, 0⟩ : Ac)]).length (flat (P.rows ++ [⟨x, 0⟩]))) w6
  rw [e, List.length_append]
  exact s7.to (by ac_rfl)
/-- what is where -/
theorem acc_in {l : List Ac} {n : Int} (h : accE l n = 0) : ∃ i : Nat, n = i ∧ i < l.length := by
  unfold accE at h
  split at h
  · exact ⟨n.toNat, by omega, by omega⟩
  · cases h
theorem accE_or (l : List Ac) (n : Int) : accE l n = 0 ∨ accE l n = 142 := by unfold accE; split <;> simp
def mintF (P : Ps) (n c : Int) : Int × Ps :=
  if accE P.rows n = 0 then
    if c = 0 then (2, P) else if 4611686018427387904 - P.sup < c then (144, P)
    else (0, { P with sup := P.sup + c, rows := setC P.rows n.toNat (coin P.rows n.toNat + c) })
  else (142, P)
theorem Mint_spec (p : Nat) (P : Ps) (n c : Int) (w0 w : World) (A : Asn) (hP : Bd P) (hc : 0 ≤ c ∧ c < 18446744073709551616) (s : St w0 (A * pur p P) w) :
    CallW Tryz.prog 59 [.pointer (some ⟨p, 0, none⟩), .int .i64 n, .int .u64 c] (fun r w' => r = .int .i64 (mintF P n c).1 ∧ St w0 (A * pur p (mintF P n c).2) w') w := by
  refine callW_of_lift l59_ok (by simp [l59]) ?_
  simp [l59]
  have hs := hP.sup
  have hlen := hP.len
  refine eff_call ((account_spec p P n w0 w A s).mono ?_)
  rintro r w1 ⟨rfl, s⟩
  simp
  refine cndI (fun h => ?_) (fun h => ?_)
  · simp at h
    have h142 := (accE_or P.rows n).resolve_left h
    simp [mintF, h142]
    exact s
  simp at h
  obtain ⟨i, rfl, hi⟩ := acc_in h
  simp
  refine cndI (fun h1 => ?_) (fun h1 => ?_)
  · simp at h1
    simp [mintF, h, h1]
    exact s
  simp at h1
  simp
  obtain ⟨m, v, s1⟩ := popen s
  refine eff_ldc (v := .int .u64 P.sup) (by rw [cell_of s1.drop.drop.look]; rfl) ?_
  simp
  try simp (disch := omega) only [wrapu64]
  refine cndI (fun h2 => ?_) (fun h2 => ?_)
  · simp at h2
    simp [mintF, h, h1, h2]
    exact s
  simp at h2
  simp
  refine eff_ldc (v := .int .u64 P.sup) (by rw [cell_of s1.drop.drop.look]; rfl) ?_
  simp
  try simp (disch := omega) only [wrapu64]
  refine eff_st1 (s1.to (B := A * mpt m P.rows * own 58 2 v P.rows.length (flat P.rows) * pt4 p P m v) (by ac_rfl)) rfl (by simp) ?_
  intro w2 s2
  simp at s2
  simp
  obtain ⟨g, cap, hv, hcap, _⟩ := s1.own_at (by omega)
  subst hv
  have hco := hP.coins i hi
  have hci : (P.rows.getD i ⟨[], 0⟩).coins = coin P.rows i := rfl
  rw [hci] at hco
  refine eff_ldc (v := .slice (some ⟨g, 0, none⟩) P.rows.length cap) (by rw [cell_of s2.look]; rfl) ?_
  simp [hi]
  have s3 := s2.to (B := A * mpt m P.rows * pt4 p { P with sup := P.sup + c } m (.slice (some ⟨g, 0, none⟩) P.rows.length cap) * own 58 2 (.slice (some ⟨g, 0, none⟩) P.rows.length cap) P.rows.length (flat P.rows)) (by ac_rfl)
  obtain ⟨g', cap', hv, _, hcell⟩ := s3.own_at (by omega)
  cases hv
  refine eff_ldc (v := .int .u64 (coin P.rows i)) (by rw [hcell _ _ (flat_coins hi), coin_at hi]) ?_
  simp [hi]
  try simp (disch := omega) only [wrapu64]
  have hfl := flat_len P.rows
  refine eff_stC (u := .int .u64 (coin P.rows i + c)) s3 (by omega) rfl ?_
  intro w3 s4
  rw [setC_at hi] at s4
  simp [mintF, h, h1]
  rw [if_neg (by omega)]
  refine ⟨rfl, pclose (m := m) (v := .slice (some ⟨g, 0, none⟩) P.rows.length cap) ?_⟩
  rw [mpt, keys_setC, setC_len]
  exact s4.to (by ac_rfl)
end Go.HL.Pu

namespace Go.HL.Pu
open Go.HL Go.HL.Nm Go.Proofs
set_option maxRecDepth 4000
set_option linter.unusedSimpArgs false
set_option linter.unusedVariables false
theorem coin_bd {P : Ps} (hP : Bd P) {i : Nat} (h : i < P.rows.length) : 0 ≤ coin P.rows i ∧ coin P.rows i ≤ 4611686018427387904 := hP.coins i h
theorem coin_set {l : List Ac} {i j : Nat} (h : i < l.length) (c : Int) : coin (setC l i c) j = if j = i then c else coin l j := by
  unfold coin setC
  by_cases e : j = i
  · subst e; simp [h]
  · rw [if_neg e]
    simp [List.getElem?_set_ne (Ne.symm e)]
/-- a change of one account's coins -/
theorem st_coin {w0 w : World} {A : Asn} {p m g cap i : Nat} {P : Ps} {c : Int} {l : List Ac} (hi : i < l.length)
    (s : St w0 (A * own 58 2 (.slice (some ⟨g, 0, none⟩) l.length cap) l.length (flat l)) w) {K : Value → World → Prop}
    (hk : ∀ w', St w0 (A * own 58 2 (.slice (some ⟨g, 0, none⟩) (setC l i c).length cap) (setC l i c).length (flat (setC l i c))) w' → K undef w') :
    EffW Tryz.prog (.st 1) [.pointer (some ⟨g, i * 2 + 1, none⟩), .int .u64 c] K w := by
  have hfl := flat_len l
  refine eff_stC (u := .int .u64 c) s (by omega) rfl ?_
  intro w3 s4
  rw [setC_at hi] at s4
  refine hk w3 ?_
  rw [setC_len]
  exact s4
def payF (P : Ps) (a b c : Int) : Int × Ps :=
  if accE P.rows a = 0 ∧ accE P.rows b = 0 then
    if a = b then (234, P) else if c = 0 then (2, P) else if coin P.rows a.toNat < c then (143, P)
    else (0, { P with rows := setC (setC P.rows a.toNat (coin P.rows a.toNat - c)) b.toNat (coin P.rows b.toNat + c) })
  else (142, P)
def takeF (P : Ps) (n c : Int) : Int × Ps :=
  if accE P.rows n = 0 then
    if coin P.rows n.toNat < c then (143, P)
    else (0, { P with held := P.held + c, rows := setC P.rows n.toNat (coin P.rows n.toNat - c) })
  else (142, P)
theorem Take_spec (p : Nat) (P : Ps) (n c : Int) (w0 w : World) (A : Asn) (hP : Bd P) (hc : 0 ≤ c ∧ c < 18446744073709551616) (s : St w0 (A * pur p P) w) :
    CallW Tryz.prog 114 [.pointer (some ⟨p, 0, none⟩), .int .i64 n, .int .u64 c] (fun r w' => r = .int .i64 (takeF P n c).1 ∧ St w0 (A * pur p (takeF P n c).2) w') w := by
  refine callW_of_lift l114_ok (by simp [l114]) ?_
  simp [l114]
  have hlen := hP.len
  have hh := hP.held
  refine eff_call ((account_spec p P n w0 w A s).mono ?_)
  rintro r w1 ⟨rfl, s⟩
  simp
  refine cndI (fun h => ?_) (fun h => ?_)
  · simp at h
    have h142 := (accE_or P.rows n).resolve_left h
    simp [takeF, h142]
    exact s
  simp at h
  obtain ⟨i, rfl, hi⟩ := acc_in h
  simp
  obtain ⟨m, v, s1⟩ := popen s
  clear s
  obtain ⟨g, gcap, hv, hcap, hcell⟩ := s1.own_at (by omega)
  subst hv
  refine eff_ldc (v := .slice (some ⟨g, 0, none⟩) P.rows.length gcap) (by rw [cell_of s1.drop.drop.look]; rfl) ?_
  simp [hi]
  have hci := coin_bd hP hi
  refine eff_ldc (v := .int .u64 (coin P.rows i)) (by rw [hcell _ _ (flat_coins hi), coin_at hi]) ?_
  simp
  refine eff_call ((take_spec (coin P.rows i) c w1 (by omega) hc).mono ?_)
  rintro r w3 ⟨rfl, rfl⟩
  simp
  refine cndI (fun h2 => ?_) (fun h2 => ?_)
  · simp at h2
    simp [takeF, h, h2]
    exact pclose s1
  simp at h2
  simp [h2]
  refine eff_ldc (v := .slice (some ⟨g, 0, none⟩) P.rows.length gcap) (by rw [cell_of s1.drop.drop.look]; rfl) ?_
  simp [hi]
  rw [if_neg (by omega)]
  refine st_coin (p := p) (m := m) (P := P) hi s1 ?_
  intro w4 s2
  simp
  refine eff_ldc (v := .int .u64 P.held) (by rw [cell_of s2.drop.drop.look]; rfl) ?_
  simp
  try simp (disch := omega) only [wrapu64]
  refine eff_st1 (s2.to (B := A * mpt m P.rows * own 58 2 (.slice (some ⟨g, 0, none⟩) (setC P.rows i (coin P.rows i - c)).length gcap) (setC P.rows i (coin P.rows i - c)).length (flat (setC P.rows i (coin P.rows i - c))) * pt4 p P m (.slice (some ⟨g, 0, none⟩) P.rows.length gcap)) (by ac_rfl)) rfl (by simp) ?_
  intro w5 s3
  simp at s3
  simp [takeF, h]
  rw [if_neg (by omega)]
  refine ⟨rfl, pclose (m := m) (v := .slice (some ⟨g, 0, none⟩) P.rows.length gcap) ?_⟩
  rw [mpt, keys_setC]
  rw [setC_len] at s3 ⊢
  exact s3.to (by ac_rfl)
def putF (P : Ps) (n c : Int) : Int × Ps :=
  if accE P.rows n = 0 then
    if P.held < c then (143, P)
    else (0, { P with held := P.held - c, rows := setC P.rows n.toNat (coin P.rows n.toNat + c) })
  else (142, P)
theorem Put_spec (p : Nat) (P : Ps) (n c : Int) (w0 w : World) (A : Asn) (hP : Bd P) (hc : 0 ≤ c ∧ c < 18446744073709551616) (s : St w0 (A * pur p P) w) :
    CallW Tryz.prog 146 [.pointer (some ⟨p, 0, none⟩), .int .i64 n, .int .u64 c] (fun r w' => r = .int .i64 (putF P n c).1 ∧ St w0 (A * pur p (putF P n c).2) w') w := by
  refine callW_of_lift l146_ok (by simp [l146]) ?_
  simp [l146]
  have hlen := hP.len
  have hh := hP.held
  refine eff_call ((account_spec p P n w0 w A s).mono ?_)
  rintro r w1 ⟨rfl, s⟩
  simp
  refine cndI (fun h => ?_) (fun h => ?_)
  · simp at h
    have h142 := (accE_or P.rows n).resolve_left h
    simp [putF, h142]
    exact s
  simp at h
  obtain ⟨i, rfl, hi⟩ := acc_in h
  simp
  obtain ⟨m, v, s1⟩ := popen s
  clear s
  have hci := coin_bd hP hi
  refine eff_ldc (v := .int .u64 P.held) (by rw [cell_of s1.drop.drop.look]; rfl) ?_
  simp
  refine eff_call ((take_spec P.held c w1 (by omega) hc).mono ?_)
  rintro r w3 ⟨rfl, rfl⟩
  simp
  refine cndI (fun h2 => ?_) (fun h2 => ?_)
  · simp at h2
    simp [putF, h, h2]
    exact pclose s1
  simp at h2
  simp [h2]
  rw [if_neg (by omega)]
  refine eff_st1 (s1.to (B := A * mpt m P.rows * own 58 2 v P.rows.length (flat P.rows) * pt4 p P m v) (by ac_rfl)) rfl (by simp) ?_
  intro w4 s2
  simp at s2
  simp
  obtain ⟨g, gcap, hv, hcap, hcell⟩ := s1.own_at (by omega)
  subst hv
  refine eff_ldc (v := .slice (some ⟨g, 0, none⟩) P.rows.length gcap) (by rw [cell_of s2.look]; rfl) ?_
  simp [hi]
  have s3 := s2.to (B := A * mpt m P.rows * pt4 p { P with held := P.held - c } m (.slice (some ⟨g, 0, none⟩) P.rows.length gcap) * own 58 2 (.slice (some ⟨g, 0, none⟩) P.rows.length gcap) P.rows.length (flat P.rows)) (by ac_rfl)
  obtain ⟨g', cap', hv, _, hcell⟩ := s3.own_at (by omega)
  cases hv
  refine eff_ldc (v := .int .u64 (coin P.rows i)) (by rw [hcell _ _ (flat_coins hi), coin_at hi]) ?_
  simp [hi]
  try simp (disch := omega) only [wrapu64]
  refine st_coin (p := p) (m := m) (P := P) hi s3 ?_
  intro w5 s4
  simp [putF, h, h2]
  rw [if_neg (by omega)]
  refine ⟨rfl, pclose (m := m) (v := .slice (some ⟨g, 0, none⟩) P.rows.length gcap) ?_⟩
  rw [mpt, keys_setC]
  rw [setC_len] at s4 ⊢
  exact s4.to (by ac_rfl)
def getF (P : Ps) (n : Int) : Ac × Int := if accE P.rows n = 0 then (P.rows.getD n.toNat ⟨[], 0⟩, 0) else (⟨[], 0⟩, 142)
theorem Get_spec (p : Nat) (P : Ps) (n : Int) (w0 w : World) (A : Asn) (hP : P.rows.length ≤ 64) (s : St w0 (A * pur p P) w) :
    CallW Tryz.prog 74 [.pointer (some ⟨p, 0, none⟩), .int .i64 n] (fun r w' => r = .tuple #[.agg (getF P n).1.cs.toArray, .int .i64 (getF P n).2] ∧ St w0 (A * pur p P) w') w := by
  refine callW_of_lift l74_ok (by simp [l74]) ?_
  simp [l74]
  refine eff_new s ?_
  intro b w1 s1
  simp
  refine eff_call ((account_spec p P n w0 w1 (A * pt b (.cells (Ac.cs ⟨[], 0⟩).toArray 58 (0, 0))) (s1.to (by ac_rfl))).mono ?_)
  rintro r w2 ⟨rfl, s2⟩
  simp
  have s2' := s2.swap
  refine cndI (fun h => ?_) (fun h => ?_)
  · simp at h
    simp [getF, h, Instr.fill, Value.cells]
    refine eff_stA (vs := Ac.cs ⟨[], 0⟩) s2' rfl rfl (cs_one _) (by simp [Ac.cs]) ?_
    intro w3 s3
    simp
    have s4 : St w0 (A * pur p P * pt b (.cells (Ac.cs ⟨[], 0⟩).toArray 58 (0, 0))) w3 := by simpa [Ac.cs] using s3
    refine rv_cellA (vs := Ac.cs ⟨[], 0⟩) rfl s4.row_cells rfl ?_
    simp
    refine ⟨?_, s4.drop⟩
    exact (accE_or P.rows n).resolve_left h
  simp at h
  simp
  obtain ⟨i, rfl, hi⟩ := acc_in h
  obtain ⟨m, v, s3⟩ := popen s2
  obtain ⟨g, gcap, hv, hcap, hcell⟩ := s3.own_at (by omega)
  subst hv
  refine eff_ldc (v := .slice (some ⟨g, 0, none⟩) P.rows.length gcap) (by rw [cell_of s3.drop.drop.look]; rfl) ?_
  simp [hi]
  refine eff_ldcs (vs := P.rows[i].cs) (fun j u hu => hcell _ _ (flat_at hi j u hu)) rfl ?_
  simp
  have hg : getF P (i : Int) = (P.rows[i], 0) := by simp [getF, h, hi]
  refine eff_stA (vs := P.rows[i].cs) s2' rfl rfl (cs_one _) (by simp [Ac.cs]) ?_
  intro w3 s3
  simp [hg]
  have s4 : St w0 (A * pur p P * pt b (.cells P.rows[i].cs.toArray 58 (0, 0))) w3 := by simpa [Ac.cs] using s3
  refine rv_cellA (vs := P.rows[i].cs) rfl s4.row_cells rfl ?_
  simp
  exact s4.drop
end Go.HL.Pu

namespace Go.HL.Pu
open Go.HL Go.HL.Nm Go.Proofs
set_option maxRecDepth 4000
set_option linter.unusedSimpArgs false
set_option linter.unusedVariables false
-- (*bazaar/purse.Purse).Supply
def h16_0 : HC := (.seq (.reg (.chk none .chkp (.cons (.inp 0) .nil) (.chk none (.fld 3) (.cons (.op .chkp (.cons (.inp 0) .nil)) .nil) (.eff (.ld false 1) (.cons (.op (.fld 3) (.cons (.op .chkp (.cons (.inp 0) .nil)) .nil)) .nil) (.done [(1, (.bv 0))] none))))) .ret)
@[simp] theorem h16_0_wp {P : Program} {F : PF P} {Q : EX → List Value → World → Prop} {env : List Value} {w : World} : h16_0.wp F Q env w = HC.wp F (.seq (.reg (.chk none .chkp (.cons (.inp 0) .nil) (.chk none (.fld 3) (.cons (.op .chkp (.cons (.inp 0) .nil)) .nil) (.eff (.ld false 1) (.cons (.op (.fld 3) (.cons (.op .chkp (.cons (.inp 0) .nil)) .nil)) .nil) (.done [(1, (.bv 0))] none))))) .ret) Q env w := rfl
def h16_1 : HC := (.seq (.reg (.done [(1, (.cst (.int .u64 0)))] none)) .ret)
@[simp] theorem h16_1_wp {P : Program} {F : PF P} {Q : EX → List Value → World → Prop} {env : List Value} {w : World} : h16_1.wp F Q env w = HC.wp F (.seq (.reg (.done [(1, (.cst (.int .u64 0)))] none)) .ret) Q env w := rfl
def h16_2 : HC := (.seq (.br (.chk none (.eqNil false (.pointer 81) (.pointer none)) (.cons (.inp 0) .nil) (.done [] (some (.op (.eqNil false (.pointer 81) (.pointer none)) (.cons (.inp 0) .nil))))) h16_1 .skip) h16_0)
@[simp] theorem h16_2_wp {P : Program} {F : PF P} {Q : EX → List Value → World → Prop} {env : List Value} {w : World} : h16_2.wp F Q env w = HC.wp F (.seq (.br (.chk none (.eqNil false (.pointer 81) (.pointer none)) (.cons (.inp 0) .nil) (.done [] (some (.op (.eqNil false (.pointer 81) (.pointer none)) (.cons (.inp 0) .nil))))) h16_1 .skip) h16_0) Q env w := rfl
def l16 : Lifted := ⟨[0, 2], 9, [.slot 1], (.seq (.reg (.done [(1, (.cst (.int .u64 0)))] none)) h16_2)⟩
theorem l16_ok : liftFn U0 16 400 = some l16 := by kernel_rfl

-- (*bazaar/purse.Purse).Held
def h21_0 : HC := (.seq (.reg (.chk none .chkp (.cons (.inp 0) .nil) (.chk none (.fld 4) (.cons (.op .chkp (.cons (.inp 0) .nil)) .nil) (.eff (.ld false 1) (.cons (.op (.fld 4) (.cons (.op .chkp (.cons (.inp 0) .nil)) .nil)) .nil) (.done [(1, (.bv 0))] none))))) .ret)
@[simp] theorem h21_0_wp {P : Program} {F : PF P} {Q : EX → List Value → World → Prop} {env : List Value} {w : World} : h21_0.wp F Q env w = HC.wp F (.seq (.reg (.chk none .chkp (.cons (.inp 0) .nil) (.chk none (.fld 4) (.cons (.op .chkp (.cons (.inp 0) .nil)) .nil) (.eff (.ld false 1) (.cons (.op (.fld 4) (.cons (.op .chkp (.cons (.inp 0) .nil)) .nil)) .nil) (.done [(1, (.bv 0))] none))))) .ret) Q env w := rfl
def h21_1 : HC := (.seq (.reg (.done [(1, (.cst (.int .u64 0)))] none)) .ret)
@[simp] theorem h21_1_wp {P : Program} {F : PF P} {Q : EX → List Value → World → Prop} {env : List Value} {w : World} : h21_1.wp F Q env w = HC.wp F (.seq (.reg (.done [(1, (.cst (.int .u64 0)))] none)) .ret) Q env w := rfl
def h21_2 : HC := (.seq (.br (.chk none (.eqNil false (.pointer 81) (.pointer none)) (.cons (.inp 0) .nil) (.done [] (some (.op (.eqNil false (.pointer 81) (.pointer none)) (.cons (.inp 0) .nil))))) h21_1 .skip) h21_0)
@[simp] theorem h21_2_wp {P : Program} {F : PF P} {Q : EX → List Value → World → Prop} {env : List Value} {w : World} : h21_2.wp F Q env w = HC.wp F (.seq (.br (.chk none (.eqNil false (.pointer 81) (.pointer none)) (.cons (.inp 0) .nil) (.done [] (some (.op (.eqNil false (.pointer 81) (.pointer none)) (.cons (.inp 0) .nil))))) h21_1 .skip) h21_0) Q env w := rfl
def l21 : Lifted := ⟨[0, 2], 9, [.slot 1], (.seq (.reg (.done [(1, (.cst (.int .u64 0)))] none)) h21_2)⟩
theorem l21_ok : liftFn U0 21 400 = some l21 := by kernel_rfl

-- (*bazaar/purse.Purse).Rows
def h11_0 : HC := (.seq (.reg (.chk none .chkp (.cons (.inp 0) .nil) (.chk none (.fld 2) (.cons (.op .chkp (.cons (.inp 0) .nil)) .nil) (.eff (.ld false 1) (.cons (.op (.fld 2) (.cons (.op .chkp (.cons (.inp 0) .nil)) .nil)) .nil) (.eff (.call 39) (.cons (.bv 0) .nil) (.eff (.call 38) (.cons (.bv 1) .nil) (.done [(1, (.bv 2))] none))))))) .ret)
@[simp] theorem h11_0_wp {P : Program} {F : PF P} {Q : EX → List Value → World → Prop} {env : List Value} {w : World} : h11_0.wp F Q env w = HC.wp F (.seq (.reg (.chk none .chkp (.cons (.inp 0) .nil) (.chk none (.fld 2) (.cons (.op .chkp (.cons (.inp 0) .nil)) .nil) (.eff (.ld false 1) (.cons (.op (.fld 2) (.cons (.op .chkp (.cons (.inp 0) .nil)) .nil)) .nil) (.eff (.call 39) (.cons (.bv 0) .nil) (.eff (.call 38) (.cons (.bv 1) .nil) (.done [(1, (.bv 2))] none))))))) .ret) Q env w := rfl
def h11_1 : HC := (.seq (.reg (.done [(1, (.cst (.slice none 0 0)))] none)) .ret)
@[simp] theorem h11_1_wp {P : Program} {F : PF P} {Q : EX → List Value → World → Prop} {env : List Value} {w : World} : h11_1.wp F Q env w = HC.wp F (.seq (.reg (.done [(1, (.cst (.slice none 0 0)))] none)) .ret) Q env w := rfl
def h11_2 : HC := (.seq (.br (.chk none (.eqNil false (.pointer 81) (.pointer none)) (.cons (.inp 0) .nil) (.done [] (some (.op (.eqNil false (.pointer 81) (.pointer none)) (.cons (.inp 0) .nil))))) h11_1 .skip) h11_0)
@[simp] theorem h11_2_wp {P : Program} {F : PF P} {Q : EX → List Value → World → Prop} {env : List Value} {w : World} : h11_2.wp F Q env w = HC.wp F (.seq (.br (.chk none (.eqNil false (.pointer 81) (.pointer none)) (.cons (.inp 0) .nil) (.done [] (some (.op (.eqNil false (.pointer 81) (.pointer none)) (.cons (.inp 0) .nil))))) h11_1 .skip) h11_0) Q env w := rfl
def l11 : Lifted := ⟨[0, 2], 11, [.slot 1], (.seq (.reg (.done [(1, (.cst (.slice none 0 0)))] none)) h11_2)⟩
theorem l11_ok : liftFn U0 11 400 = some l11 := by kernel_rfl

-- (*bazaar/purse.Purse).Copy
theorem Supply_spec (p : Nat) (P : Ps) (w0 w : World) (A : Asn) (s : St w0 (A * pur p P) w) :
    CallW Tryz.prog 16 [.pointer (some ⟨p, 0, none⟩)] (fun r w' => r = .int .u64 P.sup ∧ St w0 (A * pur p P) w') w := by
  refine callW_of_lift l16_ok (by simp [l16]) ?_
  simp [l16]
  obtain ⟨m, v, s1⟩ := popen s
  refine eff_ldc (v := .int .u64 P.sup) (by rw [cell_of s1.drop.drop.look]; rfl) ?_
  simp
  exact s
theorem Held_spec (p : Nat) (P : Ps) (w0 w : World) (A : Asn) (s : St w0 (A * pur p P) w) :
    CallW Tryz.prog 21 [.pointer (some ⟨p, 0, none⟩)] (fun r w' => r = .int .u64 P.held ∧ St w0 (A * pur p P) w') w := by
  refine callW_of_lift l21_ok (by simp [l21]) ?_
  simp [l21]
  obtain ⟨m, v, s1⟩ := popen s
  refine eff_ldc (v := .int .u64 P.held) (by rw [cell_of s1.drop.drop.look]; rfl) ?_
  simp
  exact s
theorem Rows_spec (p : Nat) (P : Ps) (w0 w : World) (A : Asn) (hl : P.rows.length ≤ 1048576) (s : St w0 (A * pur p P) w) :
    CallW Tryz.prog 11 [.pointer (some ⟨p, 0, none⟩)] (fun r w' => St w0 (A * pur p P * own 58 2 r P.rows.length (flat P.rows)) w') w := by
  refine callW_of_lift l11_ok (by simp [l11]) ?_
  simp [l11]
  obtain ⟨m, v, s1⟩ := popen s
  refine eff_ldc (v := v) (by rw [cell_of s1.drop.drop.look]; rfl) ?_
  simp
  refine eff_call ((clone_spec v P.rows w0 w _ hl s1).mono ?_)
  intro r w2 s2
  simp
  refine eff_call ((clipA_spec r P.rows.length _ _ w0 w2 _ hl s2).mono ?_)
  intro r2 w3 s3
  simp
  have s4 := s3.to (B := A * own 58 2 r2 P.rows.length (flat P.rows) * pt4 p P m v * mpt m P.rows * own 58 2 v P.rows.length (flat P.rows)) (by ac_rfl)
  exact (pclose s4).to (by ac_rfl)
/-- who looks alike -/
def nearF : List Ac → List UInt8 → Nat → List Int
  | [], _, _ => []
  | a :: l, x, i => if seemF a.name = seemF x then (i : Int) :: nearF l x (i + 1) else nearF l x (i + 1)
end Go.HL.Pu

namespace Go.HL.Pu
open Go.HL Go.HL.Nm Go.Proofs
set_option maxRecDepth 4000
set_option linter.unusedSimpArgs false
set_option linter.unusedVariables false
-- bazaar/purse.Load
def h6_0 : HC := (.seq (.reg (.done [(3, (.inp 5)), (4, (.cst (.int .i64 0)))] none)) .ret)
@[simp] theorem h6_0_wp {P : Program} {F : PF P} {Q : EX → List Value → World → Prop} {env : List Value} {w : World} : h6_0.wp F Q env w = HC.wp F (.seq (.reg (.done [(3, (.inp 5)), (4, (.cst (.int .i64 0)))] none)) .ret) Q env w := rfl
def h6_1 : HC := (.reg (.chk none (.bin .add) (.cons (.inp 12) (.cons (.cst (.int .i64 1)) .nil)) (.done [(12, (.op (.bin .add) (.cons (.inp 12) (.cons (.cst (.int .i64 1)) .nil))))] none)))
@[simp] theorem h6_1_wp {P : Program} {F : PF P} {Q : EX → List Value → World → Prop} {env : List Value} {w : World} : h6_1.wp F Q env w = HC.wp F (.reg (.chk none (.bin .add) (.cons (.inp 12) (.cons (.cst (.int .i64 1)) .nil)) (.done [(12, (.op (.bin .add) (.cons (.inp 12) (.cons (.cst (.int .i64 1)) .nil))))] none))) Q env w := rfl
def h6_2 : HC := (.regq (some 1) (.chk none .chkp (.cons (.inp 5) .nil) (.chk none (.fld 2) (.cons (.op .chkp (.cons (.inp 5) .nil)) .nil) (.eff (.ld false 1) (.cons (.op (.fld 2) (.cons (.op .chkp (.cons (.inp 5) .nil)) .nil)) .nil) (.chk none .chkp (.cons (.inp 5) .nil) (.chk none (.fld 2) (.cons (.op .chkp (.cons (.inp 5) .nil)) .nil) (.eff (.ld false 1) (.cons (.op (.fld 2) (.cons (.op .chkp (.cons (.inp 5) .nil)) .nil)) .nil) (.chk none .lenL (.cons (.bv 1) .nil) (.chk none (.bin .sub) (.cons (.op .lenL (.cons (.bv 1) .nil)) (.cons (.cst (.int .i64 1)) .nil)) (.chk none (.fld 1) (.cons (.inp 6) .nil) (.eff (.ld false 1) (.cons (.op (.fld 1) (.cons (.inp 6) .nil)) .nil) (.chk none (.idxL 2) (.cons (.bv 0) (.cons (.op (.bin .sub) (.cons (.op .lenL (.cons (.bv 1) .nil)) (.cons (.cst (.int .i64 1)) .nil))) .nil)) (.chk none (.fld 1) (.cons (.op (.idxL 2) (.cons (.bv 0) (.cons (.op (.bin .sub) (.cons (.op .lenL (.cons (.bv 1) .nil)) (.cons (.cst (.int .i64 1)) .nil))) .nil))) .nil) (.eff (.st 1) (.cons (.op (.fld 1) (.cons (.op (.idxL 2) (.cons (.bv 0) (.cons (.op (.bin .sub) (.cons (.op .lenL (.cons (.bv 1) .nil)) (.cons (.cst (.int .i64 1)) .nil))) .nil))) .nil)) (.cons (.bv 2) .nil)) (.done [] none)))))))))))))))
@[simp] theorem h6_2_wp {P : Program} {F : PF P} {Q : EX → List Value → World → Prop} {env : List Value} {w : World} : h6_2.wp F Q env w = HC.wp F (.regq (some 1) (.chk none .chkp (.cons (.inp 5) .nil) (.chk none (.fld 2) (.cons (.op .chkp (.cons (.inp 5) .nil)) .nil) (.eff (.ld false 1) (.cons (.op (.fld 2) (.cons (.op .chkp (.cons (.inp 5) .nil)) .nil)) .nil) (.chk none .chkp (.cons (.inp 5) .nil) (.chk none (.fld 2) (.cons (.op .chkp (.cons (.inp 5) .nil)) .nil) (.eff (.ld false 1) (.cons (.op (.fld 2) (.cons (.op .chkp (.cons (.inp 5) .nil)) .nil)) .nil) (.chk none .lenL (.cons (.bv 1) .nil) (.chk none (.bin .sub) (.cons (.op .lenL (.cons (.bv 1) .nil)) (.cons (.cst (.int .i64 1)) .nil)) (.chk none (.fld 1) (.cons (.inp 6) .nil) (.eff (.ld false 1) (.cons (.op (.fld 1) (.cons (.inp 6) .nil)) .nil) (.chk none (.idxL 2) (.cons (.bv 0) (.cons (.op (.bin .sub) (.cons (.op .lenL (.cons (.bv 1) .nil)) (.cons (.cst (.int .i64 1)) .nil))) .nil)) (.chk none (.fld 1) (.cons (.op (.idxL 2) (.cons (.bv 0) (.cons (.op (.bin .sub) (.cons (.op .lenL (.cons (.bv 1) .nil)) (.cons (.cst (.int .i64 1)) .nil))) .nil))) .nil) (.eff (.st 1) (.cons (.op (.fld 1) (.cons (.op (.idxL 2) (.cons (.bv 0) (.cons (.op (.bin .sub) (.cons (.op .lenL (.cons (.bv 1) .nil)) (.cons (.cst (.int .i64 1)) .nil))) .nil))) .nil)) (.cons (.bv 2) .nil)) (.done [] none))))))))))))))) Q env w := rfl
def h6_3 : HC := (.seq (.reg (.chk none .chkp (.cons (.inp 5) .nil) (.chk none (.fld 4) (.cons (.op .chkp (.cons (.inp 5) .nil)) .nil) (.eff (.st 1) (.cons (.op (.fld 4) (.cons (.op .chkp (.cons (.inp 5) .nil)) .nil)) (.cons (.inp 8) .nil)) (.done [] none))))) h6_2)
@[simp] theorem h6_3_wp {P : Program} {F : PF P} {Q : EX → List Value → World → Prop} {env : List Value} {w : World} : h6_3.wp F Q env w = HC.wp F (.seq (.reg (.chk none .chkp (.cons (.inp 5) .nil) (.chk none (.fld 4) (.cons (.op .chkp (.cons (.inp 5) .nil)) .nil) (.eff (.st 1) (.cons (.op (.fld 4) (.cons (.op .chkp (.cons (.inp 5) .nil)) .nil)) (.cons (.inp 8) .nil)) (.done [] none))))) h6_2) Q env w := rfl
def h6_4 : HC := (.seq (.reg (.done [(3, (.cst (.pointer none))), (4, (.cst (.int .i64 144)))] none)) .ret)
@[simp] theorem h6_4_wp {P : Program} {F : PF P} {Q : EX → List Value → World → Prop} {env : List Value} {w : World} : h6_4.wp F Q env w = HC.wp F (.seq (.reg (.done [(3, (.cst (.pointer none))), (4, (.cst (.int .i64 144)))] none)) .ret) Q env w := rfl
def h6_5 : HC := (.seq (.br (.chk none (.bin .neq) (.cons (.inp 9) (.cons (.cst (.int .i64 0)) .nil)) (.done [] (some (.op (.bin .neq) (.cons (.inp 9) (.cons (.cst (.int .i64 0)) .nil)))))) h6_4 .skip) h6_3)
@[simp] theorem h6_5_wp {P : Program} {F : PF P} {Q : EX → List Value → World → Prop} {env : List Value} {w : World} : h6_5.wp F Q env w = HC.wp F (.seq (.br (.chk none (.bin .neq) (.cons (.inp 9) (.cons (.cst (.int .i64 0)) .nil)) (.done [] (some (.op (.bin .neq) (.cons (.inp 9) (.cons (.cst (.int .i64 0)) .nil)))))) h6_4 .skip) h6_3) Q env w := rfl
def h6_6 : HC := (.seq (.regq (some 1) (.chk none .chkp (.cons (.inp 5) .nil) (.chk none (.fld 4) (.cons (.op .chkp (.cons (.inp 5) .nil)) .nil) (.eff (.ld false 1) (.cons (.op (.fld 4) (.cons (.op .chkp (.cons (.inp 5) .nil)) .nil)) .nil) (.chk none (.fld 1) (.cons (.inp 6) .nil) (.eff (.ld false 1) (.cons (.op (.fld 1) (.cons (.inp 6) .nil)) .nil) (.eff (.call 32) (.cons (.bv 0) (.cons (.bv 1) .nil)) (.chk none (.ext 0) (.cons (.bv 2) .nil) (.chk none (.ext 1) (.cons (.bv 2) .nil) (.done [(8, (.op (.ext 0) (.cons (.bv 2) .nil))), (9, (.op (.ext 1) (.cons (.bv 2) .nil)))] none)))))))))) h6_5)
@[simp] theorem h6_6_wp {P : Program} {F : PF P} {Q : EX → List Value → World → Prop} {env : List Value} {w : World} : h6_6.wp F Q env w = HC.wp F (.seq (.regq (some 1) (.chk none .chkp (.cons (.inp 5) .nil) (.chk none (.fld 4) (.cons (.op .chkp (.cons (.inp 5) .nil)) .nil) (.eff (.ld false 1) (.cons (.op (.fld 4) (.cons (.op .chkp (.cons (.inp 5) .nil)) .nil)) .nil) (.chk none (.fld 1) (.cons (.inp 6) .nil) (.eff (.ld false 1) (.cons (.op (.fld 1) (.cons (.inp 6) .nil)) .nil) (.eff (.call 32) (.cons (.bv 0) (.cons (.bv 1) .nil)) (.chk none (.ext 0) (.cons (.bv 2) .nil) (.chk none (.ext 1) (.cons (.bv 2) .nil) (.done [(8, (.op (.ext 0) (.cons (.bv 2) .nil))), (9, (.op (.ext 1) (.cons (.bv 2) .nil)))] none)))))))))) h6_5) Q env w := rfl
def h6_7 : HC := (.seq (.reg (.done [(3, (.cst (.pointer none))), (4, (.inp 7))] none)) .ret)
@[simp] theorem h6_7_wp {P : Program} {F : PF P} {Q : EX → List Value → World → Prop} {env : List Value} {w : World} : h6_7.wp F Q env w = HC.wp F (.seq (.reg (.done [(3, (.cst (.pointer none))), (4, (.inp 7))] none)) .ret) Q env w := rfl
def h6_8 : HC := (.seq (.br (.chk none (.bin .neq) (.cons (.inp 7) (.cons (.cst (.int .i64 0)) .nil)) (.done [] (some (.op (.bin .neq) (.cons (.inp 7) (.cons (.cst (.int .i64 0)) .nil)))))) h6_7 .skip) h6_6)
@[simp] theorem h6_8_wp {P : Program} {F : PF P} {Q : EX → List Value → World → Prop} {env : List Value} {w : World} : h6_8.wp F Q env w = HC.wp F (.seq (.br (.chk none (.bin .neq) (.cons (.inp 7) (.cons (.cst (.int .i64 0)) .nil)) (.done [] (some (.op (.bin .neq) (.cons (.inp 7) (.cons (.cst (.int .i64 0)) .nil)))))) h6_7 .skip) h6_6) Q env w := rfl
def h6_9 : HC := (.seq (.reg (.chk none (.fld 0) (.cons (.inp 6) .nil) (.eff (.ld false 1) (.cons (.op (.fld 0) (.cons (.inp 6) .nil)) .nil) (.eff (.call 31) (.cons (.inp 5) (.cons (.bv 0) .nil)) (.chk none (.ext 0) (.cons (.bv 1) .nil) (.chk none (.ext 1) (.cons (.bv 1) .nil) (.done [(7, (.op (.ext 1) (.cons (.bv 1) .nil)))] none))))))) h6_8)
@[simp] theorem h6_9_wp {P : Program} {F : PF P} {Q : EX → List Value → World → Prop} {env : List Value} {w : World} : h6_9.wp F Q env w = HC.wp F (.seq (.reg (.chk none (.fld 0) (.cons (.inp 6) .nil) (.eff (.ld false 1) (.cons (.op (.fld 0) (.cons (.inp 6) .nil)) .nil) (.eff (.call 31) (.cons (.inp 5) (.cons (.bv 0) .nil)) (.chk none (.ext 0) (.cons (.bv 1) .nil) (.chk none (.ext 1) (.cons (.bv 1) .nil) (.done [(7, (.op (.ext 1) (.cons (.bv 1) .nil)))] none))))))) h6_8) Q env w := rfl
def h6_10 : HC := (.seq (.reg (.chk none (.idxL 2) (.cons (.inp 10) (.cons (.inp 12) .nil)) (.eff (.ld true 2) (.cons (.op (.idxL 2) (.cons (.inp 10) (.cons (.inp 12) .nil))) .nil) (.eff (.new 58 (.agg #[(.string ⟨#[]⟩), (.int .u64 0)])) .nil (.eff (.st 2) (.cons (.bv 1) (.cons (.bv 0) .nil)) (.done [(6, (.bv 1))] none)))))) h6_9)
@[simp] theorem h6_10_wp {P : Program} {F : PF P} {Q : EX → List Value → World → Prop} {env : List Value} {w : World} : h6_10.wp F Q env w = HC.wp F (.seq (.reg (.chk none (.idxL 2) (.cons (.inp 10) (.cons (.inp 12) .nil)) (.eff (.ld true 2) (.cons (.op (.idxL 2) (.cons (.inp 10) (.cons (.inp 12) .nil))) .nil) (.eff (.new 58 (.agg #[(.string ⟨#[]⟩), (.int .u64 0)])) .nil (.eff (.st 2) (.cons (.bv 1) (.cons (.bv 0) .nil)) (.done [(6, (.bv 1))] none)))))) h6_9) Q env w := rfl
def h6_11 : HC := (.seq (.block 2 h6_10) h6_1)
@[simp] theorem h6_11_wp {P : Program} {F : PF P} {Q : EX → List Value → World → Prop} {env : List Value} {w : World} : h6_11.wp F Q env w = HC.wp F (.seq (.block 2 h6_10) h6_1) Q env w := rfl
def h6_12 : HC := (.seq (.br (.chk none (.bin .lss) (.cons (.inp 12) (.cons (.inp 11) .nil)) (.done [] (some (.op (.bin .lss) (.cons (.inp 12) (.cons (.inp 11) .nil)))))) .skip (.exit 1)) h6_11)
@[simp] theorem h6_12_wp {P : Program} {F : PF P} {Q : EX → List Value → World → Prop} {env : List Value} {w : World} : h6_12.wp F Q env w = HC.wp F (.seq (.br (.chk none (.bin .lss) (.cons (.inp 12) (.cons (.inp 11) .nil)) (.done [] (some (.op (.bin .lss) (.cons (.inp 12) (.cons (.inp 11) .nil)))))) .skip (.exit 1)) h6_11) Q env w := rfl
def h6_13 : HC := (.loop h6_12)
@[simp] theorem h6_13_wp {P : Program} {F : PF P} {Q : EX → List Value → World → Prop} {env : List Value} {w : World} : h6_13.wp F Q env w = HC.wp F (.loop h6_12) Q env w := rfl
def h6_14 : HC := (.seq (.block 1 h6_13) h6_0)
@[simp] theorem h6_14_wp {P : Program} {F : PF P} {Q : EX → List Value → World → Prop} {env : List Value} {w : World} : h6_14.wp F Q env w = HC.wp F (.seq (.block 1 h6_13) h6_0) Q env w := rfl
def h6_15 : HC := (.seq (.reg (.chk none .lenL (.cons (.inp 1) .nil) (.done [(10, (.inp 1)), (11, (.op .lenL (.cons (.inp 1) .nil))), (12, (.cst (.int .i64 0)))] none))) h6_14)
@[simp] theorem h6_15_wp {P : Program} {F : PF P} {Q : EX → List Value → World → Prop} {env : List Value} {w : World} : h6_15.wp F Q env w = HC.wp F (.seq (.reg (.chk none .lenL (.cons (.inp 1) .nil) (.done [(10, (.inp 1)), (11, (.op .lenL (.cons (.inp 1) .nil))), (12, (.cst (.int .i64 0)))] none))) h6_14) Q env w := rfl
def h6_16 : HC := (.seq (.reg (.eff (.mkm 77 false) .nil (.chk none (.build #[(.map none)] [(0, 1)] [0]) (.cons (.bv 0) .nil) (.chk none (.build #[(.map none), (.int .i64 0), (.slice none 0 0), (.int .u64 0), (.int .u64 0)] [(0, 1), (1, 1), (2, 1), (3, 1), (4, 1)] [0, 1, 3, 4]) (.cons (.op (.build #[(.map none)] [(0, 1)] [0]) (.cons (.bv 0) .nil)) (.cons (.inp 0) (.cons (.inp 2) (.cons (.inp 2) .nil)))) (.eff (.box 81) (.cons (.op (.build #[(.map none), (.int .i64 0), (.slice none 0 0), (.int .u64 0), (.int .u64 0)] [(0, 1), (1, 1), (2, 1), (3, 1), (4, 1)] [0, 1, 3, 4]) (.cons (.op (.build #[(.map none)] [(0, 1)] [0]) (.cons (.bv 0) .nil)) (.cons (.inp 0) (.cons (.inp 2) (.cons (.inp 2) .nil))))) .nil) (.done [(5, (.bv 1))] none)))))) h6_15)
@[simp] theorem h6_16_wp {P : Program} {F : PF P} {Q : EX → List Value → World → Prop} {env : List Value} {w : World} : h6_16.wp F Q env w = HC.wp F (.seq (.reg (.eff (.mkm 77 false) .nil (.chk none (.build #[(.map none)] [(0, 1)] [0]) (.cons (.bv 0) .nil) (.chk none (.build #[(.map none), (.int .i64 0), (.slice none 0 0), (.int .u64 0), (.int .u64 0)] [(0, 1), (1, 1), (2, 1), (3, 1), (4, 1)] [0, 1, 3, 4]) (.cons (.op (.build #[(.map none)] [(0, 1)] [0]) (.cons (.bv 0) .nil)) (.cons (.inp 0) (.cons (.inp 2) (.cons (.inp 2) .nil)))) (.eff (.box 81) (.cons (.op (.build #[(.map none), (.int .i64 0), (.slice none 0 0), (.int .u64 0), (.int .u64 0)] [(0, 1), (1, 1), (2, 1), (3, 1), (4, 1)] [0, 1, 3, 4]) (.cons (.op (.build #[(.map none)] [(0, 1)] [0]) (.cons (.bv 0) .nil)) (.cons (.inp 0) (.cons (.inp 2) (.cons (.inp 2) .nil))))) .nil) (.done [(5, (.bv 1))] none)))))) h6_15) Q env w := rfl
def h6_17 : HC := (.seq (.reg (.done [(3, (.cst (.pointer none))), (4, (.cst (.int .i64 2)))] none)) .ret)
@[simp] theorem h6_17_wp {P : Program} {F : PF P} {Q : EX → List Value → World → Prop} {env : List Value} {w : World} : h6_17.wp F Q env w = HC.wp F (.seq (.reg (.done [(3, (.cst (.pointer none))), (4, (.cst (.int .i64 2)))] none)) .ret) Q env w := rfl
def h6_18 : HC := (.seq (.reg (.done [(3, (.cst (.pointer none))), (4, (.cst (.int .i64 144)))] none)) .ret)
@[simp] theorem h6_18_wp {P : Program} {F : PF P} {Q : EX → List Value → World → Prop} {env : List Value} {w : World} : h6_18.wp F Q env w = HC.wp F (.seq (.reg (.done [(3, (.cst (.pointer none))), (4, (.cst (.int .i64 144)))] none)) .ret) Q env w := rfl
def h6_19 : HC := (.seq (.reg (.done [(3, (.cst (.pointer none))), (4, (.cst (.int .i64 141)))] none)) .ret)
@[simp] theorem h6_19_wp {P : Program} {F : PF P} {Q : EX → List Value → World → Prop} {env : List Value} {w : World} : h6_19.wp F Q env w = HC.wp F (.seq (.reg (.done [(3, (.cst (.pointer none))), (4, (.cst (.int .i64 141)))] none)) .ret) Q env w := rfl
def h6_20 : HC := (.seq (.reg (.done [(3, (.cst (.pointer none))), (4, (.cst (.int .i64 142)))] none)) .ret)
@[simp] theorem h6_20_wp {P : Program} {F : PF P} {Q : EX → List Value → World → Prop} {env : List Value} {w : World} : h6_20.wp F Q env w = HC.wp F (.seq (.reg (.done [(3, (.cst (.pointer none))), (4, (.cst (.int .i64 142)))] none)) .ret) Q env w := rfl
def h6_21 : HC := (.br (.chk none .lenL (.cons (.inp 1) .nil) (.chk none (.bin .eql) (.cons (.op .lenL (.cons (.inp 1) .nil)) (.cons (.cst (.int .i64 0)) .nil)) (.bnd (.op (.bin .eql) (.cons (.op .lenL (.cons (.inp 1) .nil)) (.cons (.cst (.int .i64 0)) .nil))) (.chk (some ((.bv 0), false)) (.idxL 2) (.cons (.inp 1) (.cons (.cst (.int .i64 0)) .nil)) (.chk (some ((.bv 0), false)) (.fld 0) (.cons (.op (.idxL 2) (.cons (.inp 1) (.cons (.cst (.int .i64 0)) .nil))) .nil) (.ite (.bv 0) false (.eff (.ld false 1) (.cons (.ite (.bv 0) false (.op (.fld 0) (.cons (.op (.idxL 2) (.cons (.inp 1) (.cons (.cst (.int .i64 0)) .nil))) .nil)) (.cst (.tuple #[]))) .nil) (.chk none (.bin .neq) (.cons (.bv 1) (.cons (.cst (.string ⟨#[98, 97, 110, 107]⟩)) .nil)) (.isb none (.bv 0) (.done [] (some (.op (.bin .neq) (.cons (.bv 1) (.cons (.cst (.string ⟨#[98, 97, 110, 107]⟩)) .nil)))))))) (.isb none (.bv 0) (.done [] (some (.cst (.bool true))))))))))) h6_20 .skip)
@[simp] theorem h6_21_wp {P : Program} {F : PF P} {Q : EX → List Value → World → Prop} {env : List Value} {w : World} : h6_21.wp F Q env w = HC.wp F (.br (.chk none .lenL (.cons (.inp 1) .nil) (.chk none (.bin .eql) (.cons (.op .lenL (.cons (.inp 1) .nil)) (.cons (.cst (.int .i64 0)) .nil)) (.bnd (.op (.bin .eql) (.cons (.op .lenL (.cons (.inp 1) .nil)) (.cons (.cst (.int .i64 0)) .nil))) (.chk (some ((.bv 0), false)) (.idxL 2) (.cons (.inp 1) (.cons (.cst (.int .i64 0)) .nil)) (.chk (some ((.bv 0), false)) (.fld 0) (.cons (.op (.idxL 2) (.cons (.inp 1) (.cons (.cst (.int .i64 0)) .nil))) .nil) (.ite (.bv 0) false (.eff (.ld false 1) (.cons (.ite (.bv 0) false (.op (.fld 0) (.cons (.op (.idxL 2) (.cons (.inp 1) (.cons (.cst (.int .i64 0)) .nil))) .nil)) (.cst (.tuple #[]))) .nil) (.chk none (.bin .neq) (.cons (.bv 1) (.cons (.cst (.string ⟨#[98, 97, 110, 107]⟩)) .nil)) (.isb none (.bv 0) (.done [] (some (.op (.bin .neq) (.cons (.bv 1) (.cons (.cst (.string ⟨#[98, 97, 110, 107]⟩)) .nil)))))))) (.isb none (.bv 0) (.done [] (some (.cst (.bool true))))))))))) h6_20 .skip) Q env w := rfl
def h6_22 : HC := (.br (.chk none .lenL (.cons (.inp 1) .nil) (.chk none (.bin .gtr) (.cons (.op .lenL (.cons (.inp 1) .nil)) (.cons (.inp 0) .nil)) (.done [] (some (.op (.bin .gtr) (.cons (.op .lenL (.cons (.inp 1) .nil)) (.cons (.inp 0) .nil))))))) h6_19 h6_21)
@[simp] theorem h6_22_wp {P : Program} {F : PF P} {Q : EX → List Value → World → Prop} {env : List Value} {w : World} : h6_22.wp F Q env w = HC.wp F (.br (.chk none .lenL (.cons (.inp 1) .nil) (.chk none (.bin .gtr) (.cons (.op .lenL (.cons (.inp 1) .nil)) (.cons (.inp 0) .nil)) (.done [] (some (.op (.bin .gtr) (.cons (.op .lenL (.cons (.inp 1) .nil)) (.cons (.inp 0) .nil))))))) h6_19 h6_21) Q env w := rfl
def h6_23 : HC := (.br (.chk none (.bin .gtr) (.cons (.inp 2) (.cons (.cst (.int .u64 4611686018427387904)) .nil)) (.done [] (some (.op (.bin .gtr) (.cons (.inp 2) (.cons (.cst (.int .u64 4611686018427387904)) .nil)))))) h6_18 h6_22)
@[simp] theorem h6_23_wp {P : Program} {F : PF P} {Q : EX → List Value → World → Prop} {env : List Value} {w : World} : h6_23.wp F Q env w = HC.wp F (.br (.chk none (.bin .gtr) (.cons (.inp 2) (.cons (.cst (.int .u64 4611686018427387904)) .nil)) (.done [] (some (.op (.bin .gtr) (.cons (.inp 2) (.cons (.cst (.int .u64 4611686018427387904)) .nil)))))) h6_18 h6_22) Q env w := rfl
def h6_24 : HC := (.br (.chk none (.bin .lss) (.cons (.inp 0) (.cons (.cst (.int .i64 1)) .nil)) (.bnd (.op (.bin .lss) (.cons (.inp 0) (.cons (.cst (.int .i64 1)) .nil))) (.chk (some ((.bv 0), false)) (.bin .gtr) (.cons (.inp 0) (.cons (.cst (.int .i64 64)) .nil)) (.isb none (.bv 0) (.done [] (some (.ite (.bv 0) true (.cst (.bool true)) (.op (.bin .gtr) (.cons (.inp 0) (.cons (.cst (.int .i64 64)) .nil)))))))))) h6_17 h6_23)
@[simp] theorem h6_24_wp {P : Program} {F : PF P} {Q : EX → List Value → World → Prop} {env : List Value} {w : World} : h6_24.wp F Q env w = HC.wp F (.br (.chk none (.bin .lss) (.cons (.inp 0) (.cons (.cst (.int .i64 1)) .nil)) (.bnd (.op (.bin .lss) (.cons (.inp 0) (.cons (.cst (.int .i64 1)) .nil))) (.chk (some ((.bv 0), false)) (.bin .gtr) (.cons (.inp 0) (.cons (.cst (.int .i64 64)) .nil)) (.isb none (.bv 0) (.done [] (some (.ite (.bv 0) true (.cst (.bool true)) (.op (.bin .gtr) (.cons (.inp 0) (.cons (.cst (.int .i64 64)) .nil)))))))))) h6_17 h6_23) Q env w := rfl
def h6_25 : HC := (.seq (.block 0 h6_24) h6_16)
@[simp] theorem h6_25_wp {P : Program} {F : PF P} {Q : EX → List Value → World → Prop} {env : List Value} {w : World} : h6_25.wp F Q env w = HC.wp F (.seq (.block 0 h6_24) h6_16) Q env w := rfl
def l6 : Lifted := ⟨[0, 1, 2, 6, 7, 8, 10, 12, 13, 14, 48, 49, 50], 96, [.slot 3, .slot 4], (.seq (.reg (.done [(3, (.cst (.pointer none))), (4, (.cst (.int .i64 0)))] none)) h6_25)⟩
theorem l6_ok : liftFn U0 6 400 = some l6 := by kernel_rfl

-- bazaar/purse.New
def h72_0 : HC := (.seq (.reg (.chk none (.build #[(.string ⟨#[]⟩), (.int .u64 0)] [(0, 1), (1, 1)] [0]) (.cons (.cst (.string ⟨#[98, 97, 110, 107]⟩)) .nil) (.eff (.bsl 58 1 2 #[(.string ⟨#[]⟩), (.int .u64 0)] [0]) (.cons (.op (.build #[(.string ⟨#[]⟩), (.int .u64 0)] [(0, 1), (1, 1)] [0]) (.cons (.cst (.string ⟨#[98, 97, 110, 107]⟩)) .nil)) .nil) (.eff (.call 6) (.cons (.inp 0) (.cons (.bv 0) (.cons (.cst (.int .u64 0)) .nil))) (.chk none (.ext 0) (.cons (.bv 1) .nil) (.chk none (.ext 1) (.cons (.bv 1) .nil) (.done [(1, (.op (.ext 0) (.cons (.bv 1) .nil))), (2, (.op (.ext 1) (.cons (.bv 1) .nil)))] none))))))) .ret)
@[simp] theorem h72_0_wp {P : Program} {F : PF P} {Q : EX → List Value → World → Prop} {env : List Value} {w : World} : h72_0.wp F Q env w = HC.wp F (.seq (.reg (.chk none (.build #[(.string ⟨#[]⟩), (.int .u64 0)] [(0, 1), (1, 1)] [0]) (.cons (.cst (.string ⟨#[98, 97, 110, 107]⟩)) .nil) (.eff (.bsl 58 1 2 #[(.string ⟨#[]⟩), (.int .u64 0)] [0]) (.cons (.op (.build #[(.string ⟨#[]⟩), (.int .u64 0)] [(0, 1), (1, 1)] [0]) (.cons (.cst (.string ⟨#[98, 97, 110, 107]⟩)) .nil)) .nil) (.eff (.call 6) (.cons (.inp 0) (.cons (.bv 0) (.cons (.cst (.int .u64 0)) .nil))) (.chk none (.ext 0) (.cons (.bv 1) .nil) (.chk none (.ext 1) (.cons (.bv 1) .nil) (.done [(1, (.op (.ext 0) (.cons (.bv 1) .nil))), (2, (.op (.ext 1) (.cons (.bv 1) .nil)))] none))))))) .ret) Q env w := rfl
def l72 : Lifted := ⟨[0, 2, 3], 10, [.slot 1, .slot 2], (.seq (.reg (.done [(1, (.cst (.pointer none))), (2, (.cst (.int .i64 0)))] none)) h72_0)⟩
theorem l72_ok : liftFn U0 72 400 = some l72 := by kernel_rfl


def bankB : List UInt8 := [98, 97, 110, 107]
def stepE (P : Ps) (a : Ac) : Int := if (openF P a.name).2.1 = 0 then (if P.held < a.coins then 144 else 0) else (openF P a.name).2.1
def stepP (P : Ps) (a : Ac) : Ps := { P with held := P.held - a.coins, rows := P.rows ++ [a] }
def loadL (P : Ps) : List Ac → Int × Ps
  | [] => (0, P)
  | a :: l => if stepE P a = 0 then loadL (stepP P a) l else (stepE P a, P)
def loadF (lim : Int) (rows : List Ac) (sup : Int) : Int × Ps :=
  if 1 ≤ lim ∧ lim ≤ 64 then
    if 4611686018427387904 < sup then (144, ⟨0, [], 0, 0⟩)
    else if lim < rows.length then (141, ⟨0, [], 0, 0⟩)
    else if (rows.getD 0 ⟨[], 0⟩).name = bankB then loadL ⟨lim, [], sup, sup⟩ rows
    else (142, ⟨0, [], 0, 0⟩)
  else (2, ⟨0, [], 0, 0⟩)
theorem open_ok {P : Ps} {x : List UInt8} (h : (openF P x).2.1 = 0) : (openF P x).2.2 = { P with rows := P.rows ++ [⟨x, 0⟩] } ∧ askB (keyF x) (keys P.rows) = false ∧ (P.rows.length : Int) ≠ P.lim ∧ (checkF x).2 = 0 := by
  unfold openF at h ⊢
  split at h
  · rename_i h1
    rw [if_pos h1]
    split at h
    · cases h
    · rename_i h2
      rw [if_neg h2]
      split at h
      · cases h
      · rename_i h3
        rw [if_neg h3]
        exact ⟨rfl, by simpa using h2, h3, h1⟩
  · rename_i h1
    exact absurd h h1
theorem open_bad {P : Ps} {x : List UInt8} (h : (openF P x).2.1 ≠ 0) : (openF P x).2.2 = P := by
  unfold openF at h ⊢
  split
  · split
    · rfl
    · split
      · rfl
      · rename_i h1 h2 h3
        rw [if_pos h1, if_neg h2, if_neg h3] at h
        exact absurd rfl h
  · rfl
def cls1 (X Y : World → Prop) : List Value → World → Prop
  | [], w => X w
  | _ :: _, w => Y w
@[simp] theorem cls1_nil (X Y : World → Prop) (w : World) : cls1 X Y [] w = X w := rfl
@[simp] theorem cls1_cons (X Y : World → Prop) (v : Value) (l : List Value) (w : World) : cls1 X Y (v :: l) w = Y w := rfl
theorem cls1_low {X Y : World → Prop} {R : Prop} {vs : List Value} {w : World} (h1 : X w → R) (h2 : Y w → R) (h : cls1 X Y vs w) : R := by
  cases vs with
  | nil => exact h1 h
  | cons _ _ => exact h2 h
theorem setC_last (l : List Ac) (x : List UInt8) (c : Int) : setC (l ++ [⟨x, 0⟩]) l.length c = l ++ [⟨x, c⟩] := by
  simp [setC]
theorem load_rest (lim : Int) (rows : List Ac) (sup : Int) (ra : Option Addr) (rcap : Nat) (w0 w : World) (A : Asn) (hl : rows.length ≤ 64) (hsup : 0 ≤ sup ∧ sup ≤ 4611686018427387904) (hn : ∀ x ∈ rows, x.name.length ≤ 1048576) (hc : ∀ x ∈ rows, 0 ≤ x.coins ∧ x.coins < 18446744073709551616)
    (hrow : Row w0 A (.slice ra rows.length rcap) rows.length 2 (flat rows)) (s : St w0 A w) :
    HC.wp U0 h6_16 (endQ Tryz.prog [RV.slot 3, RV.slot 4] fun r w' => if (loadL ⟨lim, [], sup, sup⟩ rows).1 = 0 then ∃ q, r = .tuple #[.pointer (some ⟨q, 0, none⟩), .int .i64 0] ∧ St w0 (A * pur q (loadL ⟨lim, [], sup, sup⟩ rows).2) w' else r = .tuple #[.pointer none, .int .i64 (loadL ⟨lim, [], sup, sup⟩ rows).1] ∧ St w0 A w')
      [.int .i64 lim, .slice ra rows.length rcap, .int .u64 sup, .pointer none, .int .i64 0, undef, undef, undef, undef, undef, undef, undef, undef] w := by
  simp
  refine eff_mkm s ?_
  intro m w1 s1
  simp [Instr.fill, Value.cells]
  refine eff_box s1 ?_
  intro p w2 s2
  simp
  have s3 : St w0 (A * pur p ⟨lim, [], sup, sup⟩) w2 := pclose (m := m) (v := .slice none 0 0) (P := ⟨lim, [], sup, sup⟩) (St.own_nil (s2.to (by ac_rfl)) _ _)
  clear s s1 s2
  generalize hP0 : (⟨lim, [], sup, sup⟩ : Ps) = P0 at *
  refine loopI (fun env w' => ∃ (i : Nat) (P : Ps) (o6 o7 o8 o9 : Value), env = [.int .i64 lim, .slice ra rows.length rcap, .int .u64 sup, .pointer none, .int .i64 0, .pointer (some ⟨p, 0, none⟩), o6, o7, o8, o9, .slice ra rows.length rcap, .int .i64 rows.length, .int .i64 i] ∧ i ≤ rows.length ∧
      loadL P0 rows = loadL P (rows.drop i) ∧ P.rows = rows.take i ∧ P.lim = lim ∧ P.sup = sup ∧ 0 ≤ P.held ∧ P.held ≤ sup ∧ St w0 (A * pur p P) w')
    (fun env _ => rows.length - slotN env 12) ⟨0, P0, _, _, _, _, rfl, by omega, rfl, by rw [← hP0]; rfl, by rw [← hP0], by rw [← hP0], by rw [← hP0]; exact hsup.1, by rw [← hP0]; exact Int.le_refl _, s3⟩ ?_
  clear s3
  rintro LQ env w' ⟨i, P, o6, o7, o8, o9, rfl, hi, hL, hPr, hPl, hPs, hh0, hh1, s⟩ hN hE hR
  simp
  refine cndI (fun h => ?_) (fun h => ?_)
  · simp at h
    have h : i < rows.length := by omega
    obtain ⟨g, o, gcap, hv, hcell⟩ := hrow.at (by omega)
    cases hv
    have hPlen : P.rows.length = i := by rw [hPr, List.length_take]; omega
    have hmem : rows[i] ∈ rows := List.getElem_mem h
    have hdrop : rows.drop i = rows[i] :: rows.drop (i + 1) := List.drop_eq_getElem_cons h
    have htk : rows.take (i + 1) = rows.take i ++ [rows[i]] := List.take_succ_eq_append_getElem h
    rw [hdrop] at hL
    have hna := hn _ hmem
    have hca := hc _ hmem
    obtain ⟨a, ha⟩ : ∃ a, rows[i] = a := ⟨_, rfl⟩
    rw [ha] at hmem hdrop htk hna hca hL
    simp [h]
    refine eff_ldcs (vs := a.cs) (fun j u hu => by rw [Nat.add_assoc]; exact hcell _ s.drop _ _ (flat_at h j u (by rw [ha]; exact hu))) rfl ?_
    simp
    refine eff_new s ?_
    intro b w3 s1
    simp
    refine eff_stA (vs := a.cs) s1 rfl rfl (cs_one _) (by simp) ?_
    intro w4 s2
    have s2 : St w0 (A * pur p P * pt b (.cells a.cs.toArray 58 (0, 0))) w4 := by simpa using s2
    simp
    refine eff_ldc (v := .string (mk a.name)) (by rw [cell_of s2.look]; rfl) ?_
    simp
    refine eff_call ((Open_spec p P a.name w0 w4 (A * pt b (.cells a.cs.toArray 58 (0, 0))) hna (by omega) (s2.to (by ac_rfl))).mono ?_)
    rintro r w5 ⟨rfl, s3⟩
    simp
    refine cndI (fun h1 => ?_) (fun h1 => ?_)
    · simp at h1
      have hse : stepE P a = (openF P a.name).2.1 := by unfold stepE; rw [if_neg h1]
      have hLL : loadL P0 rows = (stepE P a, P) := by rw [hL, loadL, if_neg (by rw [hse]; exact h1)]
      simp
      refine hR _ _ ?_
      simp
      rw [hLL, hse]
      simp [h1]
      rw [open_bad h1] at s3
      exact s3.drop.drop
    simp at h1
    obtain ⟨ho, hask, hlen, hchk⟩ := open_ok h1
    rw [ho] at s3
    simp
    obtain ⟨m2, v2, s4⟩ := popen s3
    clear s3
    generalize hB : (A * pt b (.cells a.cs.toArray 58 (0, 0)) * pt4 p { P with rows := P.rows ++ [⟨a.name, 0⟩] } m2 v2 * mpt m2 (P.rows ++ [(⟨a.name, 0⟩ : Ac)]) * own 58 2 v2 (P.rows ++ [(⟨a.name, 0⟩ : Ac)]).length (flat (P.rows ++ [(⟨a.name, 0⟩ : Ac)]))) = B
    have sB : St w0 B w5 := hB ▸ s4
    have hpc : ∀ {w}, St w0 B w → w.cell? ⟨p, 4, none⟩ = some (.int .u64 P.held) := fun h => by rw [← hB] at h; rw [cell_of h.drop.drop.look]; rfl
    have hbc : ∀ {w}, St w0 B w → w.cell? ⟨b, 1, none⟩ = some (.int .u64 a.coins) := fun h => by rw [← hB] at h; rw [cell_of h.drop.drop.drop.look]; rfl
    refine regmI (fun vs w => match vs with
      | [] => St w0 B w
      | r :: _ => r = .tuple #[.int .u64 (if P.held < a.coins then 0 else P.held - a.coins), .int .i64 (if P.held < a.coins then 11 else 0)] ∧ St w0 B w) sB.drew ?_
    simp
    refine effm_ldc (v := .int .u64 P.held) (fun vs' w he hw => ?_) ?_
    · match vs', hw with
      | [], hw => exact hpc hw
      | _ :: _, hw => exact hpc hw.2
    simp
    refine effm_ldc (v := .int .u64 a.coins) (fun vs' w he hw => ?_) ?_
    · match vs', hw with
      | [], hw => exact hbc hw
      | _ :: _, hw => exact hbc hw.2
    simp
    refine effm_mv rfl (fun w hw => eff_call ((take_spec P.held a.coins w (by omega) (by omega)).mono fun r w' h => ?_)) (fun r hr => ?_)
    · obtain ⟨rfl, rfl⟩ := h; exact ⟨rfl, hw⟩
    obtain ⟨_, rfl, _⟩ := hr
    simp
    intro w6 s6
    refine cndI (fun h2 => ?_) (fun h2 => ?_)
    · simp at h2
      have hse : stepE P a = 144 := by unfold stepE; rw [if_pos h1, if_pos h2]
      have hLL : loadL P0 rows = (stepE P a, P) := by rw [hL, loadL, if_neg (by rw [hse]; decide)]
      simp
      refine hR _ _ ?_
      simp
      rw [hLL, hse]
      simp
      rw [← hB] at s6
      exact s6.drop.drop.drop.drop
    simp at h2
    simp
    rw [if_neg (by omega)]
    rw [← hB] at s6
    refine eff_st1 (s6.to (B := A * pt b (.cells a.cs.toArray 58 (0, 0)) * mpt m2 (P.rows ++ [(⟨a.name, 0⟩ : Ac)]) * own 58 2 v2 (P.rows ++ [(⟨a.name, 0⟩ : Ac)]).length (flat (P.rows ++ [(⟨a.name, 0⟩ : Ac)])) * pt4 p { P with rows := P.rows ++ [⟨a.name, 0⟩] } m2 v2) (by ac_rfl)) rfl (by simp) ?_
    intro w7 s7
    simp only [List.setIfInBounds_toArray, List.set_cons_succ, List.set_cons_zero] at s7
    simp
    obtain ⟨g2, cap2, hv, _, _⟩ := s4.own_at (by simp)
    subst hv
    have hPl1 : (P.rows ++ [(⟨a.name, 0⟩ : Ac)]).length = i + 1 := by simp [hPlen]
    have s8 : St w0 (A * pt b (.cells a.cs.toArray 58 (0, 0)) * mpt m2 (P.rows ++ [(⟨a.name, 0⟩ : Ac)]) * pt4 p { P with held := P.held - a.coins } m2 (.slice (some ⟨g2, 0, none⟩) (P.rows ++ [(⟨a.name, 0⟩ : Ac)]).length cap2) * own 58 2 (.slice (some ⟨g2, 0, none⟩) (P.rows ++ [(⟨a.name, 0⟩ : Ac)]).length cap2) (P.rows ++ [(⟨a.name, 0⟩ : Ac)]).length (flat (P.rows ++ [(⟨a.name, 0⟩ : Ac)]))) w7 := s7.swap
    clear s7 s6
    have hii : i < (P.rows ++ [(⟨a.name, 0⟩ : Ac)]).length := by omega
    have hst : setC (P.rows ++ [(⟨a.name, 0⟩ : Ac)]) i a.coins = P.rows ++ [a] := by rw [← hPlen]; exact setC_last _ _ _
    have hfl := flat_len (P.rows ++ [(⟨a.name, 0⟩ : Ac)])
    generalize hC0 : (A * pt b (.cells a.cs.toArray 58 (0, 0)) * mpt m2 (P.rows ++ [(⟨a.name, 0⟩ : Ac)]) * pt4 p { P with held := P.held - a.coins } m2 (.slice (some ⟨g2, 0, none⟩) (P.rows ++ [(⟨a.name, 0⟩ : Ac)]).length cap2)) = C0 at s8
    have hpc : ∀ {w}, St w0 C0 w → w.cell? ⟨p, 2, none⟩ = some (.slice (some ⟨g2, 0, none⟩) (i + 1) cap2) := fun h => by rw [← hC0] at h; rw [cell_of h.look, ← hPl1]; rfl
    have hbc : ∀ {w}, St w0 C0 w → w.cell? ⟨b, 1, none⟩ = some (.int .u64 a.coins) := fun h => by rw [← hC0] at h; rw [cell_of h.drop.drop.look]; rfl
    refine regmI (cls1 (St w0 (C0 * own 58 2 (.slice (some ⟨g2, 0, none⟩) (P.rows ++ [(⟨a.name, 0⟩ : Ac)]).length cap2) (P.rows ++ [(⟨a.name, 0⟩ : Ac)]).length (flat (P.rows ++ [(⟨a.name, 0⟩ : Ac)]))))
      (St w0 (C0 * own 58 2 (.slice (some ⟨g2, 0, none⟩) (P.rows ++ [(⟨a.name, 0⟩ : Ac)]).length cap2) (P.rows ++ [(⟨a.name, 0⟩ : Ac)]).length (flat (P.rows ++ [a]))))) s8.drew ?_
    simp
    refine effm_ldc (v := .slice (some ⟨g2, 0, none⟩) (i + 1) cap2) (fun vs' w he hw => cls1_low (fun h => hpc h.drop) (fun h => hpc h.drop) hw) ?_
    simp
    refine effm_ldc (v := .slice (some ⟨g2, 0, none⟩) (i + 1) cap2) (fun vs' w he hw => cls1_low (fun h => hpc h.drop) (fun h => hpc h.drop) hw) ?_
    simp
    try simp (disch := omega) only [wrap64]
    refine effm_ldc (v := .int .u64 a.coins) (fun vs' w he hw => cls1_low (fun h => hbc h.drop) (fun h => hbc h.drop) hw) ?_
    have hwi : IntKind.i64.wrap (i : Int) = i := wrap64 (by omega) (by omega)
    simp [hwi]
    refine ⟨by omega, ?_⟩
    refine effm_mv (by rfl) (fun w hw => ?_) (fun r hr => ?_)
    · rw [cls1_nil] at hw
      refine eff_stC (u := .int .u64 a.coins) hw (by rw [hfl, hPl1]; omega) rfl fun w' h => ?_
      rw [setC_at hii, hst] at h
      exact h
    simp
    intro w8 s9
    try simp (disch := omega) only [wrap64]
    have hse : stepE P a = 0 := by unfold stepE; rw [if_pos h1, if_neg (by omega)]
    refine hN _ _ ⟨i + 1, stepP P a, _, _, _, _, by simp; exact ⟨rfl, rfl, rfl, rfl⟩, by omega, ?_, ?_, hPl, hPs, ?_, ?_, ?_⟩ (by simp [slotN]; omega)
    · rw [hL, loadL, if_pos hse]
    · rw [htk, ← hPr]; rfl
    · show 0 ≤ P.held - a.coins; omega
    · show P.held - a.coins ≤ sup; omega
    · have e1 : (P.rows ++ [(⟨a.name, 0⟩ : Ac)]).length = (stepP P a).rows.length := by simp [stepP]
      have e2 : keys (P.rows ++ [(⟨a.name, 0⟩ : Ac)]) = keys (stepP P a).rows := by simp [stepP, keys]
      have e3 : P.rows.length + 1 = (stepP P a).rows.length := by simp [stepP]
      rw [← hC0, mpt, e2, e1, e3] at s9
      have s10 : St w0 (A * pt b (.cells a.cs.toArray 58 (0, 0)) * mpt m2 (stepP P a).rows * pt4 p { P with held := P.held - a.coins } m2 (.slice (some ⟨g2, 0, none⟩) (stepP P a).rows.length cap2) * own 58 2 (.slice (some ⟨g2, 0, none⟩) (stepP P a).rows.length cap2) (stepP P a).rows.length (flat (P.rows ++ [a]))) w8 := s9
      refine pclose (m := m2) (v := .slice (some ⟨g2, 0, none⟩) (stepP P a).rows.length cap2) ?_
      exact St.cut (pt b (.cells a.cs.toArray 58 (0, 0))) s10 (by show _ = A * pt4 p { P with held := P.held - a.coins } m2 (.slice (some ⟨g2, 0, none⟩) (stepP P a).rows.length cap2) * mpt m2 (stepP P a).rows * own 58 2 (.slice (some ⟨g2, 0, none⟩) (stepP P a).rows.length cap2) (stepP P a).rows.length (flat (P.rows ++ [a])) * _; ac_rfl)
  simp at h
  simp
  refine hE _ _ _ ?_
  simp
  have hie : i = rows.length := by omega
  rw [hie, List.drop_length] at hL
  have hLL : loadL P0 rows = (0, P) := hL
  rw [hLL]
  simp
  exact s
theorem Load_spec (lim : Int) (rows : List Ac) (sup : Int) (v : Value) (w0 w : World) (A : Asn) (hl : rows.length ≤ 1048576) (hsup : 0 ≤ sup ∧ sup < 18446744073709551616) (hn : ∀ x ∈ rows, x.name.length ≤ 1048576) (hc : ∀ x ∈ rows, 0 ≤ x.coins ∧ x.coins < 18446744073709551616)
    (hrow : Row w0 A v rows.length 2 (flat rows)) (s : St w0 A w) :
    CallW Tryz.prog 6 [.int .i64 lim, v, .int .u64 sup] (fun r w' => if (loadF lim rows sup).1 = 0 then ∃ q, r = .tuple #[.pointer (some ⟨q, 0, none⟩), .int .i64 0] ∧ St w0 (A * pur q (loadF lim rows sup).2) w' else r = .tuple #[.pointer none, .int .i64 (loadF lim rows sup).1] ∧ St w0 A w') w := by
  obtain ⟨ra, rcap, rfl⟩ := hrow.val
  refine callW_of_lift l6_ok (by simp [l6]) ?_
  simp [l6]
  refine cndI (fun h => ?_) (fun h => ?_)
  · simp at h
    have e : (loadF lim rows sup).1 = 2 := by unfold loadF; rw [if_neg (by omega)]
    simp [e]
    exact s
  simp at h
  simp
  refine cndI (fun h1 => ?_) (fun h1 => ?_)
  · simp at h1
    have e : (loadF lim rows sup).1 = 144 := by unfold loadF; rw [if_pos (by omega), if_pos h1]
    simp [e]
    exact s
  simp at h1
  simp
  refine cndI (fun h2 => ?_) (fun h2 => ?_)
  · simp at h2
    have e : (loadF lim rows sup).1 = 141 := by unfold loadF; rw [if_pos (by omega), if_neg (by omega), if_pos h2]
    simp [e]
    exact s
  simp at h2
  by_cases hnil : rows = []
  · subst hnil
    simp
    have e : (loadF lim [] sup).1 = 142 := by unfold loadF; rw [if_pos (by omega), if_neg (by omega), if_neg (by simpa using h2), if_neg (by decide)]
    simp [e]
    exact s
  have hpos : 0 < rows.length := List.length_pos_iff.2 hnil
  obtain ⟨g, o, gcap, hv, hcell⟩ := hrow.at hpos
  cases hv
  simp [hnil, hpos]
  refine eff_ldc (v := .string (mk rows[0].name)) (hcell w s 0 _ (flat_name hpos)) ?_
  simp
  refine cndI (fun h3 => ?_) (fun h3 => ?_)
  · simp at h3
    have hnb : (rows.getD 0 ⟨[], 0⟩).name ≠ bankB := by
      simpa [hpos, bankB] using h3
    have e : (loadF lim rows sup).1 = 142 := by unfold loadF; rw [if_pos (by omega), if_neg (by omega), if_neg (by omega), if_neg hnb]
    rw [e]
    simp
    exact s
  have hb : (rows.getD 0 ⟨[], 0⟩).name = bankB := by
    simpa [hpos, bankB] using h3
  have e : loadF lim rows sup = loadL ⟨lim, [], sup, sup⟩ rows := by unfold loadF; rw [if_pos (by omega), if_neg (by omega), if_neg (by omega), if_pos hb]
  rw [e]
  simp
  simpa using load_rest lim rows sup _ rcap w0 w A (by omega) (by omega) hn hc hrow s
theorem bank_ok : (checkF bankB).2 = 0 := by decide +kernel
theorem new_ok {lim : Int} (h : 1 ≤ lim ∧ lim ≤ 64) : loadF lim [⟨bankB, 0⟩] 0 = (0, ⟨lim, [⟨bankB, 0⟩], 0, 0⟩) := by
  unfold loadF
  rw [if_pos h, if_neg (by decide), if_neg (by simp; omega), if_pos (by rfl)]
  have ho : (openF ⟨lim, [], 0, 0⟩ bankB).2.1 = 0 := by
    unfold openF
    rw [if_pos bank_ok]
    have : askB (keyF bankB) (keys []) = false := rfl
    simp [this]
    rw [if_neg (by omega)]
  have hs : stepE ⟨lim, [], 0, 0⟩ ⟨bankB, 0⟩ = 0 := by
    unfold stepE
    rw [if_pos ho]; rfl
  rw [loadL, if_pos hs]
  rfl
theorem new_bad {lim : Int} (h : ¬ (1 ≤ lim ∧ lim ≤ 64)) : (loadF lim [⟨bankB, 0⟩] 0).1 = 2 := by
  unfold loadF; rw [if_neg h]
theorem New_spec (lim : Int) (w0 w : World) (A : Asn) (s : St w0 A w) :
    CallW Tryz.prog 72 [.int .i64 lim] (fun r w' => if 1 ≤ lim ∧ lim ≤ 64 then ∃ q, r = .tuple #[.pointer (some ⟨q, 0, none⟩), .int .i64 0] ∧ St w0 (A * pur q ⟨lim, [⟨bankB, 0⟩], 0, 0⟩) w' else r = .tuple #[.pointer none, .int .i64 2] ∧ St w0 A w') w := by
  refine callW_of_lift l72_ok (by simp [l72]) ?_
  simp [l72, Instr.fill, Value.cells]
  refine eff_bslV s rfl ?_
  intro c w1 s1
  simp
  have hrow : Row w0 (A * pt c (.cells (Ac.cs ⟨bankB, 0⟩).toArray 58 (0, 0))) (.slice (some ⟨c, 0, none⟩) 1 1) 1 2 (flat [⟨bankB, 0⟩]) :=
    ⟨rfl, _, _, rfl, Nat.le_refl _, .inr ⟨c, 0, rfl, fun w s j u hu => s.row_cells j u hu⟩⟩
  refine eff_call ((Load_spec lim [⟨bankB, 0⟩] 0 (.slice (some ⟨c, 0, none⟩) 1 1) w0 w1 _ (by decide) (by decide) (by simp [bankB]) (by simp) hrow s1).mono ?_)
  intro r w2 h2
  by_cases h : 1 ≤ lim ∧ lim ≤ 64
  · rw [new_ok h] at h2
    simp only [if_true] at h2
    obtain ⟨q, rfl, s2⟩ := h2
    simp [h]
    exact St.cut (pt c (.cells (Ac.cs ⟨bankB, 0⟩).toArray 58 (0, 0))) s2 (by ac_rfl)
  · have e := new_bad h
    rw [e] at h2
    simp only [if_neg (show ¬ (2 : Int) = 0 by decide)] at h2
    obtain ⟨rfl, s2⟩ := h2
    simp [h]
    exact s2.drop
end Go.HL.Pu

namespace Go.HL.Gd
open Go.HL Go.Proofs
set_option maxRecDepth 4000
set_option linter.unusedSimpArgs false
set_option linter.unusedVariables false
/-- an item -/
structure It where
  num : Int
  kind : Int
  acc : Int
  con : Int
deriving DecidableEq
def It.cs (x : It) : List Value := [.int .i64 x.num, .int .i64 x.kind, .int .i64 x.acc, .int .i64 x.con]
def flat (l : List It) : List Value := l.flatMap It.cs
theorem cs_len (x : It) : x.cs.length = 4 := rfl
theorem flat_len (l : List It) : (flat l).length = l.length * 4 := flat_length It.cs 4 cs_len l
theorem cs_one (x : It) : ∀ u ∈ x.cs, u.oneCell' = true := by
  intro u hu
  simp only [It.cs, List.mem_cons, List.not_mem_nil, or_false] at hu
  rcases hu with rfl | rfl | rfl | rfl <;> rfl
theorem flat_at {its : List It} {i : Nat} (h : i < its.length) : ∀ j u, (its[i].cs)[j]? = some u → (flat its)[i * 4 + j]? = some u := by
  intro j u hu
  have hj : j < 4 := (List.getElem?_eq_some_iff.1 hu).1
  rw [← hu]
  exact flat_get It.cs 4 cs_len its i j h hj
theorem flat_set2 {its : List It} {i : Nat} (h : i < its.length) (a c : Int) : ((flat its).set (i * 4 + 2) (.int .i64 a)).set (i * 4 + 3) (.int .i64 c) = flat (its.set i ⟨its[i].num, its[i].kind, a, c⟩) := by
  have e := flat_set It.cs 4 cs_len (⟨its[i].num, its[i].kind, a, c⟩ : It) its i h
  show _ = List.flatMap It.cs _
  rw [← e]
  have hl := flat_len its
  apply List.ext_getElem?
  intro k
  have hlen : i * 4 + 4 ≤ (its.flatMap It.cs).length := by
    have : (its.flatMap It.cs).length = its.length * 4 := flat_len its
    omega
  have tl : ((its.flatMap It.cs).take (i * 4)).length = i * 4 := by rw [List.length_take]; omega
  have hf : flat its = its.flatMap It.cs := rfl
  rw [hf]
  have c4 : (⟨its[i].num, its[i].kind, a, c⟩ : It).cs.length = 4 := rfl
  by_cases k1 : k < i * 4
  · rw [List.getElem?_set_ne (by omega), List.getElem?_set_ne (by omega), List.append_assoc, List.getElem?_append_left (by omega), List.getElem?_take, if_pos k1]
  by_cases k2 : k < i * 4 + 4
  · have g0 : ∀ j, j < 4 → (its.flatMap It.cs)[i * 4 + j]? = (its[i].cs)[j]? := fun j hj => flat_get It.cs 4 cs_len its i j h hj
    rw [List.append_assoc, List.getElem?_append_right (by omega), tl, List.getElem?_append_left (by rw [c4]; omega)]
    obtain ⟨j, rfl⟩ : ∃ j, k = i * 4 + j := ⟨k - i * 4, by omega⟩
    have hj : j < 4 := by omega
    rw [Nat.add_sub_cancel_left]
    have : j = 0 ∨ j = 1 ∨ j = 2 ∨ j = 3 := by omega
    rcases this with rfl | rfl | rfl | rfl
    · rw [List.getElem?_set_ne (by omega), List.getElem?_set_ne (by omega), g0 0 (by omega)]; rfl
    · rw [List.getElem?_set_ne (by omega), List.getElem?_set_ne (by omega), g0 1 (by omega)]; rfl
    · rw [List.getElem?_set_ne (by omega), List.getElem?_set_self (by omega)]; rfl
    · rw [List.getElem?_set_self (by rw [List.length_set]; omega)]; rfl
  · rw [List.getElem?_set_ne (by omega), List.getElem?_set_ne (by omega), List.append_assoc, List.getElem?_append_right (by omega), tl, List.getElem?_append_right (by rw [c4]; omega), List.getElem?_drop, c4]
    congr 1
    omega
/-- goods at p -/
def gds (p : Nat) (lim : Int) (its : List It) : Asn := fun h => ∃ v, (pt p (.cells #[.int .i64 lim, v] 92 (0, 0)) * own 88 4 v its.length (flat its)) h
theorem gopen {w0 w : World} {A : Asn} {p : Nat} {lim : Int} {its : List It} (s : St w0 (A * gds p lim its) w) :
    ∃ v, St w0 (A * pt p (.cells #[.int .i64 lim, v] 92 (0, 0)) * own 88 4 v its.length (flat its)) w := by
  obtain ⟨g, h1, h2, h3, d, e, a, v, b⟩ := s.holds
  refine ⟨v, ?_⟩
  rw [sep_assoc]
  exact s.of ⟨g, h1, h2, h3, d, e, a, b⟩
theorem gclose {w0 w : World} {A : Asn} {p : Nat} {lim : Int} {its : List It} {v : Value}
    (s : St w0 (A * pt p (.cells #[.int .i64 lim, v] 92 (0, 0)) * own 88 4 v its.length (flat its)) w) : St w0 (A * gds p lim its) w := by
  rw [sep_assoc] at s
  obtain ⟨g, h1, h2, h3, d, e, a, b⟩ := s.holds
  exact s.of ⟨g, h1, h2, h3, d, e, a, v, b⟩
noncomputable abbrev G0 : PF Tryz.prog := PF.none _
-- bazaar/goods.account
def h36_0 : HC := (.seq (.reg (.chk none (.bin .geq) (.cons (.inp 0) (.cons (.cst (.int .i64 0)) .nil)) (.bnd (.op (.bin .geq) (.cons (.inp 0) (.cons (.cst (.int .i64 0)) .nil))) (.chk (some ((.bv 0), true)) (.bin .lss) (.cons (.inp 0) (.cons (.cst (.int .i64 64)) .nil)) (.isb none (.bv 0) (.done [(1, (.ite (.bv 0) true (.op (.bin .lss) (.cons (.inp 0) (.cons (.cst (.int .i64 64)) .nil))) (.cst (.bool false))))] none)))))) .ret)
@[simp] theorem h36_0_wp {P : Program} {F : PF P} {Q : EX → List Value → World → Prop} {env : List Value} {w : World} : h36_0.wp F Q env w = HC.wp F (.seq (.reg (.chk none (.bin .geq) (.cons (.inp 0) (.cons (.cst (.int .i64 0)) .nil)) (.bnd (.op (.bin .geq) (.cons (.inp 0) (.cons (.cst (.int .i64 0)) .nil))) (.chk (some ((.bv 0), true)) (.bin .lss) (.cons (.inp 0) (.cons (.cst (.int .i64 64)) .nil)) (.isb none (.bv 0) (.done [(1, (.ite (.bv 0) true (.op (.bin .lss) (.cons (.inp 0) (.cons (.cst (.int .i64 64)) .nil))) (.cst (.bool false))))] none)))))) .ret) Q env w := rfl
def l36 : Lifted := ⟨[0, 2], 9, [.slot 1], (.seq (.reg (.done [(1, (.cst (.bool false)))] none)) h36_0)⟩
theorem l36_ok : liftFn G0 36 400 = some l36 := by kernel_rfl

-- bazaar/goods.kind
def h34_0 : HC := (.seq (.reg (.chk none (.bin .geq) (.cons (.inp 0) (.cons (.cst (.int .i64 0)) .nil)) (.bnd (.op (.bin .geq) (.cons (.inp 0) (.cons (.cst (.int .i64 0)) .nil))) (.chk (some ((.bv 0), true)) (.bin .lss) (.cons (.inp 0) (.cons (.cst (.int .i64 16)) .nil)) (.isb none (.bv 0) (.done [(1, (.ite (.bv 0) true (.op (.bin .lss) (.cons (.inp 0) (.cons (.cst (.int .i64 16)) .nil))) (.cst (.bool false))))] none)))))) .ret)
@[simp] theorem h34_0_wp {P : Program} {F : PF P} {Q : EX → List Value → World → Prop} {env : List Value} {w : World} : h34_0.wp F Q env w = HC.wp F (.seq (.reg (.chk none (.bin .geq) (.cons (.inp 0) (.cons (.cst (.int .i64 0)) .nil)) (.bnd (.op (.bin .geq) (.cons (.inp 0) (.cons (.cst (.int .i64 0)) .nil))) (.chk (some ((.bv 0), true)) (.bin .lss) (.cons (.inp 0) (.cons (.cst (.int .i64 16)) .nil)) (.isb none (.bv 0) (.done [(1, (.ite (.bv 0) true (.op (.bin .lss) (.cons (.inp 0) (.cons (.cst (.int .i64 16)) .nil))) (.cst (.bool false))))] none)))))) .ret) Q env w := rfl
def l34 : Lifted := ⟨[0, 2], 9, [.slot 1], (.seq (.reg (.done [(1, (.cst (.bool false)))] none)) h34_0)⟩
theorem l34_ok : liftFn G0 34 400 = some l34 := by kernel_rfl


def accF (a : Int) : Bool := decide (0 ≤ a) && decide (a < 64)
def kindF (a : Int) : Bool := decide (0 ≤ a) && decide (a < 16)
theorem account_spec (u : Int) (w : World) : CallW Tryz.prog 36 [.int .i64 u] (fun r w' => r = .bool (accF u) ∧ w' = w) w := by
  refine callW_of_lift l36_ok (by simp [l36]) ?_
  simp [l36, accF, condC_ite]
theorem kind_spec (u : Int) (w : World) : CallW Tryz.prog 34 [.int .i64 u] (fun r w' => r = .bool (kindF u) ∧ w' = w) w := by
  refine callW_of_lift l34_ok (by simp [l34]) ?_
  simp [l34, kindF, condC_ite]
/-- of one number, a number -/
def PS.ii {P : Program} (f : Nat) (k k' : IntKind) (g : Int → Int) (h : ∀ u w, CallW P f [.int k u] (fun r w' => r = .int k' (g u) ∧ w' = w) w) : PS P where
  f := f
  val args := match args with
    | [.int _ u] => .int k' (g u)
    | _ => undef
  ok args := match args with
    | [.int k' _] => k' = k
    | _ => False
  sound args w hok := by
    split at hok
    · subst hok; exact h _ w
    · exact hok.elim
def placeF (a n : Int) : Int := if a.tmod n < 0 then a.tmod n + n else a.tmod n
end Go.HL.Gd

namespace Go.HL.Gd
open Go.HL Go.Proofs
set_option maxRecDepth 4000
set_option linter.unusedSimpArgs false
set_option linter.unusedVariables false
noncomputable def accS : PS Tryz.prog := PS.ib 36 .i64 accF account_spec
noncomputable def kindS : PS Tryz.prog := PS.ib 34 .i64 kindF kind_spec
noncomputable abbrev G1 : PF Tryz.prog := PF.of [accS, kindS]
@[simp] theorem G1_a_val (args : List Value) : G1.val 36 args = accS.val args := rfl
@[simp] theorem G1_a_ok (args : List Value) : G1.ok 36 args = accS.ok args := rfl
@[simp] theorem G1_k_val (args : List Value) : G1.val 34 args = kindS.val args := rfl
@[simp] theorem G1_k_ok (args : List Value) : G1.ok 34 args = kindS.ok args := rfl
@[simp] theorem acc_val (u : Int) : accS.val [.int .i64 u] = .bool (accF u) := rfl
@[simp] theorem acc_ok (u : Int) : accS.ok [.int .i64 u] = (IntKind.i64 = .i64) := rfl
@[simp] theorem kind_val (u : Int) : kindS.val [.int .i64 u] = .bool (kindF u) := rfl
@[simp] theorem kind_ok (u : Int) : kindS.ok [.int .i64 u] = (IntKind.i64 = .i64) := rfl
-- (bazaar/goods.thing).held
def h35_0 : HC := (.seq (.reg (.chk none (.fld 0) (.cons (.inp 1) .nil) (.chk none (.fld 3) (.cons (.op (.fld 0) (.cons (.inp 1) .nil)) .nil) (.eff (.ld false 1) (.cons (.op (.fld 3) (.cons (.op (.fld 0) (.cons (.inp 1) .nil)) .nil)) .nil) (.chk none (.bin .gtr) (.cons (.bv 0) (.cons (.cst (.int .i64 0)) .nil)) (.done [(2, (.op (.bin .gtr) (.cons (.bv 0) (.cons (.cst (.int .i64 0)) .nil))))] none)))))) .ret)
@[simp] theorem h35_0_wp {P : Program} {F : PF P} {Q : EX → List Value → World → Prop} {env : List Value} {w : World} : h35_0.wp F Q env w = HC.wp F (.seq (.reg (.chk none (.fld 0) (.cons (.inp 1) .nil) (.chk none (.fld 3) (.cons (.op (.fld 0) (.cons (.inp 1) .nil)) .nil) (.eff (.ld false 1) (.cons (.op (.fld 3) (.cons (.op (.fld 0) (.cons (.inp 1) .nil)) .nil)) .nil) (.chk none (.bin .gtr) (.cons (.bv 0) (.cons (.cst (.int .i64 0)) .nil)) (.done [(2, (.op (.bin .gtr) (.cons (.bv 0) (.cons (.cst (.int .i64 0)) .nil))))] none)))))) .ret) Q env w := rfl
def l35 : Lifted := ⟨[0, 1, 2], 7, [.slot 2], (.seq (.reg (.eff (.box 88) (.cons (.inp 0) .nil) (.done [(1, (.bv 0)), (2, (.cst (.bool false)))] none))) h35_0)⟩
theorem l35_ok : liftFn G1 35 400 = some l35 := by kernel_rfl

-- bazaar/goods.New
def h33_0 : HC := (.seq (.reg (.chk none (.build #[(.int .i64 0), (.slice none 0 0)] [(0, 1), (1, 1)] [0]) (.cons (.inp 0) .nil) (.eff (.box 92) (.cons (.op (.build #[(.int .i64 0), (.slice none 0 0)] [(0, 1), (1, 1)] [0]) (.cons (.inp 0) .nil)) .nil) (.done [(1, (.bv 0)), (2, (.cst (.int .i64 0)))] none)))) .ret)
@[simp] theorem h33_0_wp {P : Program} {F : PF P} {Q : EX → List Value → World → Prop} {env : List Value} {w : World} : h33_0.wp F Q env w = HC.wp F (.seq (.reg (.chk none (.build #[(.int .i64 0), (.slice none 0 0)] [(0, 1), (1, 1)] [0]) (.cons (.inp 0) .nil) (.eff (.box 92) (.cons (.op (.build #[(.int .i64 0), (.slice none 0 0)] [(0, 1), (1, 1)] [0]) (.cons (.inp 0) .nil)) .nil) (.done [(1, (.bv 0)), (2, (.cst (.int .i64 0)))] none)))) .ret) Q env w := rfl
def h33_1 : HC := (.seq (.reg (.done [(1, (.cst (.pointer none))), (2, (.cst (.int .i64 2)))] none)) .ret)
@[simp] theorem h33_1_wp {P : Program} {F : PF P} {Q : EX → List Value → World → Prop} {env : List Value} {w : World} : h33_1.wp F Q env w = HC.wp F (.seq (.reg (.done [(1, (.cst (.pointer none))), (2, (.cst (.int .i64 2)))] none)) .ret) Q env w := rfl
def h33_2 : HC := (.seq (.br (.chk none (.bin .lss) (.cons (.inp 0) (.cons (.cst (.int .i64 0)) .nil)) (.bnd (.op (.bin .lss) (.cons (.inp 0) (.cons (.cst (.int .i64 0)) .nil))) (.chk (some ((.bv 0), false)) (.bin .gtr) (.cons (.inp 0) (.cons (.cst (.int .i64 512)) .nil)) (.isb none (.bv 0) (.done [] (some (.ite (.bv 0) true (.cst (.bool true)) (.op (.bin .gtr) (.cons (.inp 0) (.cons (.cst (.int .i64 512)) .nil)))))))))) h33_1 .skip) h33_0)
@[simp] theorem h33_2_wp {P : Program} {F : PF P} {Q : EX → List Value → World → Prop} {env : List Value} {w : World} : h33_2.wp F Q env w = HC.wp F (.seq (.br (.chk none (.bin .lss) (.cons (.inp 0) (.cons (.cst (.int .i64 0)) .nil)) (.bnd (.op (.bin .lss) (.cons (.inp 0) (.cons (.cst (.int .i64 0)) .nil))) (.chk (some ((.bv 0), false)) (.bin .gtr) (.cons (.inp 0) (.cons (.cst (.int .i64 512)) .nil)) (.isb none (.bv 0) (.done [] (some (.ite (.bv 0) true (.cst (.bool true)) (.op (.bin .gtr) (.cons (.inp 0) (.cons (.cst (.int .i64 512)) .nil)))))))))) h33_1 .skip) h33_0) Q env w := rfl
def l33 : Lifted := ⟨[0, 2, 3], 13, [.slot 1, .slot 2], (.seq (.reg (.done [(1, (.cst (.pointer none))), (2, (.cst (.int .i64 0)))] none)) h33_2)⟩
theorem l33_ok : liftFn G1 33 400 = some l33 := by kernel_rfl

-- (*bazaar/goods.Goods).Make
def h61_0 : HC := (.seq (.reg (.done [(3, (.inp 5)), (4, (.cst (.int .i64 0)))] none)) .ret)
@[simp] theorem h61_0_wp {P : Program} {F : PF P} {Q : EX → List Value → World → Prop} {env : List Value} {w : World} : h61_0.wp F Q env w = HC.wp F (.seq (.reg (.done [(3, (.inp 5)), (4, (.cst (.int .i64 0)))] none)) .ret) Q env w := rfl
def h61_1 : HC := (.seq (.reg (.chk none .chkp (.cons (.inp 0) .nil) (.chk none (.fld 1) (.cons (.op .chkp (.cons (.inp 0) .nil)) .nil) (.eff (.ld false 1) (.cons (.op (.fld 1) (.cons (.op .chkp (.cons (.inp 0) .nil)) .nil)) .nil) (.chk none (.build #[(.int .i64 0), (.int .i64 0), (.int .i64 0), (.int .i64 0)] [(0, 1), (1, 1), (2, 1), (3, 1)] [0, 1, 2]) (.cons (.inp 5) (.cons (.inp 1) (.cons (.inp 2) .nil))) (.chk none (.build #[(.int .i64 0), (.int .i64 0), (.int .i64 0), (.int .i64 0)] [(0, 4)] [0]) (.cons (.op (.build #[(.int .i64 0), (.int .i64 0), (.int .i64 0), (.int .i64 0)] [(0, 1), (1, 1), (2, 1), (3, 1)] [0, 1, 2]) (.cons (.inp 5) (.cons (.inp 1) (.cons (.inp 2) .nil)))) .nil) (.eff (.bsl 88 1 4 #[(.int .i64 0), (.int .i64 0), (.int .i64 0), (.int .i64 0)] [0]) (.cons (.op (.build #[(.int .i64 0), (.int .i64 0), (.int .i64 0), (.int .i64 0)] [(0, 4)] [0]) (.cons (.op (.build #[(.int .i64 0), (.int .i64 0), (.int .i64 0), (.int .i64 0)] [(0, 1), (1, 1), (2, 1), (3, 1)] [0, 1, 2]) (.cons (.inp 5) (.cons (.inp 1) (.cons (.inp 2) .nil)))) .nil)) .nil) (.eff (.app 90 90 88 4 32 (.agg #[(.int .i64 0), (.int .i64 0), (.int .i64 0), (.int .i64 0)])) (.cons (.bv 0) (.cons (.bv 1) .nil)) (.chk none .chkp (.cons (.inp 0) .nil) (.chk none (.fld 1) (.cons (.op .chkp (.cons (.inp 0) .nil)) .nil) (.eff (.st 1) (.cons (.op (.fld 1) (.cons (.op .chkp (.cons (.inp 0) .nil)) .nil)) (.cons (.bv 2) .nil)) (.done [] none)))))))))))) h61_0)
@[simp] theorem h61_1_wp {P : Program} {F : PF P} {Q : EX → List Value → World → Prop} {env : List Value} {w : World} : h61_1.wp F Q env w = HC.wp F (.seq (.reg (.chk none .chkp (.cons (.inp 0) .nil) (.chk none (.fld 1) (.cons (.op .chkp (.cons (.inp 0) .nil)) .nil) (.eff (.ld false 1) (.cons (.op (.fld 1) (.cons (.op .chkp (.cons (.inp 0) .nil)) .nil)) .nil) (.chk none (.build #[(.int .i64 0), (.int .i64 0), (.int .i64 0), (.int .i64 0)] [(0, 1), (1, 1), (2, 1), (3, 1)] [0, 1, 2]) (.cons (.inp 5) (.cons (.inp 1) (.cons (.inp 2) .nil))) (.chk none (.build #[(.int .i64 0), (.int .i64 0), (.int .i64 0), (.int .i64 0)] [(0, 4)] [0]) (.cons (.op (.build #[(.int .i64 0), (.int .i64 0), (.int .i64 0), (.int .i64 0)] [(0, 1), (1, 1), (2, 1), (3, 1)] [0, 1, 2]) (.cons (.inp 5) (.cons (.inp 1) (.cons (.inp 2) .nil)))) .nil) (.eff (.bsl 88 1 4 #[(.int .i64 0), (.int .i64 0), (.int .i64 0), (.int .i64 0)] [0]) (.cons (.op (.build #[(.int .i64 0), (.int .i64 0), (.int .i64 0), (.int .i64 0)] [(0, 4)] [0]) (.cons (.op (.build #[(.int .i64 0), (.int .i64 0), (.int .i64 0), (.int .i64 0)] [(0, 1), (1, 1), (2, 1), (3, 1)] [0, 1, 2]) (.cons (.inp 5) (.cons (.inp 1) (.cons (.inp 2) .nil)))) .nil)) .nil) (.eff (.app 90 90 88 4 32 (.agg #[(.int .i64 0), (.int .i64 0), (.int .i64 0), (.int .i64 0)])) (.cons (.bv 0) (.cons (.bv 1) .nil)) (.chk none .chkp (.cons (.inp 0) .nil) (.chk none (.fld 1) (.cons (.op .chkp (.cons (.inp 0) .nil)) .nil) (.eff (.st 1) (.cons (.op (.fld 1) (.cons (.op .chkp (.cons (.inp 0) .nil)) .nil)) (.cons (.bv 2) .nil)) (.done [] none)))))))))))) h61_0) Q env w := rfl
def h61_2 : HC := (.seq (.reg (.chk none .chkp (.cons (.inp 0) .nil) (.chk none (.fld 1) (.cons (.op .chkp (.cons (.inp 0) .nil)) .nil) (.eff (.ld false 1) (.cons (.op (.fld 1) (.cons (.op .chkp (.cons (.inp 0) .nil)) .nil)) .nil) (.chk none .lenL (.cons (.bv 0) .nil) (.chk none (.bin .add) (.cons (.op .lenL (.cons (.bv 0) .nil)) (.cons (.cst (.int .i64 1)) .nil)) (.done [(5, (.op (.bin .add) (.cons (.op .lenL (.cons (.bv 0) .nil)) (.cons (.cst (.int .i64 1)) .nil))))] none))))))) h61_1)
@[simp] theorem h61_2_wp {P : Program} {F : PF P} {Q : EX → List Value → World → Prop} {env : List Value} {w : World} : h61_2.wp F Q env w = HC.wp F (.seq (.reg (.chk none .chkp (.cons (.inp 0) .nil) (.chk none (.fld 1) (.cons (.op .chkp (.cons (.inp 0) .nil)) .nil) (.eff (.ld false 1) (.cons (.op (.fld 1) (.cons (.op .chkp (.cons (.inp 0) .nil)) .nil)) .nil) (.chk none .lenL (.cons (.bv 0) .nil) (.chk none (.bin .add) (.cons (.op .lenL (.cons (.bv 0) .nil)) (.cons (.cst (.int .i64 1)) .nil)) (.done [(5, (.op (.bin .add) (.cons (.op .lenL (.cons (.bv 0) .nil)) (.cons (.cst (.int .i64 1)) .nil))))] none))))))) h61_1) Q env w := rfl
def h61_3 : HC := (.seq (.reg (.done [(3, (.cst (.int .i64 0))), (4, (.cst (.int .i64 1)))] none)) .ret)
@[simp] theorem h61_3_wp {P : Program} {F : PF P} {Q : EX → List Value → World → Prop} {env : List Value} {w : World} : h61_3.wp F Q env w = HC.wp F (.seq (.reg (.done [(3, (.cst (.int .i64 0))), (4, (.cst (.int .i64 1)))] none)) .ret) Q env w := rfl
def h61_4 : HC := (.seq (.reg (.done [(3, (.cst (.int .i64 0))), (4, (.cst (.int .i64 2)))] none)) .ret)
@[simp] theorem h61_4_wp {P : Program} {F : PF P} {Q : EX → List Value → World → Prop} {env : List Value} {w : World} : h61_4.wp F Q env w = HC.wp F (.seq (.reg (.done [(3, (.cst (.int .i64 0))), (4, (.cst (.int .i64 2)))] none)) .ret) Q env w := rfl
def h61_5 : HC := (.seq (.reg (.done [(3, (.cst (.int .i64 0))), (4, (.cst (.int .i64 152)))] none)) .ret)
@[simp] theorem h61_5_wp {P : Program} {F : PF P} {Q : EX → List Value → World → Prop} {env : List Value} {w : World} : h61_5.wp F Q env w = HC.wp F (.seq (.reg (.done [(3, (.cst (.int .i64 0))), (4, (.cst (.int .i64 152)))] none)) .ret) Q env w := rfl
def h61_6 : HC := (.seq (.reg (.done [(3, (.cst (.int .i64 0))), (4, (.cst (.int .i64 150)))] none)) .ret)
@[simp] theorem h61_6_wp {P : Program} {F : PF P} {Q : EX → List Value → World → Prop} {env : List Value} {w : World} : h61_6.wp F Q env w = HC.wp F (.seq (.reg (.done [(3, (.cst (.int .i64 0))), (4, (.cst (.int .i64 150)))] none)) .ret) Q env w := rfl
def h61_7 : HC := (.brq (some 0) (.chk none .chkp (.cons (.inp 0) .nil) (.chk none (.fld 1) (.cons (.op .chkp (.cons (.inp 0) .nil)) .nil) (.eff (.ld false 1) (.cons (.op (.fld 1) (.cons (.op .chkp (.cons (.inp 0) .nil)) .nil)) .nil) (.chk none .lenL (.cons (.bv 0) .nil) (.chk none .chkp (.cons (.inp 0) .nil) (.chk none (.fld 0) (.cons (.op .chkp (.cons (.inp 0) .nil)) .nil) (.eff (.ld false 1) (.cons (.op (.fld 0) (.cons (.op .chkp (.cons (.inp 0) .nil)) .nil)) .nil) (.chk none (.bin .geq) (.cons (.op .lenL (.cons (.bv 0) .nil)) (.cons (.bv 1) .nil)) (.done [] (some (.op (.bin .geq) (.cons (.op .lenL (.cons (.bv 0) .nil)) (.cons (.bv 1) .nil))))))))))))) h61_6 .skip)
@[simp] theorem h61_7_wp {P : Program} {F : PF P} {Q : EX → List Value → World → Prop} {env : List Value} {w : World} : h61_7.wp F Q env w = HC.wp F (.brq (some 0) (.chk none .chkp (.cons (.inp 0) .nil) (.chk none (.fld 1) (.cons (.op .chkp (.cons (.inp 0) .nil)) .nil) (.eff (.ld false 1) (.cons (.op (.fld 1) (.cons (.op .chkp (.cons (.inp 0) .nil)) .nil)) .nil) (.chk none .lenL (.cons (.bv 0) .nil) (.chk none .chkp (.cons (.inp 0) .nil) (.chk none (.fld 0) (.cons (.op .chkp (.cons (.inp 0) .nil)) .nil) (.eff (.ld false 1) (.cons (.op (.fld 0) (.cons (.op .chkp (.cons (.inp 0) .nil)) .nil)) .nil) (.chk none (.bin .geq) (.cons (.op .lenL (.cons (.bv 0) .nil)) (.cons (.bv 1) .nil)) (.done [] (some (.op (.bin .geq) (.cons (.op .lenL (.cons (.bv 0) .nil)) (.cons (.bv 1) .nil))))))))))))) h61_6 .skip) Q env w := rfl
def h61_8 : HC := (.br (.chk none (.cal 34) (.cons (.inp 1) .nil) (.chk none (.un .not) (.cons (.op (.cal 34) (.cons (.inp 1) .nil)) .nil) (.done [] (some (.op (.un .not) (.cons (.op (.cal 34) (.cons (.inp 1) .nil)) .nil)))))) h61_5 h61_7)
@[simp] theorem h61_8_wp {P : Program} {F : PF P} {Q : EX → List Value → World → Prop} {env : List Value} {w : World} : h61_8.wp F Q env w = HC.wp F (.br (.chk none (.cal 34) (.cons (.inp 1) .nil) (.chk none (.un .not) (.cons (.op (.cal 34) (.cons (.inp 1) .nil)) .nil) (.done [] (some (.op (.un .not) (.cons (.op (.cal 34) (.cons (.inp 1) .nil)) .nil)))))) h61_5 h61_7) Q env w := rfl
def h61_9 : HC := (.br (.chk none (.cal 36) (.cons (.inp 2) .nil) (.chk none (.un .not) (.cons (.op (.cal 36) (.cons (.inp 2) .nil)) .nil) (.done [] (some (.op (.un .not) (.cons (.op (.cal 36) (.cons (.inp 2) .nil)) .nil)))))) h61_4 h61_8)
@[simp] theorem h61_9_wp {P : Program} {F : PF P} {Q : EX → List Value → World → Prop} {env : List Value} {w : World} : h61_9.wp F Q env w = HC.wp F (.br (.chk none (.cal 36) (.cons (.inp 2) .nil) (.chk none (.un .not) (.cons (.op (.cal 36) (.cons (.inp 2) .nil)) .nil) (.done [] (some (.op (.un .not) (.cons (.op (.cal 36) (.cons (.inp 2) .nil)) .nil)))))) h61_4 h61_8) Q env w := rfl
def h61_10 : HC := (.br (.chk none (.eqNil false (.pointer 92) (.pointer none)) (.cons (.inp 0) .nil) (.done [] (some (.op (.eqNil false (.pointer 92) (.pointer none)) (.cons (.inp 0) .nil))))) h61_3 h61_9)
@[simp] theorem h61_10_wp {P : Program} {F : PF P} {Q : EX → List Value → World → Prop} {env : List Value} {w : World} : h61_10.wp F Q env w = HC.wp F (.br (.chk none (.eqNil false (.pointer 92) (.pointer none)) (.cons (.inp 0) .nil) (.done [] (some (.op (.eqNil false (.pointer 92) (.pointer none)) (.cons (.inp 0) .nil))))) h61_3 h61_9) Q env w := rfl
def h61_11 : HC := (.seq (.block 0 h61_10) h61_2)
@[simp] theorem h61_11_wp {P : Program} {F : PF P} {Q : EX → List Value → World → Prop} {env : List Value} {w : World} : h61_11.wp F Q env w = HC.wp F (.seq (.block 0 h61_10) h61_2) Q env w := rfl
def l61 : Lifted := ⟨[0, 1, 2, 6, 7, 8], 52, [.slot 3, .slot 4], (.seq (.reg (.done [(3, (.cst (.int .i64 0))), (4, (.cst (.int .i64 0)))] none)) h61_11)⟩
theorem l61_ok : liftFn G1 61 400 = some l61 := by kernel_rfl

-- (*bazaar/goods.Goods).put
def h148_0 : HC := (.seq (.reg (.done [(5, (.cst (.int .i64 0)))] none)) .ret)
@[simp] theorem h148_0_wp {P : Program} {F : PF P} {Q : EX → List Value → World → Prop} {env : List Value} {w : World} : h148_0.wp F Q env w = HC.wp F (.seq (.reg (.done [(5, (.cst (.int .i64 0)))] none)) .ret) Q env w := rfl
def h148_1 : HC := (.seq (.reg (.chk none .chkp (.cons (.inp 6) .nil) (.chk none (.fld 0) (.cons (.op .chkp (.cons (.inp 6) .nil)) .nil) (.chk none (.fld 2) (.cons (.op (.fld 0) (.cons (.op .chkp (.cons (.inp 6) .nil)) .nil)) .nil) (.eff (.st 1) (.cons (.op (.fld 2) (.cons (.op (.fld 0) (.cons (.op .chkp (.cons (.inp 6) .nil)) .nil)) .nil)) (.cons (.inp 3) .nil)) (.chk none .chkp (.cons (.inp 6) .nil) (.chk none (.fld 0) (.cons (.op .chkp (.cons (.inp 6) .nil)) .nil) (.chk none (.fld 3) (.cons (.op (.fld 0) (.cons (.op .chkp (.cons (.inp 6) .nil)) .nil)) .nil) (.eff (.st 1) (.cons (.op (.fld 3) (.cons (.op (.fld 0) (.cons (.op .chkp (.cons (.inp 6) .nil)) .nil)) .nil)) (.cons (.inp 4) .nil)) (.done [] none)))))))))) h148_0)
@[simp] theorem h148_1_wp {P : Program} {F : PF P} {Q : EX → List Value → World → Prop} {env : List Value} {w : World} : h148_1.wp F Q env w = HC.wp F (.seq (.reg (.chk none .chkp (.cons (.inp 6) .nil) (.chk none (.fld 0) (.cons (.op .chkp (.cons (.inp 6) .nil)) .nil) (.chk none (.fld 2) (.cons (.op (.fld 0) (.cons (.op .chkp (.cons (.inp 6) .nil)) .nil)) .nil) (.eff (.st 1) (.cons (.op (.fld 2) (.cons (.op (.fld 0) (.cons (.op .chkp (.cons (.inp 6) .nil)) .nil)) .nil)) (.cons (.inp 3) .nil)) (.chk none .chkp (.cons (.inp 6) .nil) (.chk none (.fld 0) (.cons (.op .chkp (.cons (.inp 6) .nil)) .nil) (.chk none (.fld 3) (.cons (.op (.fld 0) (.cons (.op .chkp (.cons (.inp 6) .nil)) .nil)) .nil) (.eff (.st 1) (.cons (.op (.fld 3) (.cons (.op (.fld 0) (.cons (.op .chkp (.cons (.inp 6) .nil)) .nil)) .nil)) (.cons (.inp 4) .nil)) (.done [] none)))))))))) h148_0) Q env w := rfl
def h148_2 : HC := (.seq (.reg (.chk none .chkp (.cons (.inp 0) .nil) (.chk none (.fld 1) (.cons (.op .chkp (.cons (.inp 0) .nil)) .nil) (.eff (.ld false 1) (.cons (.op (.fld 1) (.cons (.op .chkp (.cons (.inp 0) .nil)) .nil)) .nil) (.chk none (.bin .sub) (.cons (.inp 1) (.cons (.cst (.int .i64 1)) .nil)) (.chk none (.idxL 4) (.cons (.bv 0) (.cons (.op (.bin .sub) (.cons (.inp 1) (.cons (.cst (.int .i64 1)) .nil))) .nil)) (.done [(6, (.op (.idxL 4) (.cons (.bv 0) (.cons (.op (.bin .sub) (.cons (.inp 1) (.cons (.cst (.int .i64 1)) .nil))) .nil))))] none))))))) h148_1)
@[simp] theorem h148_2_wp {P : Program} {F : PF P} {Q : EX → List Value → World → Prop} {env : List Value} {w : World} : h148_2.wp F Q env w = HC.wp F (.seq (.reg (.chk none .chkp (.cons (.inp 0) .nil) (.chk none (.fld 1) (.cons (.op .chkp (.cons (.inp 0) .nil)) .nil) (.eff (.ld false 1) (.cons (.op (.fld 1) (.cons (.op .chkp (.cons (.inp 0) .nil)) .nil)) .nil) (.chk none (.bin .sub) (.cons (.inp 1) (.cons (.cst (.int .i64 1)) .nil)) (.chk none (.idxL 4) (.cons (.bv 0) (.cons (.op (.bin .sub) (.cons (.inp 1) (.cons (.cst (.int .i64 1)) .nil))) .nil)) (.done [(6, (.op (.idxL 4) (.cons (.bv 0) (.cons (.op (.bin .sub) (.cons (.inp 1) (.cons (.cst (.int .i64 1)) .nil))) .nil))))] none))))))) h148_1) Q env w := rfl
def h148_3 : HC := (.seq (.reg (.done [(5, (.cst (.int .i64 151)))] none)) .ret)
@[simp] theorem h148_3_wp {P : Program} {F : PF P} {Q : EX → List Value → World → Prop} {env : List Value} {w : World} : h148_3.wp F Q env w = HC.wp F (.seq (.reg (.done [(5, (.cst (.int .i64 151)))] none)) .ret) Q env w := rfl
def h148_4 : HC := (.seq (.br (.chk none (.bin .lss) (.cons (.inp 1) (.cons (.cst (.int .i64 1)) .nil)) (.bnd (.op (.bin .lss) (.cons (.inp 1) (.cons (.cst (.int .i64 1)) .nil))) (.chk (some ((.bv 0), false)) .chkp (.cons (.inp 0) .nil) (.chk (some ((.bv 0), false)) (.fld 1) (.cons (.op .chkp (.cons (.inp 0) .nil)) .nil) (.ite (.bv 0) false (.eff (.ld false 1) (.cons (.ite (.bv 0) false (.op (.fld 1) (.cons (.op .chkp (.cons (.inp 0) .nil)) .nil)) (.cst (.tuple #[]))) .nil) (.chk none .lenL (.cons (.bv 1) .nil) (.chk none (.bin .gtr) (.cons (.ite (.bv 0) false (.inp 1) (.cst (.tuple #[]))) (.cons (.op .lenL (.cons (.bv 1) .nil)) .nil)) (.isb none (.bv 0) (.bnd (.op (.bin .gtr) (.cons (.ite (.bv 0) false (.inp 1) (.cst (.tuple #[]))) (.cons (.op .lenL (.cons (.bv 1) .nil)) .nil))) (.chk (some ((.bv 2), false)) .chkp (.cons (.inp 0) .nil) (.chk (some ((.bv 2), false)) (.fld 1) (.cons (.op .chkp (.cons (.inp 0) .nil)) .nil) (.ite (.bv 2) false (.eff (.ld false 1) (.cons (.ite (.bv 2) false (.op (.fld 1) (.cons (.op .chkp (.cons (.inp 0) .nil)) .nil)) (.cst (.tuple #[]))) .nil) (.chk none (.bin .sub) (.cons (.inp 1) (.cons (.cst (.int .i64 1)) .nil)) (.chk none (.idxL 4) (.cons (.bv 3) (.cons (.op (.bin .sub) (.cons (.inp 1) (.cons (.cst (.int .i64 1)) .nil))) .nil)) (.eff (.ld true 4) (.cons (.op (.idxL 4) (.cons (.bv 3) (.cons (.op (.bin .sub) (.cons (.inp 1) (.cons (.cst (.int .i64 1)) .nil))) .nil))) .nil) (.eff (.call 35) (.cons (.bv 4) .nil) (.chk none (.eqB true) (.cons (.bv 5) (.cons (.inp 2) .nil)) (.isb none (.bv 2) (.done [] (some (.op (.eqB true) (.cons (.bv 5) (.cons (.inp 2) .nil)))))))))))) (.isb none (.bv 2) (.done [] (some (.cst (.bool true))))))))))))) (.isb none (.bv 0) (.isb none (.cst (.bool true)) (.done [] (some (.cst (.bool true))))))))))) h148_3 .skip) h148_2)
@[simp] theorem h148_4_wp {P : Program} {F : PF P} {Q : EX → List Value → World → Prop} {env : List Value} {w : World} : h148_4.wp F Q env w = HC.wp F (.seq (.br (.chk none (.bin .lss) (.cons (.inp 1) (.cons (.cst (.int .i64 1)) .nil)) (.bnd (.op (.bin .lss) (.cons (.inp 1) (.cons (.cst (.int .i64 1)) .nil))) (.chk (some ((.bv 0), false)) .chkp (.cons (.inp 0) .nil) (.chk (some ((.bv 0), false)) (.fld 1) (.cons (.op .chkp (.cons (.inp 0) .nil)) .nil) (.ite (.bv 0) false (.eff (.ld false 1) (.cons (.ite (.bv 0) false (.op (.fld 1) (.cons (.op .chkp (.cons (.inp 0) .nil)) .nil)) (.cst (.tuple #[]))) .nil) (.chk none .lenL (.cons (.bv 1) .nil) (.chk none (.bin .gtr) (.cons (.ite (.bv 0) false (.inp 1) (.cst (.tuple #[]))) (.cons (.op .lenL (.cons (.bv 1) .nil)) .nil)) (.isb none (.bv 0) (.bnd (.op (.bin .gtr) (.cons (.ite (.bv 0) false (.inp 1) (.cst (.tuple #[]))) (.cons (.op .lenL (.cons (.bv 1) .nil)) .nil))) (.chk (some ((.bv 2), false)) .chkp (.cons (.inp 0) .nil) (.chk (some ((.bv 2), false)) (.fld 1) (.cons (.op .chkp (.cons (.inp 0) .nil)) .nil) (.ite (.bv 2) false (.eff (.ld false 1) (.cons (.ite (.bv 2) false (.op (.fld 1) (.cons (.op .chkp (.cons (.inp 0) .nil)) .nil)) (.cst (.tuple #[]))) .nil) (.chk none (.bin .sub) (.cons (.inp 1) (.cons (.cst (.int .i64 1)) .nil)) (.chk none (.idxL 4) (.cons (.bv 3) (.cons (.op (.bin .sub) (.cons (.inp 1) (.cons (.cst (.int .i64 1)) .nil))) .nil)) (.eff (.ld true 4) (.cons (.op (.idxL 4) (.cons (.bv 3) (.cons (.op (.bin .sub) (.cons (.inp 1) (.cons (.cst (.int .i64 1)) .nil))) .nil))) .nil) (.eff (.call 35) (.cons (.bv 4) .nil) (.chk none (.eqB true) (.cons (.bv 5) (.cons (.inp 2) .nil)) (.isb none (.bv 2) (.done [] (some (.op (.eqB true) (.cons (.bv 5) (.cons (.inp 2) .nil)))))))))))) (.isb none (.bv 2) (.done [] (some (.cst (.bool true))))))))))))) (.isb none (.bv 0) (.isb none (.cst (.bool true)) (.done [] (some (.cst (.bool true))))))))))) h148_3 .skip) h148_2) Q env w := rfl
def l148 : Lifted := ⟨[0, 1, 2, 3, 4, 10, 11], 53, [.slot 5], (.seq (.reg (.done [(5, (.cst (.int .i64 0)))] none)) h148_4)⟩
theorem l148_ok : liftFn G1 148 400 = some l148 := by kernel_rfl

-- (*bazaar/goods.Goods).Hold
def h115_0 : HC := (.seq (.reg (.eff (.call 148) (.cons (.inp 0) (.cons (.inp 1) (.cons (.cst (.bool false)) (.cons (.cst (.int .i64 (-1))) (.cons (.inp 2) .nil))))) (.done [(3, (.bv 0))] none))) .ret)
@[simp] theorem h115_0_wp {P : Program} {F : PF P} {Q : EX → List Value → World → Prop} {env : List Value} {w : World} : h115_0.wp F Q env w = HC.wp F (.seq (.reg (.eff (.call 148) (.cons (.inp 0) (.cons (.inp 1) (.cons (.cst (.bool false)) (.cons (.cst (.int .i64 (-1))) (.cons (.inp 2) .nil))))) (.done [(3, (.bv 0))] none))) .ret) Q env w := rfl
def h115_1 : HC := (.seq (.reg (.done [(3, (.cst (.int .i64 1)))] none)) .ret)
@[simp] theorem h115_1_wp {P : Program} {F : PF P} {Q : EX → List Value → World → Prop} {env : List Value} {w : World} : h115_1.wp F Q env w = HC.wp F (.seq (.reg (.done [(3, (.cst (.int .i64 1)))] none)) .ret) Q env w := rfl
def h115_2 : HC := (.seq (.reg (.done [(3, (.cst (.int .i64 2)))] none)) .ret)
@[simp] theorem h115_2_wp {P : Program} {F : PF P} {Q : EX → List Value → World → Prop} {env : List Value} {w : World} : h115_2.wp F Q env w = HC.wp F (.seq (.reg (.done [(3, (.cst (.int .i64 2)))] none)) .ret) Q env w := rfl
def h115_3 : HC := (.br (.chk none (.bin .lss) (.cons (.inp 2) (.cons (.cst (.int .i64 1)) .nil)) (.done [] (some (.op (.bin .lss) (.cons (.inp 2) (.cons (.cst (.int .i64 1)) .nil)))))) h115_2 .skip)
@[simp] theorem h115_3_wp {P : Program} {F : PF P} {Q : EX → List Value → World → Prop} {env : List Value} {w : World} : h115_3.wp F Q env w = HC.wp F (.br (.chk none (.bin .lss) (.cons (.inp 2) (.cons (.cst (.int .i64 1)) .nil)) (.done [] (some (.op (.bin .lss) (.cons (.inp 2) (.cons (.cst (.int .i64 1)) .nil)))))) h115_2 .skip) Q env w := rfl
def h115_4 : HC := (.br (.chk none (.eqNil false (.pointer 92) (.pointer none)) (.cons (.inp 0) .nil) (.done [] (some (.op (.eqNil false (.pointer 92) (.pointer none)) (.cons (.inp 0) .nil))))) h115_1 h115_3)
@[simp] theorem h115_4_wp {P : Program} {F : PF P} {Q : EX → List Value → World → Prop} {env : List Value} {w : World} : h115_4.wp F Q env w = HC.wp F (.br (.chk none (.eqNil false (.pointer 92) (.pointer none)) (.cons (.inp 0) .nil) (.done [] (some (.op (.eqNil false (.pointer 92) (.pointer none)) (.cons (.inp 0) .nil))))) h115_1 h115_3) Q env w := rfl
def h115_5 : HC := (.seq (.block 0 h115_4) h115_0)
@[simp] theorem h115_5_wp {P : Program} {F : PF P} {Q : EX → List Value → World → Prop} {env : List Value} {w : World} : h115_5.wp F Q env w = HC.wp F (.seq (.block 0 h115_4) h115_0) Q env w := rfl
def l115 : Lifted := ⟨[0, 1, 2, 6], 17, [.slot 3], (.seq (.reg (.done [(3, (.cst (.int .i64 0)))] none)) h115_5)⟩
theorem l115_ok : liftFn G1 115 400 = some l115 := by kernel_rfl

-- (*bazaar/goods.Goods).Free
def h144_0 : HC := (.seq (.reg (.eff (.call 148) (.cons (.inp 0) (.cons (.inp 1) (.cons (.cst (.bool true)) (.cons (.inp 2) (.cons (.cst (.int .i64 0)) .nil))))) (.done [(3, (.bv 0))] none))) .ret)
@[simp] theorem h144_0_wp {P : Program} {F : PF P} {Q : EX → List Value → World → Prop} {env : List Value} {w : World} : h144_0.wp F Q env w = HC.wp F (.seq (.reg (.eff (.call 148) (.cons (.inp 0) (.cons (.inp 1) (.cons (.cst (.bool true)) (.cons (.inp 2) (.cons (.cst (.int .i64 0)) .nil))))) (.done [(3, (.bv 0))] none))) .ret) Q env w := rfl
def h144_1 : HC := (.seq (.reg (.done [(3, (.cst (.int .i64 1)))] none)) .ret)
@[simp] theorem h144_1_wp {P : Program} {F : PF P} {Q : EX → List Value → World → Prop} {env : List Value} {w : World} : h144_1.wp F Q env w = HC.wp F (.seq (.reg (.done [(3, (.cst (.int .i64 1)))] none)) .ret) Q env w := rfl
def h144_2 : HC := (.seq (.reg (.done [(3, (.cst (.int .i64 2)))] none)) .ret)
@[simp] theorem h144_2_wp {P : Program} {F : PF P} {Q : EX → List Value → World → Prop} {env : List Value} {w : World} : h144_2.wp F Q env w = HC.wp F (.seq (.reg (.done [(3, (.cst (.int .i64 2)))] none)) .ret) Q env w := rfl
def h144_3 : HC := (.br (.chk none (.cal 36) (.cons (.inp 2) .nil) (.chk none (.un .not) (.cons (.op (.cal 36) (.cons (.inp 2) .nil)) .nil) (.done [] (some (.op (.un .not) (.cons (.op (.cal 36) (.cons (.inp 2) .nil)) .nil)))))) h144_2 .skip)
@[simp] theorem h144_3_wp {P : Program} {F : PF P} {Q : EX → List Value → World → Prop} {env : List Value} {w : World} : h144_3.wp F Q env w = HC.wp F (.br (.chk none (.cal 36) (.cons (.inp 2) .nil) (.chk none (.un .not) (.cons (.op (.cal 36) (.cons (.inp 2) .nil)) .nil) (.done [] (some (.op (.un .not) (.cons (.op (.cal 36) (.cons (.inp 2) .nil)) .nil)))))) h144_2 .skip) Q env w := rfl
def h144_4 : HC := (.br (.chk none (.eqNil false (.pointer 92) (.pointer none)) (.cons (.inp 0) .nil) (.done [] (some (.op (.eqNil false (.pointer 92) (.pointer none)) (.cons (.inp 0) .nil))))) h144_1 h144_3)
@[simp] theorem h144_4_wp {P : Program} {F : PF P} {Q : EX → List Value → World → Prop} {env : List Value} {w : World} : h144_4.wp F Q env w = HC.wp F (.br (.chk none (.eqNil false (.pointer 92) (.pointer none)) (.cons (.inp 0) .nil) (.done [] (some (.op (.eqNil false (.pointer 92) (.pointer none)) (.cons (.inp 0) .nil))))) h144_1 h144_3) Q env w := rfl
def h144_5 : HC := (.seq (.block 0 h144_4) h144_0)
@[simp] theorem h144_5_wp {P : Program} {F : PF P} {Q : EX → List Value → World → Prop} {env : List Value} {w : World} : h144_5.wp F Q env w = HC.wp F (.seq (.block 0 h144_4) h144_0) Q env w := rfl
def l144 : Lifted := ⟨[0, 1, 2, 6], 18, [.slot 3], (.seq (.reg (.done [(3, (.cst (.int .i64 0)))] none)) h144_5)⟩
theorem l144_ok : liftFn G1 144 400 = some l144 := by kernel_rfl


theorem held_spec (x : It) (w0 w : World) (A : Asn) (s : St w0 A w) :
    CallW Tryz.prog 35 [.agg x.cs.toArray] (fun r w' => r = .bool (decide (0 < x.con)) ∧ St w0 A w') w := by
  refine callW_of_lift l35_ok (by simp [l35]) ?_
  simp [l35]
  refine eff_box s ?_
  intro b w1 s1
  simp
  refine eff_ldc (v := .int .i64 x.con) ?_ ?_
  · rw [cell_of s1.look]; rfl
  simp
  exact s1.drop
theorem New_spec (lim : Int) (w0 w : World) (A : Asn) (s : St w0 A w) :
    CallW Tryz.prog 33 [.int .i64 lim] (fun r w' => if 0 ≤ lim ∧ lim ≤ 512 then ∃ p, r = .tuple #[.pointer (some ⟨p, 0, none⟩), .int .i64 0] ∧ St w0 (A * gds p lim []) w' else r = .tuple #[.pointer none, .int .i64 2] ∧ St w0 A w') w := by
  refine callW_of_lift l33_ok (by simp [l33]) ?_
  simp [l33]
  refine cndI (fun h => ?_) (fun h => ?_)
  · simp at h
    have : ¬ (0 ≤ lim ∧ lim ≤ 512) := by omega
    simp [this]
    exact s
  · simp at h
    simp [h, Instr.fill, Value.cells]
    refine eff_box s ?_
    intro b w1 s1
    simp
    refine gclose (v := .slice none 0 0) ?_
    exact s1.own_nil _ _
def makeF (lim : Int) (its : List It) (k a : Int) : Int × Int × List It :=
  if accF a = false then (0, 2, its) else if kindF k = false then (0, 152, its) else if lim ≤ its.length then (0, 150, its) else (its.length + 1, 0, its ++ [⟨its.length + 1, k, a, 0⟩])
theorem Make_spec (p : Nat) (lim : Int) (its : List It) (k a : Int) (w0 w : World) (A : Asn) (hl : lim ≤ 512) (s : St w0 (A * gds p lim its) w) :
    CallW Tryz.prog 61 [.pointer (some ⟨p, 0, none⟩), .int .i64 k, .int .i64 a]
      (fun r w' => r = .tuple #[.int .i64 (makeF lim its k a).1, .int .i64 (makeF lim its k a).2.1] ∧ St w0 (A * gds p lim (makeF lim its k a).2.2) w') w := by
  refine callW_of_lift l61_ok (by simp [l61]) ?_
  simp [l61]
  refine cndI (fun h1 => ?_) (fun h1 => ?_)
  · simp at h1
    simp [makeF, h1]
    exact s
  simp at h1
  simp
  refine cndI (fun h2 => ?_) (fun h2 => ?_)
  · simp at h2
    simp [makeF, h1, h2]
    exact s
  simp at h2
  simp
  obtain ⟨v, s1⟩ := gopen s
  obtain ⟨b, cap, rfl, _⟩ := s1.own_val
  refine brqI s1 ?_
  simp
  refine effq_ldc (v := .slice b its.length cap) (fun w' s' => by rw [cell_of s'.swap.look]; rfl) ?_
  simp
  refine effq_ldc (v := .int .i64 lim) (fun w' s' => by rw [cell_of s'.swap.look]; rfl) ?_
  simp
  intro w2 s2
  refine cndI (fun h3 => ?_) (fun h3 => ?_)
  · simp at h3
    simp [makeF, h1, h2, h3]
    exact gclose s2
  simp at h3
  have h3' : ¬ lim ≤ its.length := by omega
  simp
  refine eff_ldc (v := .slice b its.length cap) (by rw [cell_of s2.swap.look]; rfl) ?_
  have hw : IntKind.i64.wrap (its.length + 1) = its.length + 1 := wrap64 (by omega) (by omega)
  simp [hw]
  refine eff_ldc (v := .slice b its.length cap) (by rw [cell_of s2.swap.look]; rfl) ?_
  simp [Instr.fill, Value.cells]
  refine eff_bslV s2 rfl ?_
  intro c w3 s3
  simp
  refine eff_app (m := 1) (news := It.cs ⟨its.length + 1, k, a, 0⟩) s3.swap rfl s3.cells_look (cs_one _) (by decide) rfl (by unfold maxLen; omega) (by omega) ?_
  intro v' w4 s4
  simp
  refine eff_st1 s4.p3 ?_ (by simp) ?_
  · rcases s4.own_val with ⟨_, _, rfl, _⟩; rfl
  intro w5 s5
  simp [makeF, h1, h2, h3']
  refine gclose (v := v') ?_
  have e : flat its ++ It.cs ⟨its.length + 1, k, a, 0⟩ = flat (its ++ [⟨its.length + 1, k, a, 0⟩]) := by simp [flat]
  rw [e] at s5
  simpa using s5.p3.drop.swap
def putF (its : List It) (item : Int) (held : Bool) (acc con : Int) : Int × List It :=
  if 1 ≤ item ∧ item ≤ its.length then
    if decide (0 < (its.getD (item.toNat - 1) ⟨0, 0, 0, 0⟩).con) = held then
      (0, its.set (item.toNat - 1) ⟨(its.getD (item.toNat - 1) ⟨0, 0, 0, 0⟩).num, (its.getD (item.toNat - 1) ⟨0, 0, 0, 0⟩).kind, acc, con⟩)
    else (151, its)
  else (151, its)
theorem put_spec (p : Nat) (lim : Int) (its : List It) (item : Int) (held : Bool) (acc con : Int) (w0 w : World) (A : Asn) (hl : its.length ≤ 1048576) (s : St w0 (A * gds p lim its) w) :
    CallW Tryz.prog 148 [.pointer (some ⟨p, 0, none⟩), .int .i64 item, .bool held, .int .i64 acc, .int .i64 con]
      (fun r w' => r = .int .i64 (putF its item held acc con).1 ∧ St w0 (A * gds p lim (putF its item held acc con).2) w') w := by
  refine callW_of_lift l148_ok (by simp [l148]) ?_
  simp [l148]
  by_cases h1 : item < 1
  · have : ¬ (1 ≤ item ∧ item ≤ its.length) := by omega
    simp [h1, putF, this]
    exact s
  obtain ⟨v, s1⟩ := gopen s
  obtain ⟨b, cap, rfl, _⟩ := s1.own_val
  simp [h1]
  refine eff_ldc (v := .slice b its.length cap) (by rw [cell_of s1.swap.look]; rfl) ?_
  by_cases h2 : its.length < item
  · have : ¬ (1 ≤ item ∧ item ≤ its.length) := by omega
    simp [h2, putF, this]
    exact s
  simp [h2]
  obtain ⟨i, rfl⟩ : ∃ i : Nat, item = i + 1 := ⟨item.toNat - 1, by omega⟩
  have hi : i < its.length := by omega
  obtain ⟨g, cap', hv, _, hc⟩ := s1.own_at (by omega)
  cases hv
  refine eff_ldc (v := .slice (some ⟨g, 0, none⟩) its.length cap) (by rw [cell_of s1.swap.look]; rfl) ?_
  have hw : IntKind.i64.wrap (i : Int) = i := wrap64 (by omega) (by omega)
  simp [hw, hi]
  refine eff_ldcs (vs := its[i].cs) (fun j u hu => hc _ _ (flat_at hi j u hu)) rfl ?_
  simp
  refine eff_call ((held_spec its[i] w0 w _ s1).mono ?_)
  rintro r w2 ⟨rfl, s2⟩
  simp
  have hp : putF its (i + 1) held acc con = if decide (0 < its[i].con) = held then (0, its.set i ⟨its[i].num, its[i].kind, acc, con⟩) else (151, its) := by
    unfold putF
    rw [if_pos (by omega)]
    have : ((i : Int) + 1).toNat - 1 = i := by omega
    simp [this, hi]
  refine cndI (fun h3 => ?_) (fun h3 => ?_)
  · have e3 : ¬ decide (0 < its[i].con) = held := by simpa using h3
    rw [hp, if_neg e3]
    simp
    exact gclose s2
  have e3 : decide (0 < its[i].con) = held := by simpa using h3
  rw [hp, if_pos e3]
  simp
  refine eff_ldc (v := .slice (some ⟨g, 0, none⟩) its.length cap) (by rw [cell_of s2.swap.look]; rfl) ?_
  simp [hw, hi]
  have hfl := flat_len its
  refine eff_stC s2 (by omega) rfl ?_
  intro w3 s3
  simp
  refine eff_stC s3 (by rw [List.length_set]; omega) rfl ?_
  intro w4 s4
  simp
  rw [flat_set2 hi] at s4
  refine gclose (v := .slice (some ⟨g, 0, none⟩) its.length cap) ?_
  simpa using s4
def moveF (its : List It) (item a : Int) : Int × List It := if accF a = true then putF its item false a 0 else (2, its)
def holdF (its : List It) (item c : Int) : Int × List It := if c < 1 then (2, its) else putF its item false (-1) c
def freeF (its : List It) (item a : Int) : Int × List It := if accF a = true then putF its item true a 0 else (2, its)
theorem Hold_spec (p : Nat) (lim : Int) (its : List It) (item c : Int) (w0 w : World) (A : Asn) (hl : its.length ≤ 1048576) (s : St w0 (A * gds p lim its) w) :
    CallW Tryz.prog 115 [.pointer (some ⟨p, 0, none⟩), .int .i64 item, .int .i64 c]
      (fun r w' => r = .int .i64 (holdF its item c).1 ∧ St w0 (A * gds p lim (holdF its item c).2) w') w := by
  refine callW_of_lift l115_ok (by simp [l115]) ?_
  simp [l115]
  refine cndI (fun h1 => ?_) (fun h1 => ?_)
  · simp at h1
    simp [holdF, h1]
    exact s
  simp at h1
  simp
  refine eff_call ((put_spec p lim its item false (-1) c w0 w A hl s).mono ?_)
  rintro r w1 ⟨rfl, s1⟩
  have : ¬ c < 1 := by omega
  simp [holdF, this]
  exact s1
theorem Free_spec (p : Nat) (lim : Int) (its : List It) (item a : Int) (w0 w : World) (A : Asn) (hl : its.length ≤ 1048576) (s : St w0 (A * gds p lim its) w) :
    CallW Tryz.prog 144 [.pointer (some ⟨p, 0, none⟩), .int .i64 item, .int .i64 a]
      (fun r w' => r = .int .i64 (freeF its item a).1 ∧ St w0 (A * gds p lim (freeF its item a).2) w') w := by
  refine callW_of_lift l144_ok (by simp [l144]) ?_
  simp [l144]
  refine cndI (fun h1 => ?_) (fun h1 => ?_)
  · simp at h1
    simp [freeF, h1]
    exact s
  simp at h1
  simp
  refine eff_call ((put_spec p lim its item true a 0 w0 w A hl s).mono ?_)
  rintro r w1 ⟨rfl, s1⟩
  simp [freeF, h1]
  exact s1
end Go.HL.Gd

namespace Go.HL.Gd
open Go.HL Go.Proofs
set_option maxRecDepth 4000
set_option linter.unusedSimpArgs false
set_option linter.unusedVariables false
-- (*bazaar/goods.Goods).Get
def h28_0 : HC := (.seq (.reg (.chk none .chkp (.cons (.inp 0) .nil) (.chk none (.fld 1) (.cons (.op .chkp (.cons (.inp 0) .nil)) .nil) (.eff (.ld false 1) (.cons (.op (.fld 1) (.cons (.op .chkp (.cons (.inp 0) .nil)) .nil)) .nil) (.chk none (.bin .sub) (.cons (.inp 1) (.cons (.cst (.int .i64 1)) .nil)) (.chk none (.idxL 4) (.cons (.bv 0) (.cons (.op (.bin .sub) (.cons (.inp 1) (.cons (.cst (.int .i64 1)) .nil))) .nil)) (.chk none (.fld 0) (.cons (.op (.idxL 4) (.cons (.bv 0) (.cons (.op (.bin .sub) (.cons (.inp 1) (.cons (.cst (.int .i64 1)) .nil))) .nil))) .nil) (.eff (.ld true 4) (.cons (.op (.fld 0) (.cons (.op (.idxL 4) (.cons (.bv 0) (.cons (.op (.bin .sub) (.cons (.inp 1) (.cons (.cst (.int .i64 1)) .nil))) .nil))) .nil)) .nil) (.eff (.st 4) (.cons (.inp 2) (.cons (.bv 1) .nil)) (.done [(3, (.cst (.int .i64 0)))] none)))))))))) .ret)
@[simp] theorem h28_0_wp {P : Program} {F : PF P} {Q : EX → List Value → World → Prop} {env : List Value} {w : World} : h28_0.wp F Q env w = HC.wp F (.seq (.reg (.chk none .chkp (.cons (.inp 0) .nil) (.chk none (.fld 1) (.cons (.op .chkp (.cons (.inp 0) .nil)) .nil) (.eff (.ld false 1) (.cons (.op (.fld 1) (.cons (.op .chkp (.cons (.inp 0) .nil)) .nil)) .nil) (.chk none (.bin .sub) (.cons (.inp 1) (.cons (.cst (.int .i64 1)) .nil)) (.chk none (.idxL 4) (.cons (.bv 0) (.cons (.op (.bin .sub) (.cons (.inp 1) (.cons (.cst (.int .i64 1)) .nil))) .nil)) (.chk none (.fld 0) (.cons (.op (.idxL 4) (.cons (.bv 0) (.cons (.op (.bin .sub) (.cons (.inp 1) (.cons (.cst (.int .i64 1)) .nil))) .nil))) .nil) (.eff (.ld true 4) (.cons (.op (.fld 0) (.cons (.op (.idxL 4) (.cons (.bv 0) (.cons (.op (.bin .sub) (.cons (.inp 1) (.cons (.cst (.int .i64 1)) .nil))) .nil))) .nil)) .nil) (.eff (.st 4) (.cons (.inp 2) (.cons (.bv 1) .nil)) (.done [(3, (.cst (.int .i64 0)))] none)))))))))) .ret) Q env w := rfl
def h28_1 : HC := (.seq (.reg (.chk none (.build #[(.int .i64 0), (.int .i64 0), (.int .i64 0), (.int .i64 0)] [(0, 1), (1, 1), (2, 1), (3, 1)] []) .nil (.eff (.st 4) (.cons (.inp 2) (.cons (.op (.build #[(.int .i64 0), (.int .i64 0), (.int .i64 0), (.int .i64 0)] [(0, 1), (1, 1), (2, 1), (3, 1)] []) .nil) .nil)) (.done [(3, (.cst (.int .i64 1)))] none)))) .ret)
@[simp] theorem h28_1_wp {P : Program} {F : PF P} {Q : EX → List Value → World → Prop} {env : List Value} {w : World} : h28_1.wp F Q env w = HC.wp F (.seq (.reg (.chk none (.build #[(.int .i64 0), (.int .i64 0), (.int .i64 0), (.int .i64 0)] [(0, 1), (1, 1), (2, 1), (3, 1)] []) .nil (.eff (.st 4) (.cons (.inp 2) (.cons (.op (.build #[(.int .i64 0), (.int .i64 0), (.int .i64 0), (.int .i64 0)] [(0, 1), (1, 1), (2, 1), (3, 1)] []) .nil) .nil)) (.done [(3, (.cst (.int .i64 1)))] none)))) .ret) Q env w := rfl
def h28_2 : HC := (.seq (.reg (.chk none (.build #[(.int .i64 0), (.int .i64 0), (.int .i64 0), (.int .i64 0)] [(0, 1), (1, 1), (2, 1), (3, 1)] []) .nil (.eff (.st 4) (.cons (.inp 2) (.cons (.op (.build #[(.int .i64 0), (.int .i64 0), (.int .i64 0), (.int .i64 0)] [(0, 1), (1, 1), (2, 1), (3, 1)] []) .nil) .nil)) (.done [(3, (.cst (.int .i64 151)))] none)))) .ret)
@[simp] theorem h28_2_wp {P : Program} {F : PF P} {Q : EX → List Value → World → Prop} {env : List Value} {w : World} : h28_2.wp F Q env w = HC.wp F (.seq (.reg (.chk none (.build #[(.int .i64 0), (.int .i64 0), (.int .i64 0), (.int .i64 0)] [(0, 1), (1, 1), (2, 1), (3, 1)] []) .nil (.eff (.st 4) (.cons (.inp 2) (.cons (.op (.build #[(.int .i64 0), (.int .i64 0), (.int .i64 0), (.int .i64 0)] [(0, 1), (1, 1), (2, 1), (3, 1)] []) .nil) .nil)) (.done [(3, (.cst (.int .i64 151)))] none)))) .ret) Q env w := rfl
def h28_3 : HC := (.br (.chk none (.bin .lss) (.cons (.inp 1) (.cons (.cst (.int .i64 1)) .nil)) (.bnd (.op (.bin .lss) (.cons (.inp 1) (.cons (.cst (.int .i64 1)) .nil))) (.chk (some ((.bv 0), false)) .chkp (.cons (.inp 0) .nil) (.chk (some ((.bv 0), false)) (.fld 1) (.cons (.op .chkp (.cons (.inp 0) .nil)) .nil) (.ite (.bv 0) false (.eff (.ld false 1) (.cons (.ite (.bv 0) false (.op (.fld 1) (.cons (.op .chkp (.cons (.inp 0) .nil)) .nil)) (.cst (.tuple #[]))) .nil) (.chk none .lenL (.cons (.bv 1) .nil) (.chk none (.bin .gtr) (.cons (.ite (.bv 0) false (.inp 1) (.cst (.tuple #[]))) (.cons (.op .lenL (.cons (.bv 1) .nil)) .nil)) (.isb none (.bv 0) (.done [] (some (.op (.bin .gtr) (.cons (.ite (.bv 0) false (.inp 1) (.cst (.tuple #[]))) (.cons (.op .lenL (.cons (.bv 1) .nil)) .nil))))))))) (.isb none (.bv 0) (.done [] (some (.cst (.bool true)))))))))) h28_2 .skip)
@[simp] theorem h28_3_wp {P : Program} {F : PF P} {Q : EX → List Value → World → Prop} {env : List Value} {w : World} : h28_3.wp F Q env w = HC.wp F (.br (.chk none (.bin .lss) (.cons (.inp 1) (.cons (.cst (.int .i64 1)) .nil)) (.bnd (.op (.bin .lss) (.cons (.inp 1) (.cons (.cst (.int .i64 1)) .nil))) (.chk (some ((.bv 0), false)) .chkp (.cons (.inp 0) .nil) (.chk (some ((.bv 0), false)) (.fld 1) (.cons (.op .chkp (.cons (.inp 0) .nil)) .nil) (.ite (.bv 0) false (.eff (.ld false 1) (.cons (.ite (.bv 0) false (.op (.fld 1) (.cons (.op .chkp (.cons (.inp 0) .nil)) .nil)) (.cst (.tuple #[]))) .nil) (.chk none .lenL (.cons (.bv 1) .nil) (.chk none (.bin .gtr) (.cons (.ite (.bv 0) false (.inp 1) (.cst (.tuple #[]))) (.cons (.op .lenL (.cons (.bv 1) .nil)) .nil)) (.isb none (.bv 0) (.done [] (some (.op (.bin .gtr) (.cons (.ite (.bv 0) false (.inp 1) (.cst (.tuple #[]))) (.cons (.op .lenL (.cons (.bv 1) .nil)) .nil))))))))) (.isb none (.bv 0) (.done [] (some (.cst (.bool true)))))))))) h28_2 .skip) Q env w := rfl
def h28_4 : HC := (.br (.chk none (.eqNil false (.pointer 92) (.pointer none)) (.cons (.inp 0) .nil) (.done [] (some (.op (.eqNil false (.pointer 92) (.pointer none)) (.cons (.inp 0) .nil))))) h28_1 h28_3)
@[simp] theorem h28_4_wp {P : Program} {F : PF P} {Q : EX → List Value → World → Prop} {env : List Value} {w : World} : h28_4.wp F Q env w = HC.wp F (.br (.chk none (.eqNil false (.pointer 92) (.pointer none)) (.cons (.inp 0) .nil) (.done [] (some (.op (.eqNil false (.pointer 92) (.pointer none)) (.cons (.inp 0) .nil))))) h28_1 h28_3) Q env w := rfl
def h28_5 : HC := (.seq (.block 0 h28_4) h28_0)
@[simp] theorem h28_5_wp {P : Program} {F : PF P} {Q : EX → List Value → World → Prop} {env : List Value} {w : World} : h28_5.wp F Q env w = HC.wp F (.seq (.block 0 h28_4) h28_0) Q env w := rfl
def l28 : Lifted := ⟨[0, 1, 4, 5], 32, [.cell 2 true 4, .slot 3], (.seq (.reg (.eff (.new 60 (.agg #[(.int .i64 0), (.int .i64 0), (.int .i64 0), (.int .i64 0)])) .nil (.done [(2, (.bv 0)), (3, (.cst (.int .i64 0)))] none))) h28_5)⟩
theorem l28_ok : liftFn G1 28 400 = some l28 := by kernel_rfl

-- (*bazaar/goods.Goods).Rows
def h12_0 : HC := (.seq (.reg (.done [(1, (.inp 2))] none)) .ret)
@[simp] theorem h12_0_wp {P : Program} {F : PF P} {Q : EX → List Value → World → Prop} {env : List Value} {w : World} : h12_0.wp F Q env w = HC.wp F (.seq (.reg (.done [(1, (.inp 2))] none)) .ret) Q env w := rfl
def h12_1 : HC := (.reg (.chk none (.bin .add) (.cons (.inp 6) (.cons (.cst (.int .i64 1)) .nil)) (.done [(6, (.op (.bin .add) (.cons (.inp 6) (.cons (.cst (.int .i64 1)) .nil))))] none)))
@[simp] theorem h12_1_wp {P : Program} {F : PF P} {Q : EX → List Value → World → Prop} {env : List Value} {w : World} : h12_1.wp F Q env w = HC.wp F (.reg (.chk none (.bin .add) (.cons (.inp 6) (.cons (.cst (.int .i64 1)) .nil)) (.done [(6, (.op (.bin .add) (.cons (.inp 6) (.cons (.cst (.int .i64 1)) .nil))))] none))) Q env w := rfl
def h12_2 : HC := (.reg (.chk none (.fld 0) (.cons (.inp 3) .nil) (.eff (.ld true 4) (.cons (.op (.fld 0) (.cons (.inp 3) .nil)) .nil) (.eff (.bsl 60 1 4 #[(.int .i64 0), (.int .i64 0), (.int .i64 0), (.int .i64 0)] [0]) (.cons (.bv 0) .nil) (.eff (.app 24 24 60 4 32 (.agg #[(.int .i64 0), (.int .i64 0), (.int .i64 0), (.int .i64 0)])) (.cons (.inp 2) (.cons (.bv 1) .nil)) (.done [(2, (.bv 2))] none))))))
@[simp] theorem h12_2_wp {P : Program} {F : PF P} {Q : EX → List Value → World → Prop} {env : List Value} {w : World} : h12_2.wp F Q env w = HC.wp F (.reg (.chk none (.fld 0) (.cons (.inp 3) .nil) (.eff (.ld true 4) (.cons (.op (.fld 0) (.cons (.inp 3) .nil)) .nil) (.eff (.bsl 60 1 4 #[(.int .i64 0), (.int .i64 0), (.int .i64 0), (.int .i64 0)] [0]) (.cons (.bv 0) .nil) (.eff (.app 24 24 60 4 32 (.agg #[(.int .i64 0), (.int .i64 0), (.int .i64 0), (.int .i64 0)])) (.cons (.inp 2) (.cons (.bv 1) .nil)) (.done [(2, (.bv 2))] none)))))) Q env w := rfl
def h12_3 : HC := (.seq (.reg (.chk none (.idxL 4) (.cons (.inp 4) (.cons (.inp 6) .nil)) (.eff (.ld true 4) (.cons (.op (.idxL 4) (.cons (.inp 4) (.cons (.inp 6) .nil))) .nil) (.eff (.new 88 (.agg #[(.int .i64 0), (.int .i64 0), (.int .i64 0), (.int .i64 0)])) .nil (.eff (.st 4) (.cons (.bv 1) (.cons (.bv 0) .nil)) (.done [(3, (.bv 1))] none)))))) h12_2)
@[simp] theorem h12_3_wp {P : Program} {F : PF P} {Q : EX → List Value → World → Prop} {env : List Value} {w : World} : h12_3.wp F Q env w = HC.wp F (.seq (.reg (.chk none (.idxL 4) (.cons (.inp 4) (.cons (.inp 6) .nil)) (.eff (.ld true 4) (.cons (.op (.idxL 4) (.cons (.inp 4) (.cons (.inp 6) .nil))) .nil) (.eff (.new 88 (.agg #[(.int .i64 0), (.int .i64 0), (.int .i64 0), (.int .i64 0)])) .nil (.eff (.st 4) (.cons (.bv 1) (.cons (.bv 0) .nil)) (.done [(3, (.bv 1))] none)))))) h12_2) Q env w := rfl
def h12_4 : HC := (.seq (.block 1 h12_3) h12_1)
@[simp] theorem h12_4_wp {P : Program} {F : PF P} {Q : EX → List Value → World → Prop} {env : List Value} {w : World} : h12_4.wp F Q env w = HC.wp F (.seq (.block 1 h12_3) h12_1) Q env w := rfl
def h12_5 : HC := (.seq (.br (.chk none (.bin .lss) (.cons (.inp 6) (.cons (.inp 5) .nil)) (.done [] (some (.op (.bin .lss) (.cons (.inp 6) (.cons (.inp 5) .nil)))))) .skip (.exit 0)) h12_4)
@[simp] theorem h12_5_wp {P : Program} {F : PF P} {Q : EX → List Value → World → Prop} {env : List Value} {w : World} : h12_5.wp F Q env w = HC.wp F (.seq (.br (.chk none (.bin .lss) (.cons (.inp 6) (.cons (.inp 5) .nil)) (.done [] (some (.op (.bin .lss) (.cons (.inp 6) (.cons (.inp 5) .nil)))))) .skip (.exit 0)) h12_4) Q env w := rfl
def h12_6 : HC := (.loop h12_5)
@[simp] theorem h12_6_wp {P : Program} {F : PF P} {Q : EX → List Value → World → Prop} {env : List Value} {w : World} : h12_6.wp F Q env w = HC.wp F (.loop h12_5) Q env w := rfl
def h12_7 : HC := (.seq (.block 0 h12_6) h12_0)
@[simp] theorem h12_7_wp {P : Program} {F : PF P} {Q : EX → List Value → World → Prop} {env : List Value} {w : World} : h12_7.wp F Q env w = HC.wp F (.seq (.block 0 h12_6) h12_0) Q env w := rfl
def h12_8 : HC := (.seq (.reg (.chk none .chkp (.cons (.inp 0) .nil) (.chk none (.fld 1) (.cons (.op .chkp (.cons (.inp 0) .nil)) .nil) (.eff (.ld false 1) (.cons (.op (.fld 1) (.cons (.op .chkp (.cons (.inp 0) .nil)) .nil)) .nil) (.chk none .lenL (.cons (.bv 0) .nil) (.done [(4, (.bv 0)), (5, (.op .lenL (.cons (.bv 0) .nil))), (6, (.cst (.int .i64 0)))] none)))))) h12_7)
@[simp] theorem h12_8_wp {P : Program} {F : PF P} {Q : EX → List Value → World → Prop} {env : List Value} {w : World} : h12_8.wp F Q env w = HC.wp F (.seq (.reg (.chk none .chkp (.cons (.inp 0) .nil) (.chk none (.fld 1) (.cons (.op .chkp (.cons (.inp 0) .nil)) .nil) (.eff (.ld false 1) (.cons (.op (.fld 1) (.cons (.op .chkp (.cons (.inp 0) .nil)) .nil)) .nil) (.chk none .lenL (.cons (.bv 0) .nil) (.done [(4, (.bv 0)), (5, (.op .lenL (.cons (.bv 0) .nil))), (6, (.cst (.int .i64 0)))] none)))))) h12_7) Q env w := rfl
def h12_9 : HC := (.seq (.reg (.done [(2, (.cst (.slice none 0 0)))] none)) h12_8)
@[simp] theorem h12_9_wp {P : Program} {F : PF P} {Q : EX → List Value → World → Prop} {env : List Value} {w : World} : h12_9.wp F Q env w = HC.wp F (.seq (.reg (.done [(2, (.cst (.slice none 0 0)))] none)) h12_8) Q env w := rfl
def h12_10 : HC := (.seq (.reg (.done [(1, (.cst (.slice none 0 0)))] none)) .ret)
@[simp] theorem h12_10_wp {P : Program} {F : PF P} {Q : EX → List Value → World → Prop} {env : List Value} {w : World} : h12_10.wp F Q env w = HC.wp F (.seq (.reg (.done [(1, (.cst (.slice none 0 0)))] none)) .ret) Q env w := rfl
def h12_11 : HC := (.seq (.br (.chk none (.eqNil false (.pointer 92) (.pointer none)) (.cons (.inp 0) .nil) (.done [] (some (.op (.eqNil false (.pointer 92) (.pointer none)) (.cons (.inp 0) .nil))))) h12_10 .skip) h12_9)
@[simp] theorem h12_11_wp {P : Program} {F : PF P} {Q : EX → List Value → World → Prop} {env : List Value} {w : World} : h12_11.wp F Q env w = HC.wp F (.seq (.br (.chk none (.eqNil false (.pointer 92) (.pointer none)) (.cons (.inp 0) .nil) (.done [] (some (.op (.eqNil false (.pointer 92) (.pointer none)) (.cons (.inp 0) .nil))))) h12_10 .skip) h12_9) Q env w := rfl
def l12 : Lifted := ⟨[0, 2, 3, 5, 11, 12, 13], 24, [.slot 1], (.seq (.reg (.done [(1, (.cst (.slice none 0 0)))] none)) h12_11)⟩
theorem l12_ok : liftFn G1 12 400 = some l12 := by kernel_rfl

-- (*bazaar/goods.Goods).where
def h86_0 : HC := (.seq (.reg (.done [(2, (.inp 3))] none)) .ret)
@[simp] theorem h86_0_wp {P : Program} {F : PF P} {Q : EX → List Value → World → Prop} {env : List Value} {w : World} : h86_0.wp F Q env w = HC.wp F (.seq (.reg (.done [(2, (.inp 3))] none)) .ret) Q env w := rfl
def h86_1 : HC := (.reg (.chk none (.bin .add) (.cons (.inp 7) (.cons (.cst (.int .i64 1)) .nil)) (.done [(7, (.op (.bin .add) (.cons (.inp 7) (.cons (.cst (.int .i64 1)) .nil))))] none)))
@[simp] theorem h86_1_wp {P : Program} {F : PF P} {Q : EX → List Value → World → Prop} {env : List Value} {w : World} : h86_1.wp F Q env w = HC.wp F (.reg (.chk none (.bin .add) (.cons (.inp 7) (.cons (.cst (.int .i64 1)) .nil)) (.done [(7, (.op (.bin .add) (.cons (.inp 7) (.cons (.cst (.int .i64 1)) .nil))))] none))) Q env w := rfl
def h86_2 : HC := (.reg (.chk none (.fld 0) (.cons (.inp 4) .nil) (.chk none (.fld 0) (.cons (.op (.fld 0) (.cons (.inp 4) .nil)) .nil) (.eff (.ld false 1) (.cons (.op (.fld 0) (.cons (.op (.fld 0) (.cons (.inp 4) .nil)) .nil)) .nil) (.eff (.bsl 3 1 1 #[(.int .i64 0)] [0]) (.cons (.bv 0) .nil) (.eff (.app 44 44 3 1 8 (.int .i64 0)) (.cons (.inp 3) (.cons (.bv 1) .nil)) (.done [(3, (.bv 2))] none)))))))
@[simp] theorem h86_2_wp {P : Program} {F : PF P} {Q : EX → List Value → World → Prop} {env : List Value} {w : World} : h86_2.wp F Q env w = HC.wp F (.reg (.chk none (.fld 0) (.cons (.inp 4) .nil) (.chk none (.fld 0) (.cons (.op (.fld 0) (.cons (.inp 4) .nil)) .nil) (.eff (.ld false 1) (.cons (.op (.fld 0) (.cons (.op (.fld 0) (.cons (.inp 4) .nil)) .nil)) .nil) (.eff (.bsl 3 1 1 #[(.int .i64 0)] [0]) (.cons (.bv 0) .nil) (.eff (.app 44 44 3 1 8 (.int .i64 0)) (.cons (.inp 3) (.cons (.bv 1) .nil)) (.done [(3, (.bv 2))] none))))))) Q env w := rfl
def h86_3 : HC := (.br (.eff (.ld true 4) (.cons (.inp 4) .nil) (.eff .callv (.cons (.inp 1) (.cons (.bv 0) .nil)) (.done [] (some (.bv 1))))) h86_2 .skip)
@[simp] theorem h86_3_wp {P : Program} {F : PF P} {Q : EX → List Value → World → Prop} {env : List Value} {w : World} : h86_3.wp F Q env w = HC.wp F (.br (.eff (.ld true 4) (.cons (.inp 4) .nil) (.eff .callv (.cons (.inp 1) (.cons (.bv 0) .nil)) (.done [] (some (.bv 1))))) h86_2 .skip) Q env w := rfl
def h86_4 : HC := (.seq (.reg (.chk none (.idxL 4) (.cons (.inp 5) (.cons (.inp 7) .nil)) (.eff (.ld true 4) (.cons (.op (.idxL 4) (.cons (.inp 5) (.cons (.inp 7) .nil))) .nil) (.eff (.new 88 (.agg #[(.int .i64 0), (.int .i64 0), (.int .i64 0), (.int .i64 0)])) .nil (.eff (.st 4) (.cons (.bv 1) (.cons (.bv 0) .nil)) (.done [(4, (.bv 1))] none)))))) h86_3)
@[simp] theorem h86_4_wp {P : Program} {F : PF P} {Q : EX → List Value → World → Prop} {env : List Value} {w : World} : h86_4.wp F Q env w = HC.wp F (.seq (.reg (.chk none (.idxL 4) (.cons (.inp 5) (.cons (.inp 7) .nil)) (.eff (.ld true 4) (.cons (.op (.idxL 4) (.cons (.inp 5) (.cons (.inp 7) .nil))) .nil) (.eff (.new 88 (.agg #[(.int .i64 0), (.int .i64 0), (.int .i64 0), (.int .i64 0)])) .nil (.eff (.st 4) (.cons (.bv 1) (.cons (.bv 0) .nil)) (.done [(4, (.bv 1))] none)))))) h86_3) Q env w := rfl
def h86_5 : HC := (.seq (.block 1 h86_4) h86_1)
@[simp] theorem h86_5_wp {P : Program} {F : PF P} {Q : EX → List Value → World → Prop} {env : List Value} {w : World} : h86_5.wp F Q env w = HC.wp F (.seq (.block 1 h86_4) h86_1) Q env w := rfl
def h86_6 : HC := (.seq (.br (.chk none (.bin .lss) (.cons (.inp 7) (.cons (.inp 6) .nil)) (.done [] (some (.op (.bin .lss) (.cons (.inp 7) (.cons (.inp 6) .nil)))))) .skip (.exit 0)) h86_5)
@[simp] theorem h86_6_wp {P : Program} {F : PF P} {Q : EX → List Value → World → Prop} {env : List Value} {w : World} : h86_6.wp F Q env w = HC.wp F (.seq (.br (.chk none (.bin .lss) (.cons (.inp 7) (.cons (.inp 6) .nil)) (.done [] (some (.op (.bin .lss) (.cons (.inp 7) (.cons (.inp 6) .nil)))))) .skip (.exit 0)) h86_5) Q env w := rfl
def h86_7 : HC := (.loop h86_6)
@[simp] theorem h86_7_wp {P : Program} {F : PF P} {Q : EX → List Value → World → Prop} {env : List Value} {w : World} : h86_7.wp F Q env w = HC.wp F (.loop h86_6) Q env w := rfl
def h86_8 : HC := (.seq (.block 0 h86_7) h86_0)
@[simp] theorem h86_8_wp {P : Program} {F : PF P} {Q : EX → List Value → World → Prop} {env : List Value} {w : World} : h86_8.wp F Q env w = HC.wp F (.seq (.block 0 h86_7) h86_0) Q env w := rfl
def h86_9 : HC := (.seq (.reg (.chk none .chkp (.cons (.inp 0) .nil) (.chk none (.fld 1) (.cons (.op .chkp (.cons (.inp 0) .nil)) .nil) (.eff (.ld false 1) (.cons (.op (.fld 1) (.cons (.op .chkp (.cons (.inp 0) .nil)) .nil)) .nil) (.chk none .lenL (.cons (.bv 0) .nil) (.done [(5, (.bv 0)), (6, (.op .lenL (.cons (.bv 0) .nil))), (7, (.cst (.int .i64 0)))] none)))))) h86_8)
@[simp] theorem h86_9_wp {P : Program} {F : PF P} {Q : EX → List Value → World → Prop} {env : List Value} {w : World} : h86_9.wp F Q env w = HC.wp F (.seq (.reg (.chk none .chkp (.cons (.inp 0) .nil) (.chk none (.fld 1) (.cons (.op .chkp (.cons (.inp 0) .nil)) .nil) (.eff (.ld false 1) (.cons (.op (.fld 1) (.cons (.op .chkp (.cons (.inp 0) .nil)) .nil)) .nil) (.chk none .lenL (.cons (.bv 0) .nil) (.done [(5, (.bv 0)), (6, (.op .lenL (.cons (.bv 0) .nil))), (7, (.cst (.int .i64 0)))] none)))))) h86_8) Q env w := rfl
def h86_10 : HC := (.seq (.reg (.done [(3, (.cst (.slice none 0 0)))] none)) h86_9)
@[simp] theorem h86_10_wp {P : Program} {F : PF P} {Q : EX → List Value → World → Prop} {env : List Value} {w : World} : h86_10.wp F Q env w = HC.wp F (.seq (.reg (.done [(3, (.cst (.slice none 0 0)))] none)) h86_9) Q env w := rfl
def h86_11 : HC := (.seq (.reg (.done [(2, (.cst (.slice none 0 0)))] none)) .ret)
@[simp] theorem h86_11_wp {P : Program} {F : PF P} {Q : EX → List Value → World → Prop} {env : List Value} {w : World} : h86_11.wp F Q env w = HC.wp F (.seq (.reg (.done [(2, (.cst (.slice none 0 0)))] none)) .ret) Q env w := rfl
def h86_12 : HC := (.seq (.br (.chk none (.eqNil false (.pointer 92) (.pointer none)) (.cons (.inp 0) .nil) (.done [] (some (.op (.eqNil false (.pointer 92) (.pointer none)) (.cons (.inp 0) .nil))))) h86_11 .skip) h86_10)
@[simp] theorem h86_12_wp {P : Program} {F : PF P} {Q : EX → List Value → World → Prop} {env : List Value} {w : World} : h86_12.wp F Q env w = HC.wp F (.seq (.br (.chk none (.eqNil false (.pointer 92) (.pointer none)) (.cons (.inp 0) .nil) (.done [] (some (.op (.eqNil false (.pointer 92) (.pointer none)) (.cons (.inp 0) .nil))))) h86_11 .skip) h86_10) Q env w := rfl
def l86 : Lifted := ⟨[0, 1, 4, 5, 7, 13, 14, 15], 30, [.slot 2], (.seq (.reg (.done [(2, (.cst (.slice none 0 0)))] none)) h86_12)⟩
theorem l86_ok : liftFn G1 86 400 = some l86 := by kernel_rfl

-- (*bazaar/goods.Goods).In$1
def h87_0 : HC := (.seq (.reg (.eff (.ld true 4) (.cons (.inp 2) .nil) (.eff (.call 35) (.cons (.bv 0) .nil) (.chk (some ((.bv 1), true)) (.fld 0) (.cons (.inp 2) .nil) (.chk (some ((.bv 1), true)) (.fld 3) (.cons (.op (.fld 0) (.cons (.inp 2) .nil)) .nil) (.ite (.bv 1) true (.eff (.ld false 1) (.cons (.ite (.bv 1) true (.op (.fld 3) (.cons (.op (.fld 0) (.cons (.inp 2) .nil)) .nil)) (.cst (.tuple #[]))) .nil) (.eff (.ld false 1) (.cons (.inp 1) .nil) (.chk none (.bin .eql) (.cons (.bv 2) (.cons (.bv 3) .nil)) (.isb none (.bv 1) (.done [(3, (.op (.bin .eql) (.cons (.bv 2) (.cons (.bv 3) .nil))))] none))))) (.isb none (.bv 1) (.done [(3, (.cst (.bool false)))] none)))))))) .ret)
@[simp] theorem h87_0_wp {P : Program} {F : PF P} {Q : EX → List Value → World → Prop} {env : List Value} {w : World} : h87_0.wp F Q env w = HC.wp F (.seq (.reg (.eff (.ld true 4) (.cons (.inp 2) .nil) (.eff (.call 35) (.cons (.bv 0) .nil) (.chk (some ((.bv 1), true)) (.fld 0) (.cons (.inp 2) .nil) (.chk (some ((.bv 1), true)) (.fld 3) (.cons (.op (.fld 0) (.cons (.inp 2) .nil)) .nil) (.ite (.bv 1) true (.eff (.ld false 1) (.cons (.ite (.bv 1) true (.op (.fld 3) (.cons (.op (.fld 0) (.cons (.inp 2) .nil)) .nil)) (.cst (.tuple #[]))) .nil) (.eff (.ld false 1) (.cons (.inp 1) .nil) (.chk none (.bin .eql) (.cons (.bv 2) (.cons (.bv 3) .nil)) (.isb none (.bv 1) (.done [(3, (.op (.bin .eql) (.cons (.bv 2) (.cons (.bv 3) .nil))))] none))))) (.isb none (.bv 1) (.done [(3, (.cst (.bool false)))] none)))))))) .ret) Q env w := rfl
def l87 : Lifted := ⟨[0, 1, 2, 3], 13, [.slot 3], (.seq (.reg (.eff (.box 88) (.cons (.inp 0) .nil) (.done [(2, (.bv 0)), (3, (.cst (.bool false)))] none))) h87_0)⟩
theorem l87_ok : liftFn G1 87 400 = some l87 := by kernel_rfl

-- (*bazaar/goods.Goods).In
def h45_0 : HC := (.seq (.reg (.chk none (.mkf (.func 87) 0) (.cons (.inp 2) .nil) (.eff (.call 86) (.cons (.inp 0) (.cons (.op (.mkf (.func 87) 0) (.cons (.inp 2) .nil)) .nil)) (.done [(3, (.bv 0))] none)))) .ret)
@[simp] theorem h45_0_wp {P : Program} {F : PF P} {Q : EX → List Value → World → Prop} {env : List Value} {w : World} : h45_0.wp F Q env w = HC.wp F (.seq (.reg (.chk none (.mkf (.func 87) 0) (.cons (.inp 2) .nil) (.eff (.call 86) (.cons (.inp 0) (.cons (.op (.mkf (.func 87) 0) (.cons (.inp 2) .nil)) .nil)) (.done [(3, (.bv 0))] none)))) .ret) Q env w := rfl
def l45 : Lifted := ⟨[0, 1, 3, 4], 8, [.slot 3], (.seq (.reg (.eff (.box 3) (.cons (.inp 1) .nil) (.done [(2, (.bv 0)), (3, (.cst (.slice none 0 0)))] none))) h45_0)⟩
theorem l45_ok : liftFn G1 45 400 = some l45 := by kernel_rfl


def getF (its : List It) (n : Int) : It × Int := if 1 ≤ n ∧ n ≤ its.length then (its.getD (n.toNat - 1) ⟨0, 0, 0, 0⟩, 0) else (⟨0, 0, 0, 0⟩, 151)
theorem Get_spec (p : Nat) (lim : Int) (its : List It) (n : Int) (w0 w : World) (A : Asn) (hl : its.length ≤ 1048576) (s : St w0 (A * gds p lim its) w) :
    CallW Tryz.prog 28 [.pointer (some ⟨p, 0, none⟩), .int .i64 n]
      (fun r w' => r = .tuple #[.agg (getF its n).1.cs.toArray, .int .i64 (getF its n).2] ∧ St w0 (A * gds p lim its) w') w := by
  refine callW_of_lift l28_ok (by simp [l28]) ?_
  simp [l28]
  refine eff_new s ?_
  intro b w1 s1
  simp
  obtain ⟨v, s2⟩ := gopen s1.swap
  obtain ⟨a, cap, rfl, _⟩ := s2.own_val
  by_cases h1 : n < 1
  · have hg : getF its n = (⟨0, 0, 0, 0⟩, 151) := by unfold getF; rw [if_neg (by omega)]
    simp [h1, hg, Instr.fill, Value.cells]
    refine eff_stA (vs := It.cs ⟨0, 0, 0, 0⟩) s1 rfl rfl (cs_one _) (by simp) ?_
    intro w2 s3
    simp
    have s4 : St w0 (A * gds p lim its * pt b (.cells (It.cs ⟨0, 0, 0, 0⟩).toArray 60 (0, 0))) w2 := by simpa using s3
    refine rv_cellA (vs := It.cs ⟨0, 0, 0, 0⟩) rfl s4.row_cells rfl ?_
    simp
    exact s4.drop
  simp [h1]
  refine eff_ldc (v := .slice a its.length cap) (by rw [cell_of s2.swap.look]; rfl) ?_
  by_cases h2 : its.length < n
  · have hg : getF its n = (⟨0, 0, 0, 0⟩, 151) := by unfold getF; rw [if_neg (by omega)]
    simp [h2, hg, Instr.fill, Value.cells]
    refine eff_stA (vs := It.cs ⟨0, 0, 0, 0⟩) s1 rfl rfl (cs_one _) (by simp) ?_
    intro w2 s3
    simp
    have s4 : St w0 (A * gds p lim its * pt b (.cells (It.cs ⟨0, 0, 0, 0⟩).toArray 60 (0, 0))) w2 := by simpa using s3
    refine rv_cellA (vs := It.cs ⟨0, 0, 0, 0⟩) rfl s4.row_cells rfl ?_
    simp
    exact s4.drop
  simp [h2]
  obtain ⟨i, rfl⟩ : ∃ i : Nat, n = i + 1 := ⟨n.toNat - 1, by omega⟩
  have hi : i < its.length := by omega
  obtain ⟨g, cap', hv, _, hc⟩ := s2.own_at (by omega)
  cases hv
  refine eff_ldc (v := .slice (some ⟨g, 0, none⟩) its.length cap) (by rw [cell_of s2.swap.look]; rfl) ?_
  have hw : IntKind.i64.wrap (i : Int) = i := wrap64 (by omega) (by omega)
  simp [hw, hi]
  refine eff_ldcs (vs := its[i].cs) (fun j u hu => hc _ _ (flat_at hi j u hu)) rfl ?_
  simp
  have hg : getF its (i + 1) = (its[i], 0) := by
    unfold getF
    rw [if_pos (by omega)]
    have : ((i : Int) + 1).toNat - 1 = i := by omega
    simp [this, hi]
  refine eff_stA (vs := its[i].cs) s1 rfl rfl (cs_one _) (by simp) ?_
  intro w3 s3
  simp [hg]
  have s4 : St w0 (A * gds p lim its * pt b (.cells its[i].cs.toArray 60 (0, 0))) w3 := by simpa using s3
  refine rv_cellA (vs := its[i].cs) rfl s4.row_cells rfl ?_
  simp
  exact s4.drop
theorem Rows_spec (p : Nat) (lim : Int) (its : List It) (w0 w : World) (A : Asn) (hl : its.length ≤ 1048576) (s : St w0 (A * gds p lim its) w) :
    CallW Tryz.prog 12 [.pointer (some ⟨p, 0, none⟩)]
      (fun r w' => St w0 (A * gds p lim its * own 60 4 r its.length (flat its)) w') w := by
  refine callW_of_lift l12_ok (by simp [l12]) ?_
  simp [l12]
  obtain ⟨v, s2⟩ := gopen s
  obtain ⟨a, cap, rfl, _⟩ := s2.own_val
  refine eff_ldc (v := .slice a its.length cap) (by rw [cell_of s2.swap.look]; rfl) ?_
  simp
  refine loopI (fun env w' => ∃ (i : Nat) (v o : Value), env = [.pointer (some ⟨p, 0, none⟩), .slice none 0 0, v, o, .slice a its.length cap, .int .i64 its.length, .int .i64 i] ∧ i ≤ its.length ∧
      St w0 (A * pt p (.cells #[.int .i64 lim, .slice a its.length cap] 92 (0, 0)) * own 88 4 (.slice a its.length cap) its.length (flat its) * own 60 4 v i (flat (its.take i))) w')
    (fun env _ => its.length - slotN env 6) ⟨0, _, _, rfl, by omega, s2.own_nil _ _⟩ ?_
  rintro LQ env w' ⟨i, v, o, rfl, hi, s'⟩ hN hE hR
  simp
  refine cndI (fun h => ?_) (fun h => ?_)
  · simp at h
    obtain ⟨g, cap', hv, _, hc⟩ := s'.swap.own_at (by omega)
    cases hv
    simp [h]
    refine eff_ldcs (vs := its[i].cs) (fun j u hu => hc _ _ (flat_at h j u hu)) rfl ?_
    simp
    refine eff_new s' ?_
    intro b w1 s1
    simp
    refine eff_stA (vs := its[i].cs) s1 rfl rfl (cs_one _) (by simp) ?_
    intro w2 s2
    simp
    have s3 : St w0 (A * pt p (.cells #[.int .i64 lim, .slice (some ⟨g, 0, none⟩) its.length cap] 92 (0, 0)) * own 88 4 (.slice (some ⟨g, 0, none⟩) its.length cap) its.length (flat its) * own 60 4 v i (flat (its.take i)) * pt b (.cells its[i].cs.toArray 88 (0, 0))) w2 := by simpa using s2
    refine eff_ldcs (vs := its[i].cs) s3.row_cells rfl ?_
    simp
    refine eff_bslV s3 rfl ?_
    intro c w4 s4
    simp
    refine eff_app (m := 1) (news := its[i].cs) s4.p3 rfl s4.cells_look (cs_one _) (by decide) rfl (by unfold maxLen; omega) (by omega) ?_
    intro v' w5 s5
    simp
    try simp (disch := omega) only [wrap64]
    refine hN _ _ ⟨i + 1, v', _, by simp; exact rfl, by omega, ?_⟩ (by simp [slotN]; omega)
    have e : flat (its.take i) ++ its[i].cs = flat (its.take (i + 1)) := by rw [List.take_succ_eq_append_getElem h]; simp only [flat, List.flatMap_append, List.flatMap_cons, List.flatMap_nil, List.append_nil]
    rw [e] at s5
    exact s5.swap.drop.swap.drop
  · simp at h
    simp
    refine hE _ _ _ ?_
    simp
    have : i = its.length := by omega
    subst this
    rw [List.take_length] at s'
    exact (gclose s'.p3.p3).swap
theorem In1_spec (x : It) (q : Nat) (a : Int) (w0 w : World) (A : Asn) (s : St w0 (A * pt q (.cells #[.int .i64 a] 3 (0, 0))) w) :
    CallW Tryz.prog 87 [.agg x.cs.toArray, .pointer (some ⟨q, 0, none⟩)] (fun r w' => r = .bool (decide (0 < x.con) && decide (x.con = a)) ∧ St w0 (A * pt q (.cells #[.int .i64 a] 3 (0, 0))) w') w := by
  refine callW_of_lift l87_ok (by simp [l87]) ?_
  simp [l87]
  refine eff_box s ?_
  intro b w1 s1
  simp
  have hc : ∀ j u, x.cs[j]? = some u → w1.cell? ⟨b, 0 + j, none⟩ = some u := fun j u hu => by rw [cell_of s1.look]; simpa using hu
  refine eff_ldcs (vs := x.cs) hc rfl ?_
  simp
  refine eff_call ((held_spec x w0 w1 _ s1).mono ?_)
  rintro r w2 ⟨rfl, s2⟩
  have hc2 : w2.cell? ⟨b, 3, none⟩ = some (.int .i64 x.con) := by rw [cell_of s2.look]; rfl
  have hc3 : w2.cell? ⟨q, 0, none⟩ = some (.int .i64 a) := by rw [cell_of s2.swap.look]; rfl
  by_cases h : 0 < x.con
  · simp [h]
    refine eff_ldc hc2 ?_
    simp
    refine eff_ldc hc3 ?_
    simp
    exact s2.drop
  · simp [h]
    exact s2.drop
def ofF (its : List It) (a : Int) : List Int := (its.filter fun x => !decide (0 < x.con) && decide (x.acc = a)).map It.num
def inF (its : List It) (c : Int) : List Int := (its.filter fun x => decide (0 < x.con) && decide (x.con = c)).map It.num
def ints (l : List Int) : List Value := l.map (Value.int .i64)
theorem where_spec (p : Nat) (lim : Int) (its : List It) (f : FuncId) (q : Nat) (a : Int) (pred : It → Bool) (hb : hasBody Tryz.prog f = true)
    (hf : ∀ (x : It) (w0 w : World) (A : Asn), St w0 (A * pt q (.cells #[.int .i64 a] 3 (0, 0))) w → CallW Tryz.prog f [.agg x.cs.toArray, .pointer (some ⟨q, 0, none⟩)] (fun r w' => r = .bool (pred x) ∧ St w0 (A * pt q (.cells #[.int .i64 a] 3 (0, 0))) w') w)
    (w0 w : World) (A : Asn) (hl : its.length ≤ 1048576) (s : St w0 (A * gds p lim its * pt q (.cells #[.int .i64 a] 3 (0, 0))) w) :
    CallW Tryz.prog 86 [.pointer (some ⟨p, 0, none⟩), .func (.func f) #[] #[.pointer (some ⟨q, 0, none⟩)]]
      (fun r w' => St w0 (A * gds p lim its * own 3 1 r ((its.filter pred).map It.num).length (ints ((its.filter pred).map It.num))) w') w := by
  refine callW_of_lift l86_ok (by simp [l86]) ?_
  simp [l86]
  obtain ⟨v, s2⟩ := gopen s.swap
  obtain ⟨c, cap, rfl, _⟩ := s2.own_val
  refine eff_ldc (v := .slice c its.length cap) (by rw [cell_of s2.swap.look]; rfl) ?_
  simp
  refine loopI (fun env w' => ∃ (i : Nat) (v o : Value), env = [.pointer (some ⟨p, 0, none⟩), .func (.func f) #[] #[.pointer (some ⟨q, 0, none⟩)], .slice none 0 0, v, o, .slice c its.length cap, .int .i64 its.length, .int .i64 i] ∧ i ≤ its.length ∧
      St w0 (A * pt p (.cells #[.int .i64 lim, .slice c its.length cap] 92 (0, 0)) * own 88 4 (.slice c its.length cap) its.length (flat its) * own 3 1 v (((its.take i).filter pred).map It.num).length (ints (((its.take i).filter pred).map It.num)) * pt q (.cells #[.int .i64 a] 3 (0, 0))) w')
    (fun env _ => its.length - slotN env 7) ⟨0, _, _, rfl, by omega, ?_⟩ ?_
  · exact (s2.own_nil _ _).to (by simp [ints]; ac_rfl)
  rintro LQ env w' ⟨i, v, o, rfl, hi, s'⟩ hN hE hR
  simp
  refine cndI (fun h => ?_) (fun h => ?_)
  · simp at h
    obtain ⟨g, cap', hv, _, hc⟩ := s'.swap.drop.swap.own_at (by omega)
    cases hv
    simp [h]
    refine eff_ldcs (vs := its[i].cs) (fun j u hu => hc _ _ (flat_at h j u hu)) rfl ?_
    simp
    refine eff_new s' ?_
    intro b w1 s1
    simp
    refine eff_stA (vs := its[i].cs) s1 rfl rfl (cs_one _) (by simp) ?_
    intro w2 s2
    simp
    have s3 : St w0 (A * pt p (.cells #[.int .i64 lim, .slice (some ⟨g, 0, none⟩) its.length cap] 92 (0, 0)) * own 88 4 (.slice (some ⟨g, 0, none⟩) its.length cap) its.length (flat its) * own 3 1 v (((its.take i).filter pred).map It.num).length (ints (((its.take i).filter pred).map It.num)) * pt b (.cells its[i].cs.toArray 88 (0, 0)) * pt q (.cells #[.int .i64 a] 3 (0, 0))) w2 := by simpa using s2.swap
    refine eff_ldcs (vs := its[i].cs) s3.swap.row_cells rfl ?_
    simp
    refine eff_callv hb ((hf its[i] w0 w2 _ s3).mono ?_)
    rintro r w3 ⟨rfl, s4⟩
    have htake : its.take (i + 1) = its.take i ++ [its[i]] := List.take_succ_eq_append_getElem h
    simp
    refine cndI (fun hp => ?_) (fun hp => ?_)
    · have hp0 := hp
      simp
      refine eff_ldc (v := .int .i64 its[i].num) (by rw [cell_of s4.swap.look]; rfl) ?_
      simp
      refine eff_bsl1 s4 rfl ?_
      intro c1 w4 s5
      simp
      refine eff_app (m := 1) (news := [.int .i64 its[i].num]) (F := A * pt p (.cells #[.int .i64 lim, .slice (some ⟨g, 0, none⟩) its.length cap] 92 (0, 0)) * own 88 4 (.slice (some ⟨g, 0, none⟩) its.length cap) its.length (flat its) * pt b (.cells its[i].cs.toArray 88 (0, 0)) * pt q (.cells #[.int .i64 a] 3 (0, 0)) * pt c1 (.cells #[.int .i64 its[i].num] 3 (0, 0))) (s5.to (by ac_rfl)) rfl s5.cells_look (by simp [Value.oneCell']) (by decide) rfl ?_ ?_ ?_
      · have := List.length_filter_le pred (its.take i)
        simp only [List.length_map, List.length_take] at this ⊢
        unfold maxLen; omega
      · have := List.length_filter_le pred (its.take i)
        simp only [List.length_map, List.length_take] at this ⊢
        omega
      intro v' w5 s6
      simp
      try simp (disch := omega) only [wrap64]
      refine hN _ _ ⟨i + 1, v', _, by simp; exact rfl, by omega, ?_⟩ (by simp [slotN]; omega)
      refine St.cut (pt b (.cells its[i].cs.toArray 88 (0, 0)) * pt c1 (.cells #[.int .i64 its[i].num] 3 (0, 0))) s6 ?_
      rw [htake]
      simp only [List.filter_append, List.map_append, hp0, List.filter_cons_of_pos, List.filter_nil, List.map_cons, List.map_nil, ints, List.length_append, List.length_map, List.length_cons, List.length_nil]
      ac_rfl
    · have hp0 := hp
      simp
      try simp (disch := omega) only [wrap64]
      refine hN _ _ ⟨i + 1, v, _, by simp; exact rfl, by omega, ?_⟩ (by simp [slotN]; omega)
      refine St.cut (pt b (.cells its[i].cs.toArray 88 (0, 0))) s4 ?_
      rw [htake, List.filter_append, List.filter_cons_of_neg (by simp [hp0]), List.filter_nil, List.append_nil]
      ac_rfl
  · simp at h
    simp
    refine hE _ _ _ ?_
    simp
    have : i = its.length := by omega
    subst this
    rw [List.take_length] at s'
    exact ((gclose (A := A * own 3 1 v ((its.filter pred).map It.num).length (ints ((its.filter pred).map It.num))) (s'.drop.to (by ac_rfl))).swap).to (by simp)
theorem In_spec (p : Nat) (lim : Int) (its : List It) (a : Int) (w0 w : World) (A : Asn) (hl : its.length ≤ 1048576) (s : St w0 (A * gds p lim its) w) :
    CallW Tryz.prog 45 [.pointer (some ⟨p, 0, none⟩), .int .i64 a]
      (fun r w' => St w0 (A * gds p lim its * own 3 1 r (inF its a).length (ints (inF its a))) w') w := by
  refine callW_of_lift l45_ok (by simp [l45]) ?_
  simp [l45]
  refine eff_box s ?_
  intro q w1 s1
  simp
  refine eff_call ((where_spec p lim its 87 q a _ (by kernel_rfl) (fun x w0 w A s => In1_spec x q a w0 w A s) w0 w1 A hl s1).mono ?_)
  intro r w2 s2
  simp
  exact s2
end Go.HL.Gd

namespace Go.HL.Gd
open Go.HL Go.Proofs
set_option maxRecDepth 4000
set_option linter.unusedSimpArgs false
set_option linter.unusedVariables false
/-- items that stand right -/
structure WF (its : List It) : Prop where
  num : ∀ (i : Nat) (h : i < its.length), its[i].num = i + 1
  kind : ∀ x ∈ its, 0 ≤ x.kind ∧ x.kind < 16
def ofP (a : Int) (x : It) : Bool := !decide (0 < x.con) && decide (x.acc = a)
def tally (l : List It) : List Int := (List.range 16).map fun (k : Nat) => ((l.filter fun x => decide (x.kind = (k : Int))).length : Int)
end Go.HL.Gd

namespace Go.HL.Gd
open Go.HL Go.Proofs
set_option maxRecDepth 4000
set_option linter.unusedSimpArgs false
set_option linter.unusedVariables false
theorem ints_at {l : List Int} {i : Nat} (h : i < l.length) : (ints l)[i]? = some (.int .i64 l[i]) := by simp [ints, h]
theorem itemT : IntStruct Tryz.prog 60 4 := ⟨by kernel_rfl, by kernel_rfl, by kernel_rfl, by kernel_rfl, by kernel_rfl⟩
theorem It.cs_holds (x : It) : holdsInts x.cs.toArray 0 [x.num, x.kind, x.acc, x.con] := by
  intro j u hu
  rw [Nat.zero_add]
  match j with
  | 0 => simpa [It.cs] using hu
  | 1 => simpa [It.cs] using hu
  | 2 => simpa [It.cs] using hu
  | 3 => simpa [It.cs] using hu
  | j + 4 => simp at hu
theorem It.list_eq (x y : It) : ([x.num, x.kind, x.acc, x.con] == [y.num, y.kind, y.acc, y.con]) = decide (x = y) := by
  cases x; cases y
  simp
  rw [Bool.eq_iff_iff]
  simp
end Go.HL.Gd

namespace Go.HL.Gd
open Go.HL Go.Proofs
set_option maxRecDepth 4000
set_option linter.unusedSimpArgs false
set_option linter.unusedVariables false
theorem flat_one (l : List It) : ∀ u ∈ flat l, u.oneCell' = true := by
  intro u hu
  obtain ⟨x, _, hx⟩ := List.mem_flatMap.1 hu
  exact cs_one x u hx
/-- an act -/
structure Ac where
  kind : Int
  a : Int
  b : Int
def Ac.cs (x : Ac) : List Value := [.int .i64 x.kind, .int .i64 x.a, .int .i64 x.b]
def actF (lim : Int) (its : List It) (x : Ac) : Int × List It :=
  if x.kind = 1 then (makeF lim its x.a x.b).2 else if x.kind = 2 then moveF its x.a x.b else if x.kind = 3 then holdF its x.a x.b else if x.kind = 4 then freeF its x.a x.b else (0, its)
/-- what a list is behind an act -/
def wantF (was : List It) (x : Ac) : Option (List It) :=
  if x.kind = 1 then some (was ++ [⟨was.length + 1, x.a, x.b, 0⟩])
  else if x.kind = 2 ∨ x.kind = 3 ∨ x.kind = 4 then
    if 1 ≤ x.a ∧ x.a ≤ was.length then
      if decide ((was.getD (x.a.toNat - 1) ⟨0, 0, 0, 0⟩).con ≠ 0) = decide (x.kind = 4) then
        some (was.set (x.a.toNat - 1) ⟨(was.getD (x.a.toNat - 1) ⟨0, 0, 0, 0⟩).num, (was.getD (x.a.toNat - 1) ⟨0, 0, 0, 0⟩).kind, if x.kind = 3 then -1 else x.b, if x.kind = 3 then x.b else 0⟩)
      else none
    else none
  else some was
def movedF (was now : List It) (x : Ac) : Bool := match wantF was x with
  | some l => now == l
  | none => false
end Go.HL.Gd

namespace Go.HL.Gd
open Go.HL Go.Proofs
set_option maxRecDepth 4000
set_option linter.unusedSimpArgs false
set_option linter.unusedVariables false
/-- goods that stand right -/
structure GI (lim : Int) (its : List It) : Prop extends WF its where
  len : (its.length : Int) ≤ lim
  lim : lim ≤ 512
  place : ∀ x ∈ its, (x.con = 0 ∧ 0 ≤ x.acc ∧ x.acc < 64) ∨ (0 < x.con ∧ x.acc = -1)
def seenF (its : List It) (n : Int) : Nat := (its.filter fun x => !decide (0 < x.con) && (decide (0 ≤ x.acc) && decide (x.acc < n))).length
def heldN (its : List It) : Nat := (its.filter fun x => decide (x.con ≠ 0)).length
end Go.HL.Gd

namespace Go.HL.Gd
open Go.HL Go.Proofs
set_option maxRecDepth 4000
set_option linter.unusedSimpArgs false
set_option linter.unusedVariables false
theorem gi_put {lim : Int} {its : List It} (hg : GI lim its) {item : Int} {held : Bool} {a c : Int} (hp : (c = 0 ∧ 0 ≤ a ∧ a < 64) ∨ (0 < c ∧ a = -1)) : GI lim (putF its item held a c).2 := by
  unfold putF
  split
  · rename_i hi
    split
    · have hlt : item.toNat - 1 < its.length := by omega
      have hgd : its.getD (item.toNat - 1) ⟨0, 0, 0, 0⟩ = its[item.toNat - 1] := by simp [hlt]
      rw [hgd]
      refine ⟨⟨fun i h => ?_, fun x hx => ?_⟩, by rw [List.length_set]; exact hg.len, hg.lim, fun x hx => ?_⟩
      · rw [List.length_set] at h
        rw [List.getElem_set]
        split
        · rename_i e; subst e; exact hg.num _ h
        · exact hg.num i h
      · rcases List.mem_or_eq_of_mem_set hx with h | rfl
        · exact hg.kind x h
        · exact hg.kind its[item.toNat - 1] (List.getElem_mem hlt)
      · rcases List.mem_or_eq_of_mem_set hx with h | rfl
        · exact hg.place x h
        · exact hp
    · exact hg
  · exact hg
theorem acc_iff (a : Int) : accF a = true ↔ 0 ≤ a ∧ a < 64 := by simp [accF]
theorem put_no {its : List It} {item : Int} {held : Bool} {a c : Int} (h : (putF its item held a c).1 ≠ 0) : (putF its item held a c).2 = its := by
  unfold putF at h ⊢
  split
  · split
    · rename_i h1 h2; rw [if_pos h1, if_pos h2] at h; exact absurd rfl h
    · rfl
  · rfl
def acs (l : List Ac) : List Value := l.flatMap Ac.cs
end Go.HL.Gd

namespace Go.HL.Gd
open Go.HL Go.Proofs
set_option maxRecDepth 4000
set_option linter.unusedSimpArgs false
set_option linter.unusedVariables false
-- slices.Clone[[]bazaar/goods.thing,bazaar/goods.thing]
-- (*bazaar/goods.Goods).Copy
-- bazaar/goods.Load
def h7_0 : HC := (.seq (.reg (.done [(2, (.inp 4)), (3, (.cst (.int .i64 0)))] none)) .ret)
@[simp] theorem h7_0_wp {P : Program} {F : PF P} {Q : EX → List Value → World → Prop} {env : List Value} {w : World} : h7_0.wp F Q env w = HC.wp F (.seq (.reg (.done [(2, (.inp 4)), (3, (.cst (.int .i64 0)))] none)) .ret) Q env w := rfl
def h7_1 : HC := (.reg (.chk none (.bin .add) (.cons (.inp 11) (.cons (.cst (.int .i64 1)) .nil)) (.done [(11, (.op (.bin .add) (.cons (.inp 11) (.cons (.cst (.int .i64 1)) .nil))))] none)))
@[simp] theorem h7_1_wp {P : Program} {F : PF P} {Q : EX → List Value → World → Prop} {env : List Value} {w : World} : h7_1.wp F Q env w = HC.wp F (.reg (.chk none (.bin .add) (.cons (.inp 11) (.cons (.cst (.int .i64 1)) .nil)) (.done [(11, (.op (.bin .add) (.cons (.inp 11) (.cons (.cst (.int .i64 1)) .nil))))] none))) Q env w := rfl
def h7_2 : HC := (.regq (some 2) (.chk none .chkp (.cons (.inp 4) .nil) (.chk none (.fld 1) (.cons (.op .chkp (.cons (.inp 4) .nil)) .nil) (.eff (.ld false 1) (.cons (.op (.fld 1) (.cons (.op .chkp (.cons (.inp 4) .nil)) .nil)) .nil) (.eff (.ld true 4) (.cons (.inp 8) .nil) (.eff (.bsl 88 1 4 #[(.int .i64 0), (.int .i64 0), (.int .i64 0), (.int .i64 0)] [0]) (.cons (.bv 1) .nil) (.eff (.app 90 90 88 4 32 (.agg #[(.int .i64 0), (.int .i64 0), (.int .i64 0), (.int .i64 0)])) (.cons (.bv 0) (.cons (.bv 2) .nil)) (.chk none .chkp (.cons (.inp 4) .nil) (.chk none (.fld 1) (.cons (.op .chkp (.cons (.inp 4) .nil)) .nil) (.eff (.st 1) (.cons (.op (.fld 1) (.cons (.op .chkp (.cons (.inp 4) .nil)) .nil)) (.cons (.bv 3) .nil)) (.done [] none)))))))))))
@[simp] theorem h7_2_wp {P : Program} {F : PF P} {Q : EX → List Value → World → Prop} {env : List Value} {w : World} : h7_2.wp F Q env w = HC.wp F (.regq (some 2) (.chk none .chkp (.cons (.inp 4) .nil) (.chk none (.fld 1) (.cons (.op .chkp (.cons (.inp 4) .nil)) .nil) (.eff (.ld false 1) (.cons (.op (.fld 1) (.cons (.op .chkp (.cons (.inp 4) .nil)) .nil)) .nil) (.eff (.ld true 4) (.cons (.inp 8) .nil) (.eff (.bsl 88 1 4 #[(.int .i64 0), (.int .i64 0), (.int .i64 0), (.int .i64 0)] [0]) (.cons (.bv 1) .nil) (.eff (.app 90 90 88 4 32 (.agg #[(.int .i64 0), (.int .i64 0), (.int .i64 0), (.int .i64 0)])) (.cons (.bv 0) (.cons (.bv 2) .nil)) (.chk none .chkp (.cons (.inp 4) .nil) (.chk none (.fld 1) (.cons (.op .chkp (.cons (.inp 4) .nil)) .nil) (.eff (.st 1) (.cons (.op (.fld 1) (.cons (.op .chkp (.cons (.inp 4) .nil)) .nil)) (.cons (.bv 3) .nil)) (.done [] none))))))))))) Q env w := rfl
def h7_3 : HC := (.seq (.reg (.done [(2, (.cst (.pointer none))), (3, (.cst (.int .i64 151)))] none)) .ret)
@[simp] theorem h7_3_wp {P : Program} {F : PF P} {Q : EX → List Value → World → Prop} {env : List Value} {w : World} : h7_3.wp F Q env w = HC.wp F (.seq (.reg (.done [(2, (.cst (.pointer none))), (3, (.cst (.int .i64 151)))] none)) .ret) Q env w := rfl
def h7_4 : HC := (.seq (.reg (.done [(2, (.cst (.pointer none))), (3, (.cst (.int .i64 152)))] none)) .ret)
@[simp] theorem h7_4_wp {P : Program} {F : PF P} {Q : EX → List Value → World → Prop} {env : List Value} {w : World} : h7_4.wp F Q env w = HC.wp F (.seq (.reg (.done [(2, (.cst (.pointer none))), (3, (.cst (.int .i64 152)))] none)) .ret) Q env w := rfl
def h7_5 : HC := (.seq (.reg (.done [(2, (.cst (.pointer none))), (3, (.cst (.int .i64 2)))] none)) .ret)
@[simp] theorem h7_5_wp {P : Program} {F : PF P} {Q : EX → List Value → World → Prop} {env : List Value} {w : World} : h7_5.wp F Q env w = HC.wp F (.seq (.reg (.done [(2, (.cst (.pointer none))), (3, (.cst (.int .i64 2)))] none)) .ret) Q env w := rfl
def h7_6 : HC := (.cnd 12 h7_5 .skip)
@[simp] theorem h7_6_wp {P : Program} {F : PF P} {Q : EX → List Value → World → Prop} {env : List Value} {w : World} : h7_6.wp F Q env w = HC.wp F (.cnd 12 h7_5 .skip) Q env w := rfl
def h7_7 : HC := (.reg (.eff (.ld true 4) (.cons (.inp 8) .nil) (.eff (.call 35) (.cons (.bv 0) .nil) (.chk none (.un .not) (.cons (.bv 1) .nil) (.bnd (.op (.un .not) (.cons (.bv 1) .nil)) (.chk (some ((.bv 2), true)) (.fld 0) (.cons (.inp 8) .nil) (.chk (some ((.bv 2), true)) (.fld 2) (.cons (.op (.fld 0) (.cons (.inp 8) .nil)) .nil) (.ite (.bv 2) true (.eff (.ld false 1) (.cons (.ite (.bv 2) true (.op (.fld 2) (.cons (.op (.fld 0) (.cons (.inp 8) .nil)) .nil)) (.cst (.tuple #[]))) .nil) (.chk none (.cal 36) (.cons (.bv 3) .nil) (.chk none (.un .not) (.cons (.op (.cal 36) (.cons (.bv 3) .nil)) .nil) (.isb none (.bv 2) (.done [(12, (.op (.un .not) (.cons (.op (.cal 36) (.cons (.bv 3) .nil)) .nil)))] none))))) (.isb none (.bv 2) (.done [(12, (.cst (.bool false)))] none))))))))))
@[simp] theorem h7_7_wp {P : Program} {F : PF P} {Q : EX → List Value → World → Prop} {env : List Value} {w : World} : h7_7.wp F Q env w = HC.wp F (.reg (.eff (.ld true 4) (.cons (.inp 8) .nil) (.eff (.call 35) (.cons (.bv 0) .nil) (.chk none (.un .not) (.cons (.bv 1) .nil) (.bnd (.op (.un .not) (.cons (.bv 1) .nil)) (.chk (some ((.bv 2), true)) (.fld 0) (.cons (.inp 8) .nil) (.chk (some ((.bv 2), true)) (.fld 2) (.cons (.op (.fld 0) (.cons (.inp 8) .nil)) .nil) (.ite (.bv 2) true (.eff (.ld false 1) (.cons (.ite (.bv 2) true (.op (.fld 2) (.cons (.op (.fld 0) (.cons (.inp 8) .nil)) .nil)) (.cst (.tuple #[]))) .nil) (.chk none (.cal 36) (.cons (.bv 3) .nil) (.chk none (.un .not) (.cons (.op (.cal 36) (.cons (.bv 3) .nil)) .nil) (.isb none (.bv 2) (.done [(12, (.op (.un .not) (.cons (.op (.cal 36) (.cons (.bv 3) .nil)) .nil)))] none))))) (.isb none (.bv 2) (.done [(12, (.cst (.bool false)))] none)))))))))) Q env w := rfl
def h7_8 : HC := (.cnd 12 .skip h7_7)
@[simp] theorem h7_8_wp {P : Program} {F : PF P} {Q : EX → List Value → World → Prop} {env : List Value} {w : World} : h7_8.wp F Q env w = HC.wp F (.cnd 12 .skip h7_7) Q env w := rfl
def h7_9 : HC := (.seq (.reg (.eff (.ld true 4) (.cons (.inp 8) .nil) (.eff (.call 35) (.cons (.bv 0) .nil) (.chk (some ((.bv 1), true)) (.fld 0) (.cons (.inp 8) .nil) (.chk (some ((.bv 1), true)) (.fld 2) (.cons (.op (.fld 0) (.cons (.inp 8) .nil)) .nil) (.ite (.bv 1) true (.eff (.ld false 1) (.cons (.ite (.bv 1) true (.op (.fld 2) (.cons (.op (.fld 0) (.cons (.inp 8) .nil)) .nil)) (.cst (.tuple #[]))) .nil) (.chk none (.bin .neq) (.cons (.bv 2) (.cons (.cst (.int .i64 (-1))) .nil)) (.isb none (.bv 1) (.done [(12, (.op (.bin .neq) (.cons (.bv 2) (.cons (.cst (.int .i64 (-1))) .nil))))] none)))) (.isb none (.bv 1) (.done [(12, (.cst (.bool false)))] none)))))))) h7_8)
@[simp] theorem h7_9_wp {P : Program} {F : PF P} {Q : EX → List Value → World → Prop} {env : List Value} {w : World} : h7_9.wp F Q env w = HC.wp F (.seq (.reg (.eff (.ld true 4) (.cons (.inp 8) .nil) (.eff (.call 35) (.cons (.bv 0) .nil) (.chk (some ((.bv 1), true)) (.fld 0) (.cons (.inp 8) .nil) (.chk (some ((.bv 1), true)) (.fld 2) (.cons (.op (.fld 0) (.cons (.inp 8) .nil)) .nil) (.ite (.bv 1) true (.eff (.ld false 1) (.cons (.ite (.bv 1) true (.op (.fld 2) (.cons (.op (.fld 0) (.cons (.inp 8) .nil)) .nil)) (.cst (.tuple #[]))) .nil) (.chk none (.bin .neq) (.cons (.bv 2) (.cons (.cst (.int .i64 (-1))) .nil)) (.isb none (.bv 1) (.done [(12, (.op (.bin .neq) (.cons (.bv 2) (.cons (.cst (.int .i64 (-1))) .nil))))] none)))) (.isb none (.bv 1) (.done [(12, (.cst (.bool false)))] none)))))))) h7_8) Q env w := rfl
def h7_10 : HC := (.seq (.cnd 12 .skip h7_9) h7_6)
@[simp] theorem h7_10_wp {P : Program} {F : PF P} {Q : EX → List Value → World → Prop} {env : List Value} {w : World} : h7_10.wp F Q env w = HC.wp F (.seq (.cnd 12 .skip h7_9) h7_6) Q env w := rfl
def h7_11 : HC := (.seq (.reg (.chk none (.fld 0) (.cons (.inp 8) .nil) (.chk none (.fld 3) (.cons (.op (.fld 0) (.cons (.inp 8) .nil)) .nil) (.eff (.ld false 1) (.cons (.op (.fld 3) (.cons (.op (.fld 0) (.cons (.inp 8) .nil)) .nil)) .nil) (.chk none (.bin .lss) (.cons (.bv 0) (.cons (.cst (.int .i64 0)) .nil)) (.done [(12, (.op (.bin .lss) (.cons (.bv 0) (.cons (.cst (.int .i64 0)) .nil))))] none)))))) h7_10)
@[simp] theorem h7_11_wp {P : Program} {F : PF P} {Q : EX → List Value → World → Prop} {env : List Value} {w : World} : h7_11.wp F Q env w = HC.wp F (.seq (.reg (.chk none (.fld 0) (.cons (.inp 8) .nil) (.chk none (.fld 3) (.cons (.op (.fld 0) (.cons (.inp 8) .nil)) .nil) (.eff (.ld false 1) (.cons (.op (.fld 3) (.cons (.op (.fld 0) (.cons (.inp 8) .nil)) .nil)) .nil) (.chk none (.bin .lss) (.cons (.bv 0) (.cons (.cst (.int .i64 0)) .nil)) (.done [(12, (.op (.bin .lss) (.cons (.bv 0) (.cons (.cst (.int .i64 0)) .nil))))] none)))))) h7_10) Q env w := rfl
def h7_12 : HC := (.br (.chk none (.fld 0) (.cons (.inp 8) .nil) (.chk none (.fld 1) (.cons (.op (.fld 0) (.cons (.inp 8) .nil)) .nil) (.eff (.ld false 1) (.cons (.op (.fld 1) (.cons (.op (.fld 0) (.cons (.inp 8) .nil)) .nil)) .nil) (.chk none (.cal 34) (.cons (.bv 0) .nil) (.chk none (.un .not) (.cons (.op (.cal 34) (.cons (.bv 0) .nil)) .nil) (.done [] (some (.op (.un .not) (.cons (.op (.cal 34) (.cons (.bv 0) .nil)) .nil))))))))) h7_4 h7_11)
@[simp] theorem h7_12_wp {P : Program} {F : PF P} {Q : EX → List Value → World → Prop} {env : List Value} {w : World} : h7_12.wp F Q env w = HC.wp F (.br (.chk none (.fld 0) (.cons (.inp 8) .nil) (.chk none (.fld 1) (.cons (.op (.fld 0) (.cons (.inp 8) .nil)) .nil) (.eff (.ld false 1) (.cons (.op (.fld 1) (.cons (.op (.fld 0) (.cons (.inp 8) .nil)) .nil)) .nil) (.chk none (.cal 34) (.cons (.bv 0) .nil) (.chk none (.un .not) (.cons (.op (.cal 34) (.cons (.bv 0) .nil)) .nil) (.done [] (some (.op (.un .not) (.cons (.op (.cal 34) (.cons (.bv 0) .nil)) .nil))))))))) h7_4 h7_11) Q env w := rfl
def h7_13 : HC := (.br (.chk none (.fld 0) (.cons (.inp 8) .nil) (.chk none (.fld 0) (.cons (.op (.fld 0) (.cons (.inp 8) .nil)) .nil) (.eff (.ld false 1) (.cons (.op (.fld 0) (.cons (.op (.fld 0) (.cons (.inp 8) .nil)) .nil)) .nil) (.chk none (.bin .add) (.cons (.inp 6) (.cons (.cst (.int .i64 1)) .nil)) (.chk none (.bin .neq) (.cons (.bv 0) (.cons (.op (.bin .add) (.cons (.inp 6) (.cons (.cst (.int .i64 1)) .nil))) .nil)) (.done [] (some (.op (.bin .neq) (.cons (.bv 0) (.cons (.op (.bin .add) (.cons (.inp 6) (.cons (.cst (.int .i64 1)) .nil))) .nil)))))))))) h7_3 h7_12)
@[simp] theorem h7_13_wp {P : Program} {F : PF P} {Q : EX → List Value → World → Prop} {env : List Value} {w : World} : h7_13.wp F Q env w = HC.wp F (.br (.chk none (.fld 0) (.cons (.inp 8) .nil) (.chk none (.fld 0) (.cons (.op (.fld 0) (.cons (.inp 8) .nil)) .nil) (.eff (.ld false 1) (.cons (.op (.fld 0) (.cons (.op (.fld 0) (.cons (.inp 8) .nil)) .nil)) .nil) (.chk none (.bin .add) (.cons (.inp 6) (.cons (.cst (.int .i64 1)) .nil)) (.chk none (.bin .neq) (.cons (.bv 0) (.cons (.op (.bin .add) (.cons (.inp 6) (.cons (.cst (.int .i64 1)) .nil))) .nil)) (.done [] (some (.op (.bin .neq) (.cons (.bv 0) (.cons (.op (.bin .add) (.cons (.inp 6) (.cons (.cst (.int .i64 1)) .nil))) .nil)))))))))) h7_3 h7_12) Q env w := rfl
def h7_14 : HC := (.seq (.block 2 h7_13) h7_2)
@[simp] theorem h7_14_wp {P : Program} {F : PF P} {Q : EX → List Value → World → Prop} {env : List Value} {w : World} : h7_14.wp F Q env w = HC.wp F (.seq (.block 2 h7_13) h7_2) Q env w := rfl
def h7_15 : HC := (.seq (.reg (.eff (.ld true 4) (.cons (.inp 7) .nil) (.chk none (.build #[(.int .i64 0), (.int .i64 0), (.int .i64 0), (.int .i64 0)] [(0, 4)] [0]) (.cons (.bv 0) .nil) (.eff (.new 88 (.agg #[(.int .i64 0), (.int .i64 0), (.int .i64 0), (.int .i64 0)])) .nil (.eff (.st 4) (.cons (.bv 1) (.cons (.op (.build #[(.int .i64 0), (.int .i64 0), (.int .i64 0), (.int .i64 0)] [(0, 4)] [0]) (.cons (.bv 0) .nil)) .nil)) (.done [(8, (.bv 1))] none)))))) h7_14)
@[simp] theorem h7_15_wp {P : Program} {F : PF P} {Q : EX → List Value → World → Prop} {env : List Value} {w : World} : h7_15.wp F Q env w = HC.wp F (.seq (.reg (.eff (.ld true 4) (.cons (.inp 7) .nil) (.chk none (.build #[(.int .i64 0), (.int .i64 0), (.int .i64 0), (.int .i64 0)] [(0, 4)] [0]) (.cons (.bv 0) .nil) (.eff (.new 88 (.agg #[(.int .i64 0), (.int .i64 0), (.int .i64 0), (.int .i64 0)])) .nil (.eff (.st 4) (.cons (.bv 1) (.cons (.op (.build #[(.int .i64 0), (.int .i64 0), (.int .i64 0), (.int .i64 0)] [(0, 4)] [0]) (.cons (.bv 0) .nil)) .nil)) (.done [(8, (.bv 1))] none)))))) h7_14) Q env w := rfl
def h7_16 : HC := (.seq (.reg (.chk none (.idxL 4) (.cons (.inp 9) (.cons (.inp 11) .nil)) (.eff (.ld true 4) (.cons (.op (.idxL 4) (.cons (.inp 9) (.cons (.inp 11) .nil))) .nil) (.eff (.new 60 (.agg #[(.int .i64 0), (.int .i64 0), (.int .i64 0), (.int .i64 0)])) .nil (.eff (.st 4) (.cons (.bv 1) (.cons (.bv 0) .nil)) (.done [(6, (.inp 11)), (7, (.bv 1))] none)))))) h7_15)
@[simp] theorem h7_16_wp {P : Program} {F : PF P} {Q : EX → List Value → World → Prop} {env : List Value} {w : World} : h7_16.wp F Q env w = HC.wp F (.seq (.reg (.chk none (.idxL 4) (.cons (.inp 9) (.cons (.inp 11) .nil)) (.eff (.ld true 4) (.cons (.op (.idxL 4) (.cons (.inp 9) (.cons (.inp 11) .nil))) .nil) (.eff (.new 60 (.agg #[(.int .i64 0), (.int .i64 0), (.int .i64 0), (.int .i64 0)])) .nil (.eff (.st 4) (.cons (.bv 1) (.cons (.bv 0) .nil)) (.done [(6, (.inp 11)), (7, (.bv 1))] none)))))) h7_15) Q env w := rfl
def h7_17 : HC := (.seq (.block 1 h7_16) h7_1)
@[simp] theorem h7_17_wp {P : Program} {F : PF P} {Q : EX → List Value → World → Prop} {env : List Value} {w : World} : h7_17.wp F Q env w = HC.wp F (.seq (.block 1 h7_16) h7_1) Q env w := rfl
def h7_18 : HC := (.seq (.br (.chk none (.bin .lss) (.cons (.inp 11) (.cons (.inp 10) .nil)) (.done [] (some (.op (.bin .lss) (.cons (.inp 11) (.cons (.inp 10) .nil)))))) .skip (.exit 0)) h7_17)
@[simp] theorem h7_18_wp {P : Program} {F : PF P} {Q : EX → List Value → World → Prop} {env : List Value} {w : World} : h7_18.wp F Q env w = HC.wp F (.seq (.br (.chk none (.bin .lss) (.cons (.inp 11) (.cons (.inp 10) .nil)) (.done [] (some (.op (.bin .lss) (.cons (.inp 11) (.cons (.inp 10) .nil)))))) .skip (.exit 0)) h7_17) Q env w := rfl
def h7_19 : HC := (.loop h7_18)
@[simp] theorem h7_19_wp {P : Program} {F : PF P} {Q : EX → List Value → World → Prop} {env : List Value} {w : World} : h7_19.wp F Q env w = HC.wp F (.loop h7_18) Q env w := rfl
def h7_20 : HC := (.seq (.block 0 h7_19) h7_0)
@[simp] theorem h7_20_wp {P : Program} {F : PF P} {Q : EX → List Value → World → Prop} {env : List Value} {w : World} : h7_20.wp F Q env w = HC.wp F (.seq (.block 0 h7_19) h7_0) Q env w := rfl
def h7_21 : HC := (.seq (.reg (.chk none .lenL (.cons (.inp 1) .nil) (.done [(9, (.inp 1)), (10, (.op .lenL (.cons (.inp 1) .nil))), (11, (.cst (.int .i64 0)))] none))) h7_20)
@[simp] theorem h7_21_wp {P : Program} {F : PF P} {Q : EX → List Value → World → Prop} {env : List Value} {w : World} : h7_21.wp F Q env w = HC.wp F (.seq (.reg (.chk none .lenL (.cons (.inp 1) .nil) (.done [(9, (.inp 1)), (10, (.op .lenL (.cons (.inp 1) .nil))), (11, (.cst (.int .i64 0)))] none))) h7_20) Q env w := rfl
def h7_22 : HC := (.seq (.reg (.done [(2, (.cst (.pointer none))), (3, (.cst (.int .i64 150)))] none)) .ret)
@[simp] theorem h7_22_wp {P : Program} {F : PF P} {Q : EX → List Value → World → Prop} {env : List Value} {w : World} : h7_22.wp F Q env w = HC.wp F (.seq (.reg (.done [(2, (.cst (.pointer none))), (3, (.cst (.int .i64 150)))] none)) .ret) Q env w := rfl
def h7_23 : HC := (.seq (.br (.chk none .lenL (.cons (.inp 1) .nil) (.chk none (.bin .gtr) (.cons (.op .lenL (.cons (.inp 1) .nil)) (.cons (.inp 0) .nil)) (.done [] (some (.op (.bin .gtr) (.cons (.op .lenL (.cons (.inp 1) .nil)) (.cons (.inp 0) .nil))))))) h7_22 .skip) h7_21)
@[simp] theorem h7_23_wp {P : Program} {F : PF P} {Q : EX → List Value → World → Prop} {env : List Value} {w : World} : h7_23.wp F Q env w = HC.wp F (.seq (.br (.chk none .lenL (.cons (.inp 1) .nil) (.chk none (.bin .gtr) (.cons (.op .lenL (.cons (.inp 1) .nil)) (.cons (.inp 0) .nil)) (.done [] (some (.op (.bin .gtr) (.cons (.op .lenL (.cons (.inp 1) .nil)) (.cons (.inp 0) .nil))))))) h7_22 .skip) h7_21) Q env w := rfl
def h7_24 : HC := (.seq (.reg (.done [(2, (.cst (.pointer none))), (3, (.inp 5))] none)) .ret)
@[simp] theorem h7_24_wp {P : Program} {F : PF P} {Q : EX → List Value → World → Prop} {env : List Value} {w : World} : h7_24.wp F Q env w = HC.wp F (.seq (.reg (.done [(2, (.cst (.pointer none))), (3, (.inp 5))] none)) .ret) Q env w := rfl
def h7_25 : HC := (.seq (.br (.chk none (.bin .neq) (.cons (.inp 5) (.cons (.cst (.int .i64 0)) .nil)) (.done [] (some (.op (.bin .neq) (.cons (.inp 5) (.cons (.cst (.int .i64 0)) .nil)))))) h7_24 .skip) h7_23)
@[simp] theorem h7_25_wp {P : Program} {F : PF P} {Q : EX → List Value → World → Prop} {env : List Value} {w : World} : h7_25.wp F Q env w = HC.wp F (.seq (.br (.chk none (.bin .neq) (.cons (.inp 5) (.cons (.cst (.int .i64 0)) .nil)) (.done [] (some (.op (.bin .neq) (.cons (.inp 5) (.cons (.cst (.int .i64 0)) .nil)))))) h7_24 .skip) h7_23) Q env w := rfl
def h7_26 : HC := (.seq (.reg (.eff (.call 33) (.cons (.inp 0) .nil) (.chk none (.ext 0) (.cons (.bv 0) .nil) (.chk none (.ext 1) (.cons (.bv 0) .nil) (.done [(4, (.op (.ext 0) (.cons (.bv 0) .nil))), (5, (.op (.ext 1) (.cons (.bv 0) .nil)))] none))))) h7_25)
@[simp] theorem h7_26_wp {P : Program} {F : PF P} {Q : EX → List Value → World → Prop} {env : List Value} {w : World} : h7_26.wp F Q env w = HC.wp F (.seq (.reg (.eff (.call 33) (.cons (.inp 0) .nil) (.chk none (.ext 0) (.cons (.bv 0) .nil) (.chk none (.ext 1) (.cons (.bv 0) .nil) (.done [(4, (.op (.ext 0) (.cons (.bv 0) .nil))), (5, (.op (.ext 1) (.cons (.bv 0) .nil)))] none))))) h7_25) Q env w := rfl
def l7 : Lifted := ⟨[0, 1, 4, 5, 6, 7, 8, 9, 10, 23, 24, 25, 45], 80, [.slot 2, .slot 3], (.seq (.reg (.done [(2, (.cst (.pointer none))), (3, (.cst (.int .i64 0)))] none)) h7_26)⟩
theorem l7_ok : liftFn G1 7 400 = some l7 := by kernel_rfl


theorem fill_thing (x : It) : Instr.fill (fun i => ([(0, 4)] : List (Nat × Nat))[i]?) #[.int .i64 0, .int .i64 0, .int .i64 0, .int .i64 0] [(0, .agg x.cs.toArray)] = some x.cs.toArray := by
  cases x
  simp [Instr.fill, It.cs, Value.cells]
def itemE (i : Nat) (x : It) : Int := if x.num ≠ (i : Int) + 1 then 151 else if kindF x.kind = false then 152 else if x.con < 0 ∨ (0 < x.con ∧ x.acc ≠ -1) ∨ (¬ 0 < x.con ∧ accF x.acc = false) then 2 else 0
def scanE : Nat → List It → Int
  | _, [] => 0
  | i, x :: l => if itemE i x = 0 then scanE (i + 1) l else itemE i x
def loadE (lim : Int) (rows : List It) : Int := if 0 ≤ lim ∧ lim ≤ 512 then (if lim < rows.length then 150 else scanE 0 rows) else 2
theorem Load_spec (lim : Int) (rows : List It) (v : Value) (w0 w : World) (A : Asn) (hl : rows.length ≤ 1048576) (hrow : Row w0 A v rows.length 4 (flat rows)) (s : St w0 A w) :
    CallW Tryz.prog 7 [.int .i64 lim, v] (fun r w' => if loadE lim rows = 0 then ∃ p, r = .tuple #[.pointer (some ⟨p, 0, none⟩), .int .i64 0] ∧ St w0 (A * gds p lim rows) w' else r = .tuple #[.pointer none, .int .i64 (loadE lim rows)] ∧ St w0 A w') w := by
  obtain ⟨a, cap, rfl⟩ := hrow.val
  refine callW_of_lift l7_ok (by simp [l7]) ?_
  simp [l7]
  refine eff_call ((New_spec lim w0 w A s).mono ?_)
  intro r w1 h1
  by_cases h0 : 0 ≤ lim ∧ lim ≤ 512
  · rw [if_pos h0] at h1
    obtain ⟨p, rfl, s1⟩ := h1
    simp
    refine cndI (fun h2 => ?_) (fun h2 => ?_)
    · simp at h2
      have e : loadE lim rows = 150 := by unfold loadE; rw [if_pos h0, if_pos h2]
      simp [e]
      exact s1.drop
    simp at h2
    have e : loadE lim rows = scanE 0 rows := by unfold loadE; rw [if_pos h0, if_neg (by omega)]
    rw [e]
    simp
    have e0 : scanE 0 rows = scanE 0 (rows.drop 0) := rfl
    rw [e0]
    refine loopI (fun env w' => ∃ (i : Nat) (o6 o7 o8 o12 : Value), env = [.int .i64 lim, .slice a rows.length cap, .pointer none, .int .i64 0, .pointer (some ⟨p, 0, none⟩), .int .i64 0, o6, o7, o8, .slice a rows.length cap, .int .i64 rows.length, .int .i64 i, o12] ∧ i ≤ rows.length ∧ scanE 0 (rows.drop 0) = scanE i (rows.drop i) ∧
        St w0 (A * gds p lim (rows.take i)) w')
      (fun env _ => rows.length - slotN env 11) ⟨0, _, _, _, _, rfl, by omega, rfl, s1⟩ ?_
    rintro LQ env w' ⟨i, o6, o7, o8, o12, rfl, hi, hsc, s'⟩ hN hE hR
    simp
    refine cndI (fun h => ?_) (fun h => ?_)
    · simp at h
      have hcur : scanE i (rows.drop i) = if itemE i rows[i] = 0 then scanE (i + 1) (rows.drop (i + 1)) else itemE i rows[i] := by rw [List.drop_eq_getElem_cons h]; rfl
      obtain ⟨g, o, cap', hv, hc⟩ := hrow.at (by omega)
      cases hv
      simp [h]
      refine eff_ldcs (vs := rows[i].cs) (fun j u hu => by rw [Nat.add_assoc]; exact hc _ s'.drop _ _ (flat_at h j u hu)) rfl ?_
      simp
      refine eff_new s' ?_
      intro rb w2 s2
      simp
      refine eff_stA (vs := rows[i].cs) s2 rfl rfl (cs_one _) (by simp) ?_
      intro w3 s3
      simp
      have s4 : St w0 (A * gds p lim (rows.take i) * pt rb (.cells rows[i].cs.toArray 60 (0, 0))) w3 := by simpa using s3
      refine eff_ldcs (vs := rows[i].cs) s4.row_cells rfl ?_
      simp [fill_thing]
      refine eff_new s4 ?_
      intro tb w4 s5
      simp [fill_thing]
      refine eff_stA (vs := rows[i].cs) s5 rfl rfl (cs_one _) (by simp) ?_
      intro w5 s6
      simp
      have s7 : St w0 (A * gds p lim (rows.take i) * pt rb (.cells rows[i].cs.toArray 60 (0, 0)) * pt tb (.cells rows[i].cs.toArray 88 (0, 0))) w5 := by simpa using s6
      have c0 : ∀ {B : Asn} {w : World}, St w0 (B * pt tb (.cells rows[i].cs.toArray 88 (0, 0))) w → w.cell? ⟨tb, 0, none⟩ = some (.int .i64 rows[i].num) ∧ w.cell? ⟨tb, 1, none⟩ = some (.int .i64 rows[i].kind) ∧ w.cell? ⟨tb, 2, none⟩ = some (.int .i64 rows[i].acc) ∧ w.cell? ⟨tb, 3, none⟩ = some (.int .i64 rows[i].con) :=
        fun s => ⟨by rw [cell_of s.look]; rfl, by rw [cell_of s.look]; rfl, by rw [cell_of s.look]; rfl, by rw [cell_of s.look]; rfl⟩
      have hw1 : IntKind.i64.wrap ((i : Int) + 1) = (i : Int) + 1 := wrap64 (by omega) (by omega)
      refine eff_ldc (c0 s7).1 ?_
      simp [hw1]
      refine cndI (fun e1 => ?_) (fun e1 => ?_)
      · simp at e1
        have hE1 : itemE i rows[i] = 151 := by unfold itemE; rw [if_pos e1]
        simp
        refine hR _ _ ?_
        rw [hsc, hcur, hE1]
        simp
        exact s7.drop.drop.drop
      simp at e1
      simp
      refine eff_ldc (c0 s7).2.1 ?_
      simp
      refine cndI (fun e2 => ?_) (fun e2 => ?_)
      · simp at e2
        have hE1 : itemE i rows[i] = 152 := by unfold itemE; rw [if_neg (by omega), if_pos e2]
        simp
        refine hR _ _ ?_
        rw [hsc, hcur, hE1]
        simp
        exact s7.drop.drop.drop
      simp at e2
      simp
      refine eff_ldc (c0 s7).2.2.2 ?_
      simp
      have bad : ∀ w, St w0 (A * gds p lim (rows.take i) * pt rb (.cells rows[i].cs.toArray 60 (0, 0)) * pt tb (.cells rows[i].cs.toArray 88 (0, 0))) w → itemE i rows[i] = 2 →
          HC.wp G1 h7_6 (blockQ 2 (seqQ G1 h7_2 (blockQ 1 (seqQ G1 h7_1 LQ))))
            [.int .i64 lim, .slice (some ⟨g, o, none⟩) rows.length cap, .pointer none, .int .i64 0, .pointer (some ⟨p, 0, none⟩), .int .i64 0, .int .i64 i, .pointer (some ⟨rb, 0, none⟩), .pointer (some ⟨tb, 0, none⟩), .slice (some ⟨g, o, none⟩) rows.length cap, .int .i64 rows.length, .int .i64 i, .bool true] w := by
        intro w s hE1
        simp
        refine hR _ _ ?_
        rw [hsc, hcur, hE1]
        simp
        exact s.drop.drop.drop
      have good : ∀ w, St w0 (A * gds p lim (rows.take i) * pt rb (.cells rows[i].cs.toArray 60 (0, 0)) * pt tb (.cells rows[i].cs.toArray 88 (0, 0))) w → itemE i rows[i] = 0 →
          HC.wp G1 h7_6 (blockQ 2 (seqQ G1 h7_2 (blockQ 1 (seqQ G1 h7_1 LQ))))
            [.int .i64 lim, .slice (some ⟨g, o, none⟩) rows.length cap, .pointer none, .int .i64 0, .pointer (some ⟨p, 0, none⟩), .int .i64 0, .int .i64 i, .pointer (some ⟨rb, 0, none⟩), .pointer (some ⟨tb, 0, none⟩), .slice (some ⟨g, o, none⟩) rows.length cap, .int .i64 rows.length, .int .i64 i, .bool false] w := by
        intro w s hE1
        simp
        obtain ⟨v0, t⟩ := gopen (s.to (B := A * pt rb (.cells rows[i].cs.toArray 60 (0, 0)) * pt tb (.cells rows[i].cs.toArray 88 (0, 0)) * gds p lim (rows.take i)) (by ac_rfl))
        obtain ⟨va, vc, rfl, _⟩ := t.own_val
        have hti : (rows.take i).length = i := by rw [List.length_take]; omega
        generalize hT : rows.take i = T at t hti
        refine regmI (fun vs w => match vs with
          | [] => St w0 (A * pt rb (.cells rows[i].cs.toArray 60 (0, 0)) * pt tb (.cells rows[i].cs.toArray 88 (0, 0)) * pt p (.cells #[.int .i64 lim, .slice va T.length vc] 92 (0, 0)) * own 88 4 (.slice va T.length vc) T.length (flat T)) w
          | [sl] => ∃ c, sl = .slice (some ⟨c, 0, none⟩) 1 1 ∧ St w0 (A * pt rb (.cells rows[i].cs.toArray 60 (0, 0)) * pt tb (.cells rows[i].cs.toArray 88 (0, 0)) * pt p (.cells #[.int .i64 lim, .slice va T.length vc] 92 (0, 0)) * own 88 4 (.slice va T.length vc) T.length (flat T) * pt c (.cells rows[i].cs.toArray 88 (0, 0))) w
          | [sl, v'] => ∃ c, sl = .slice (some ⟨c, 0, none⟩) 1 1 ∧ St w0 (A * pt rb (.cells rows[i].cs.toArray 60 (0, 0)) * pt tb (.cells rows[i].cs.toArray 88 (0, 0)) * pt p (.cells #[.int .i64 lim, .slice va T.length vc] 92 (0, 0)) * pt c (.cells rows[i].cs.toArray 88 (0, 0)) * own 88 4 v' (T.length + 1) (flat T ++ rows[i].cs)) w
          | _ :: v' :: _ => ∃ c, St w0 (A * pt rb (.cells rows[i].cs.toArray 60 (0, 0)) * pt tb (.cells rows[i].cs.toArray 88 (0, 0)) * pt c (.cells rows[i].cs.toArray 88 (0, 0)) * own 88 4 v' (T.length + 1) (flat T ++ rows[i].cs) * pt p (.cells #[.int .i64 lim, v'] 92 (0, 0))) w) t.drew ?_
        simp
        refine effm_ldc (v := .slice va T.length vc) (fun vs' w he hw => ?_) ?_
        · match vs', hw with
          | [], hw => rw [cell_of (St.swap hw).look]; rfl
          | [_], ⟨c, _, hw⟩ => rw [cell_of (St.swap hw.drop).look]; rfl
          | [_, _], ⟨c, _, hw⟩ => rw [cell_of hw.drop.drop.look]; rfl
          | _ :: _ :: _ :: _, hw => simp [era] at he
        simp
        refine effm_ldcs (us := rows[i].cs) (off := 0) (fun vs' w he hw => ?_) rfl ?_
        · match vs', hw with
          | [], hw => exact (St.drop (St.drop hw)).row_cells
          | [_], ⟨c, _, hw⟩ => exact hw.drop.drop.drop.row_cells
          | [_, _], ⟨c, _, hw⟩ => exact hw.drop.drop.drop.row_cells
          | _ :: _ :: _ :: _, hw => simp [era] at he
        simp
        refine effm_mv rfl (fun w hw => eff_bslV hw rfl fun c w' h => ⟨c, rfl, h⟩) (fun sl hsl => ?_)
        obtain ⟨w7, c, rfl, _⟩ := hsl
        simp
        refine effm_mv rfl (fun w hw => ?_) (fun v' hv' => ?_)
        · obtain ⟨c', e, hw⟩ := hw
          cases e
          have hw' := hw.to (B := A * pt rb (.cells rows[i].cs.toArray 60 (0, 0)) * pt tb (.cells rows[i].cs.toArray 88 (0, 0)) * pt p (.cells #[.int .i64 lim, .slice va T.length vc] 92 (0, 0)) * pt c (.cells rows[i].cs.toArray 88 (0, 0)) * own 88 4 (.slice va T.length vc) T.length (flat T)) (by ac_rfl)
          exact eff_app (m := 1) (news := rows[i].cs) hw' rfl hw.cells_look (cs_one _) (by decide) rfl (by unfold maxLen; omega) (by omega) fun v'' w' h => ⟨c, rfl, h⟩
        obtain ⟨w8, c', _, hv'⟩ := hv'
        obtain ⟨na, nc, rfl, _⟩ := hv'.own_val
        simp
        refine effm_mv rfl (fun w hw => ?_) (fun u _ => ?_)
        · obtain ⟨c', e, hw⟩ := hw
          have hw' := hw.to (B := A * pt rb (.cells rows[i].cs.toArray 60 (0, 0)) * pt tb (.cells rows[i].cs.toArray 88 (0, 0)) * pt c' (.cells rows[i].cs.toArray 88 (0, 0)) * own 88 4 (.slice na (T.length + 1) nc) (T.length + 1) (flat T ++ rows[i].cs) * pt p (.cells #[.int .i64 lim, .slice va T.length vc] 92 (0, 0))) (by ac_rfl)
          exact eff_st1 hw' rfl (by simp) fun w' h => ⟨c', by simpa using h⟩
        simp
        intro w9 c9 h9
        try simp (disch := omega) only [wrap64]
        refine hN _ _ ⟨i + 1, _, _, _, _, by simp; exact ⟨rfl, rfl, rfl, rfl⟩, by omega, ?_, ?_⟩ (by simp [slotN]; omega)
        · rw [hsc, hcur, if_pos hE1]
        · have htake : rows.take (i + 1) = T ++ [rows[i]] := by rw [← hT]; exact List.take_succ_eq_append_getElem h
          have e9 : flat T ++ rows[i].cs = flat (rows.take (i + 1)) := by rw [htake]; simp only [flat, List.flatMap_append, List.flatMap_cons, List.flatMap_nil, List.append_nil]
          have hl9 : T.length + 1 = (rows.take (i + 1)).length := by rw [htake]; simp
          rw [e9, hl9] at h9
          refine gclose (v := .slice na (rows.take (i + 1)).length nc) ?_
          exact St.cut (pt rb (.cells rows[i].cs.toArray 60 (0, 0)) * pt tb (.cells rows[i].cs.toArray 88 (0, 0)) * pt c9 (.cells rows[i].cs.toArray 88 (0, 0))) h9 (by ac_rfl)
      refine cndI (fun e3 => ?_) (fun e3 => ?_)
      · simp at e3
        have hE1 : itemE i rows[i] = 2 := by unfold itemE; rw [if_neg (by omega), if_neg (by simp [e2]), if_pos (.inl e3)]
        have := bad w5 s7 hE1
        simp at this
        simpa [e3] using this
      simp at e3
      simp
      refine eff_ldcs (vs := rows[i].cs) s7.row_cells rfl ?_
      simp
      refine eff_call ((held_spec rows[i] w0 w5 _ s7).mono ?_)
      rintro r w6 ⟨rfl, s8⟩
      simp
      by_cases hc0 : 0 < rows[i].con
      · simp [hc0]
        refine eff_ldc (c0 s8).2.2.1 ?_
        simp
        refine cndI (fun e4 => ?_) (fun e4 => ?_)
        · simp at e4
          have hE1 : itemE i rows[i] = 2 := by unfold itemE; rw [if_neg (by omega), if_neg (by simp [e2]), if_pos (.inr (.inl ⟨hc0, e4⟩))]
          have := bad w6 s8 hE1
          simp at this
          simpa [e4] using this
        · simp at e4
          have hE1 : itemE i rows[i] = 0 := by
            unfold itemE; rw [if_neg (by omega), if_neg (by simp [e2]), if_neg]
            rintro (h' | ⟨_, h'⟩ | ⟨h', _⟩) <;> omega
          simp
          refine eff_ldcs (vs := rows[i].cs) s8.row_cells rfl ?_
          simp
          refine eff_call ((held_spec rows[i] w0 w6 _ s8).mono ?_)
          rintro r w7 ⟨rfl, s9⟩
          simp [hc0]
          have := good w7 s9 hE1
          simp at this
          simpa using this
      · simp [hc0]
        refine eff_ldcs (vs := rows[i].cs) s8.row_cells rfl ?_
        simp
        refine eff_call ((held_spec rows[i] w0 w6 _ s8).mono ?_)
        rintro r w7 ⟨rfl, s9⟩
        simp [hc0]
        refine eff_ldc (c0 s9).2.2.1 ?_
        cases hac : accF rows[i].acc with
        | true =>
          have hE1 : itemE i rows[i] = 0 := by
            unfold itemE; rw [if_neg (by omega), if_neg (by simp [e2]), if_neg]
            rintro (h' | ⟨h', _⟩ | ⟨_, h'⟩)
            · omega
            · omega
            · rw [hac] at h'; cases h'
          simp [hac]
          have := good w7 s9 hE1
          simp at this
          simpa using this
        | false =>
          have hE1 : itemE i rows[i] = 2 := by
            unfold itemE; rw [if_neg (by omega), if_neg (by simp [e2]), if_pos (.inr (.inr ⟨hc0, hac⟩))]
          simp [hac]
          have := bad w7 s9 hE1
          simp at this
          simpa using this
    · simp at h
      simp
      refine hE _ _ _ ?_
      have e : i = rows.length := by omega
      subst e
      rw [hsc]
      simp [scanE]
      rw [List.take_length] at s'
      exact s'
  · rw [if_neg h0] at h1
    obtain ⟨rfl, s1⟩ := h1
    have e : loadE lim rows = 2 := by unfold loadE; rw [if_neg h0]
    simp [e]
    exact s1
end Go.HL.Gd
