/-
  Purse: account, Open, Mint, Pay, Take, Put, Get. Conditions: coins within bounds.
-/
import Derived.Test.YtliofpihaemglaaPuA
namespace Go.HL.Pu
open Go.HL Go.HL.Nm Go.Proofs
set_option maxRecDepth 4000
set_option linter.unusedSimpArgs false
set_option linter.unusedVariables false
/-- coins within bounds -/
structure Bd (P : Ps) : Prop where
  coins : ∀ i, i < P.rows.length → 0 ≤ (P.rows.getD i ⟨[], 0⟩).coins ∧ (P.rows.getD i ⟨[], 0⟩).coins ≤ 4611686018427387904
  held : 0 ≤ P.held ∧ P.held ≤ 4611686018427387904
  sup : 0 ≤ P.sup ∧ P.sup ≤ 4611686018427387904
  len : P.rows.length ≤ 64
def coin (l : List Ac) (i : Nat) : Int := (l.getD i ⟨[], 0⟩).coins
def setC (l : List Ac) (i : Nat) (c : Int) : List Ac := l.set i ⟨(l.getD i ⟨[], 0⟩).name, c⟩
theorem coin_at {l : List Ac} {i : Nat} (h : i < l.length) : coin l i = l[i].coins := by simp [coin, h]
theorem setC_at {l : List Ac} {i : Nat} (h : i < l.length) (c : Int) : (flat l).set (i * 2 + 1) (.int .u64 c) = flat (setC l i c) := by
  rw [flat_set1 h]; simp [setC, h]
theorem setC_len (l : List Ac) (i : Nat) (c : Int) : (setC l i c).length = l.length := by simp [setC]
theorem keys_setC (l : List Ac) (i : Nat) (c : Int) : keys (setC l i c) = keys l := by
  unfold keys setC
  rw [List.map_set]
  by_cases h : i < l.length
  · have e : keyF (l.getD i ⟨[], 0⟩).name = (l.map fun x => keyF x.name)[i]'(by simpa using h) := by simp [h]
    show (l.map fun x => keyF x.name).set i (keyF (l.getD i ⟨[], 0⟩).name) = _
    rw [e]; exact List.set_getElem_self _
  · rw [List.set_eq_of_length_le (by simp; omega)]
def accE (l : List Ac) (n : Int) : Int := if 0 ≤ n ∧ n < l.length then 0 else 142
-- (*bazaar/purse.Purse).account
def h75_0 : HC := (.seq (.reg (.done [(2, (.cst (.int .i64 0)))] none)) .ret)
@[simp] theorem h75_0_wp {P : Program} {F : PF P} {Q : EX → List Value → World → Prop} {env : List Value} {w : World} : h75_0.wp F Q env w = HC.wp F (.seq (.reg (.done [(2, (.cst (.int .i64 0)))] none)) .ret) Q env w := rfl
def h75_1 : HC := (.seq (.reg (.done [(2, (.cst (.int .i64 142)))] none)) .ret)
@[simp] theorem h75_1_wp {P : Program} {F : PF P} {Q : EX → List Value → World → Prop} {env : List Value} {w : World} : h75_1.wp F Q env w = HC.wp F (.seq (.reg (.done [(2, (.cst (.int .i64 142)))] none)) .ret) Q env w := rfl
def h75_2 : HC := (.seq (.br (.chk none (.bin .lss) (.cons (.inp 1) (.cons (.cst (.int .i64 0)) .nil)) (.bnd (.op (.bin .lss) (.cons (.inp 1) (.cons (.cst (.int .i64 0)) .nil))) (.chk (some ((.bv 0), false)) .chkp (.cons (.inp 0) .nil) (.chk (some ((.bv 0), false)) (.fld 2) (.cons (.op .chkp (.cons (.inp 0) .nil)) .nil) (.ite (.bv 0) false (.eff (.ld false 1) (.cons (.ite (.bv 0) false (.op (.fld 2) (.cons (.op .chkp (.cons (.inp 0) .nil)) .nil)) (.cst (.tuple #[]))) .nil) (.chk none .lenL (.cons (.bv 1) .nil) (.chk none (.bin .geq) (.cons (.ite (.bv 0) false (.inp 1) (.cst (.tuple #[]))) (.cons (.op .lenL (.cons (.bv 1) .nil)) .nil)) (.isb none (.bv 0) (.done [] (some (.op (.bin .geq) (.cons (.ite (.bv 0) false (.inp 1) (.cst (.tuple #[]))) (.cons (.op .lenL (.cons (.bv 1) .nil)) .nil))))))))) (.isb none (.bv 0) (.done [] (some (.cst (.bool true)))))))))) h75_1 .skip) h75_0)
@[simp] theorem h75_2_wp {P : Program} {F : PF P} {Q : EX → List Value → World → Prop} {env : List Value} {w : World} : h75_2.wp F Q env w = HC.wp F (.seq (.br (.chk none (.bin .lss) (.cons (.inp 1) (.cons (.cst (.int .i64 0)) .nil)) (.bnd (.op (.bin .lss) (.cons (.inp 1) (.cons (.cst (.int .i64 0)) .nil))) (.chk (some ((.bv 0), false)) .chkp (.cons (.inp 0) .nil) (.chk (some ((.bv 0), false)) (.fld 2) (.cons (.op .chkp (.cons (.inp 0) .nil)) .nil) (.ite (.bv 0) false (.eff (.ld false 1) (.cons (.ite (.bv 0) false (.op (.fld 2) (.cons (.op .chkp (.cons (.inp 0) .nil)) .nil)) (.cst (.tuple #[]))) .nil) (.chk none .lenL (.cons (.bv 1) .nil) (.chk none (.bin .geq) (.cons (.ite (.bv 0) false (.inp 1) (.cst (.tuple #[]))) (.cons (.op .lenL (.cons (.bv 1) .nil)) .nil)) (.isb none (.bv 0) (.done [] (some (.op (.bin .geq) (.cons (.ite (.bv 0) false (.inp 1) (.cst (.tuple #[]))) (.cons (.op .lenL (.cons (.bv 1) .nil)) .nil))))))))) (.isb none (.bv 0) (.done [] (some (.cst (.bool true)))))))))) h75_1 .skip) h75_0) Q env w := rfl
def h75_3 : HC := (.seq (.reg (.done [(2, (.cst (.int .i64 1)))] none)) .ret)
@[simp] theorem h75_3_wp {P : Program} {F : PF P} {Q : EX → List Value → World → Prop} {env : List Value} {w : World} : h75_3.wp F Q env w = HC.wp F (.seq (.reg (.done [(2, (.cst (.int .i64 1)))] none)) .ret) Q env w := rfl
def h75_4 : HC := (.seq (.br (.chk none (.eqNil false (.pointer 81) (.pointer none)) (.cons (.inp 0) .nil) (.done [] (some (.op (.eqNil false (.pointer 81) (.pointer none)) (.cons (.inp 0) .nil))))) h75_3 .skip) h75_2)
@[simp] theorem h75_4_wp {P : Program} {F : PF P} {Q : EX → List Value → World → Prop} {env : List Value} {w : World} : h75_4.wp F Q env w = HC.wp F (.seq (.br (.chk none (.eqNil false (.pointer 81) (.pointer none)) (.cons (.inp 0) .nil) (.done [] (some (.op (.eqNil false (.pointer 81) (.pointer none)) (.cons (.inp 0) .nil))))) h75_3 .skip) h75_2) Q env w := rfl
def l75 : Lifted := ⟨[0, 1, 4], 18, [.slot 2], (.seq (.reg (.done [(2, (.cst (.int .i64 0)))] none)) h75_4)⟩
theorem l75_ok : liftFn U0 75 400 = some l75 := by kernel_rfl

-- (*bazaar/purse.Purse).Open
def h13_0 : HC := (.seq (.reg (.done [(2, (.inp 6)), (3, (.cst (.int .i64 0)))] none)) .ret)
@[simp] theorem h13_0_wp {P : Program} {F : PF P} {Q : EX → List Value → World → Prop} {env : List Value} {w : World} : h13_0.wp F Q env w = HC.wp F (.seq (.reg (.done [(2, (.inp 6)), (3, (.cst (.int .i64 0)))] none)) .ret) Q env w := rfl
def h13_1 : HC := (.seq (.reg (.chk none .chkp (.cons (.inp 0) .nil) (.chk none (.fld 0) (.cons (.op .chkp (.cons (.inp 0) .nil)) .nil) (.eff (.call 48) (.cons (.op (.fld 0) (.cons (.op .chkp (.cons (.inp 0) .nil)) .nil)) (.cons (.inp 1) (.cons (.inp 6) .nil))) (.done [] none))))) h13_0)
@[simp] theorem h13_1_wp {P : Program} {F : PF P} {Q : EX → List Value → World → Prop} {env : List Value} {w : World} : h13_1.wp F Q env w = HC.wp F (.seq (.reg (.chk none .chkp (.cons (.inp 0) .nil) (.chk none (.fld 0) (.cons (.op .chkp (.cons (.inp 0) .nil)) .nil) (.eff (.call 48) (.cons (.op (.fld 0) (.cons (.op .chkp (.cons (.inp 0) .nil)) .nil)) (.cons (.inp 1) (.cons (.inp 6) .nil))) (.done [] none))))) h13_0) Q env w := rfl
def h13_2 : HC := (.seq (.reg (.chk none .chkp (.cons (.inp 0) .nil) (.chk none (.fld 2) (.cons (.op .chkp (.cons (.inp 0) .nil)) .nil) (.eff (.ld false 1) (.cons (.op (.fld 2) (.cons (.op .chkp (.cons (.inp 0) .nil)) .nil)) .nil) (.chk none (.build #[(.string ⟨#[]⟩), (.int .u64 0)] [(0, 1), (1, 1)] [0]) (.cons (.inp 1) .nil) (.eff (.bsl 66 1 2 #[(.string ⟨#[]⟩), (.int .u64 0)] [0]) (.cons (.op (.build #[(.string ⟨#[]⟩), (.int .u64 0)] [(0, 1), (1, 1)] [0]) (.cons (.inp 1) .nil)) .nil) (.eff (.app 39 39 66 2 24 (.agg #[(.string ⟨#[]⟩), (.int .u64 0)])) (.cons (.bv 0) (.cons (.bv 1) .nil)) (.chk none .chkp (.cons (.inp 0) .nil) (.chk none (.fld 2) (.cons (.op .chkp (.cons (.inp 0) .nil)) .nil) (.eff (.st 1) (.cons (.op (.fld 2) (.cons (.op .chkp (.cons (.inp 0) .nil)) .nil)) (.cons (.bv 2) .nil)) (.done [] none))))))))))) h13_1)
@[simp] theorem h13_2_wp {P : Program} {F : PF P} {Q : EX → List Value → World → Prop} {env : List Value} {w : World} : h13_2.wp F Q env w = HC.wp F (.seq (.reg (.chk none .chkp (.cons (.inp 0) .nil) (.chk none (.fld 2) (.cons (.op .chkp (.cons (.inp 0) .nil)) .nil) (.eff (.ld false 1) (.cons (.op (.fld 2) (.cons (.op .chkp (.cons (.inp 0) .nil)) .nil)) .nil) (.chk none (.build #[(.string ⟨#[]⟩), (.int .u64 0)] [(0, 1), (1, 1)] [0]) (.cons (.inp 1) .nil) (.eff (.bsl 66 1 2 #[(.string ⟨#[]⟩), (.int .u64 0)] [0]) (.cons (.op (.build #[(.string ⟨#[]⟩), (.int .u64 0)] [(0, 1), (1, 1)] [0]) (.cons (.inp 1) .nil)) .nil) (.eff (.app 39 39 66 2 24 (.agg #[(.string ⟨#[]⟩), (.int .u64 0)])) (.cons (.bv 0) (.cons (.bv 1) .nil)) (.chk none .chkp (.cons (.inp 0) .nil) (.chk none (.fld 2) (.cons (.op .chkp (.cons (.inp 0) .nil)) .nil) (.eff (.st 1) (.cons (.op (.fld 2) (.cons (.op .chkp (.cons (.inp 0) .nil)) .nil)) (.cons (.bv 2) .nil)) (.done [] none))))))))))) h13_1) Q env w := rfl
def h13_3 : HC := (.seq (.reg (.done [(2, (.cst (.int .i64 0))), (3, (.cst (.int .i64 141)))] none)) .ret)
@[simp] theorem h13_3_wp {P : Program} {F : PF P} {Q : EX → List Value → World → Prop} {env : List Value} {w : World} : h13_3.wp F Q env w = HC.wp F (.seq (.reg (.done [(2, (.cst (.int .i64 0))), (3, (.cst (.int .i64 141)))] none)) .ret) Q env w := rfl
def h13_4 : HC := (.seq (.br (.chk none .chkp (.cons (.inp 0) .nil) (.chk none (.fld 1) (.cons (.op .chkp (.cons (.inp 0) .nil)) .nil) (.eff (.ld false 1) (.cons (.op (.fld 1) (.cons (.op .chkp (.cons (.inp 0) .nil)) .nil)) .nil) (.chk none (.bin .eql) (.cons (.inp 6) (.cons (.bv 0) .nil)) (.done [] (some (.op (.bin .eql) (.cons (.inp 6) (.cons (.bv 0) .nil))))))))) h13_3 .skip) h13_2)
@[simp] theorem h13_4_wp {P : Program} {F : PF P} {Q : EX → List Value → World → Prop} {env : List Value} {w : World} : h13_4.wp F Q env w = HC.wp F (.seq (.br (.chk none .chkp (.cons (.inp 0) .nil) (.chk none (.fld 1) (.cons (.op .chkp (.cons (.inp 0) .nil)) .nil) (.eff (.ld false 1) (.cons (.op (.fld 1) (.cons (.op .chkp (.cons (.inp 0) .nil)) .nil)) .nil) (.chk none (.bin .eql) (.cons (.inp 6) (.cons (.bv 0) .nil)) (.done [] (some (.op (.bin .eql) (.cons (.inp 6) (.cons (.bv 0) .nil))))))))) h13_3 .skip) h13_2) Q env w := rfl
def h13_5 : HC := (.seq (.reg (.chk none .chkp (.cons (.inp 0) .nil) (.chk none (.fld 2) (.cons (.op .chkp (.cons (.inp 0) .nil)) .nil) (.eff (.ld false 1) (.cons (.op (.fld 2) (.cons (.op .chkp (.cons (.inp 0) .nil)) .nil)) .nil) (.chk none .lenL (.cons (.bv 0) .nil) (.done [(6, (.op .lenL (.cons (.bv 0) .nil)))] none)))))) h13_4)
@[simp] theorem h13_5_wp {P : Program} {F : PF P} {Q : EX → List Value → World → Prop} {env : List Value} {w : World} : h13_5.wp F Q env w = HC.wp F (.seq (.reg (.chk none .chkp (.cons (.inp 0) .nil) (.chk none (.fld 2) (.cons (.op .chkp (.cons (.inp 0) .nil)) .nil) (.eff (.ld false 1) (.cons (.op (.fld 2) (.cons (.op .chkp (.cons (.inp 0) .nil)) .nil)) .nil) (.chk none .lenL (.cons (.bv 0) .nil) (.done [(6, (.op .lenL (.cons (.bv 0) .nil)))] none)))))) h13_4) Q env w := rfl
def h13_6 : HC := (.seq (.reg (.done [(2, (.cst (.int .i64 0))), (3, (.cst (.int .i64 140)))] none)) .ret)
@[simp] theorem h13_6_wp {P : Program} {F : PF P} {Q : EX → List Value → World → Prop} {env : List Value} {w : World} : h13_6.wp F Q env w = HC.wp F (.seq (.reg (.done [(2, (.cst (.int .i64 0))), (3, (.cst (.int .i64 140)))] none)) .ret) Q env w := rfl
def h13_7 : HC := (.seq (.br (.done [] (some (.inp 5))) h13_6 .skip) h13_5)
@[simp] theorem h13_7_wp {P : Program} {F : PF P} {Q : EX → List Value → World → Prop} {env : List Value} {w : World} : h13_7.wp F Q env w = HC.wp F (.seq (.br (.done [] (some (.inp 5))) h13_6 .skip) h13_5) Q env w := rfl
def h13_8 : HC := (.seq (.reg (.chk none .chkp (.cons (.inp 0) .nil) (.chk none (.fld 0) (.cons (.op .chkp (.cons (.inp 0) .nil)) .nil) (.eff (.call 47) (.cons (.op (.fld 0) (.cons (.op .chkp (.cons (.inp 0) .nil)) .nil)) (.cons (.inp 1) .nil)) (.chk none (.ext 0) (.cons (.bv 0) .nil) (.chk none (.ext 1) (.cons (.bv 0) .nil) (.done [(5, (.op (.ext 1) (.cons (.bv 0) .nil)))] none))))))) h13_7)
@[simp] theorem h13_8_wp {P : Program} {F : PF P} {Q : EX → List Value → World → Prop} {env : List Value} {w : World} : h13_8.wp F Q env w = HC.wp F (.seq (.reg (.chk none .chkp (.cons (.inp 0) .nil) (.chk none (.fld 0) (.cons (.op .chkp (.cons (.inp 0) .nil)) .nil) (.eff (.call 47) (.cons (.op (.fld 0) (.cons (.op .chkp (.cons (.inp 0) .nil)) .nil)) (.cons (.inp 1) .nil)) (.chk none (.ext 0) (.cons (.bv 0) .nil) (.chk none (.ext 1) (.cons (.bv 0) .nil) (.done [(5, (.op (.ext 1) (.cons (.bv 0) .nil)))] none))))))) h13_7) Q env w := rfl
def h13_9 : HC := (.seq (.reg (.done [(2, (.cst (.int .i64 0))), (3, (.inp 4))] none)) .ret)
@[simp] theorem h13_9_wp {P : Program} {F : PF P} {Q : EX → List Value → World → Prop} {env : List Value} {w : World} : h13_9.wp F Q env w = HC.wp F (.seq (.reg (.done [(2, (.cst (.int .i64 0))), (3, (.inp 4))] none)) .ret) Q env w := rfl
def h13_10 : HC := (.seq (.br (.chk none (.bin .neq) (.cons (.inp 4) (.cons (.cst (.int .i64 0)) .nil)) (.done [] (some (.op (.bin .neq) (.cons (.inp 4) (.cons (.cst (.int .i64 0)) .nil)))))) h13_9 .skip) h13_8)
@[simp] theorem h13_10_wp {P : Program} {F : PF P} {Q : EX → List Value → World → Prop} {env : List Value} {w : World} : h13_10.wp F Q env w = HC.wp F (.seq (.br (.chk none (.bin .neq) (.cons (.inp 4) (.cons (.cst (.int .i64 0)) .nil)) (.done [] (some (.op (.bin .neq) (.cons (.inp 4) (.cons (.cst (.int .i64 0)) .nil)))))) h13_9 .skip) h13_8) Q env w := rfl
def h13_11 : HC := (.seq (.reg (.eff (.call 11) (.cons (.inp 1) .nil) (.chk none (.ext 0) (.cons (.bv 0) .nil) (.chk none (.ext 1) (.cons (.bv 0) .nil) (.done [(4, (.op (.ext 1) (.cons (.bv 0) .nil)))] none))))) h13_10)
@[simp] theorem h13_11_wp {P : Program} {F : PF P} {Q : EX → List Value → World → Prop} {env : List Value} {w : World} : h13_11.wp F Q env w = HC.wp F (.seq (.reg (.eff (.call 11) (.cons (.inp 1) .nil) (.chk none (.ext 0) (.cons (.bv 0) .nil) (.chk none (.ext 1) (.cons (.bv 0) .nil) (.done [(4, (.op (.ext 1) (.cons (.bv 0) .nil)))] none))))) h13_10) Q env w := rfl
def h13_12 : HC := (.seq (.reg (.done [(2, (.cst (.int .i64 0))), (3, (.cst (.int .i64 1)))] none)) .ret)
@[simp] theorem h13_12_wp {P : Program} {F : PF P} {Q : EX → List Value → World → Prop} {env : List Value} {w : World} : h13_12.wp F Q env w = HC.wp F (.seq (.reg (.done [(2, (.cst (.int .i64 0))), (3, (.cst (.int .i64 1)))] none)) .ret) Q env w := rfl
def h13_13 : HC := (.seq (.br (.chk none (.eqNil false (.pointer 81) (.pointer none)) (.cons (.inp 0) .nil) (.done [] (some (.op (.eqNil false (.pointer 81) (.pointer none)) (.cons (.inp 0) .nil))))) h13_12 .skip) h13_11)
@[simp] theorem h13_13_wp {P : Program} {F : PF P} {Q : EX → List Value → World → Prop} {env : List Value} {w : World} : h13_13.wp F Q env w = HC.wp F (.seq (.br (.chk none (.eqNil false (.pointer 81) (.pointer none)) (.cons (.inp 0) .nil) (.done [] (some (.op (.eqNil false (.pointer 81) (.pointer none)) (.cons (.inp 0) .nil))))) h13_12 .skip) h13_11) Q env w := rfl
def l13 : Lifted := ⟨[0, 1, 4, 5, 7, 9, 10], 59, [.slot 2, .slot 3], (.seq (.reg (.done [(2, (.cst (.int .i64 0))), (3, (.cst (.int .i64 0)))] none)) h13_13)⟩
theorem l13_ok : liftFn U0 13 400 = some l13 := by kernel_rfl

-- (*bazaar/purse.Purse).Mint
def h62_0 : HC := (.seq (.reg (.done [(3, (.cst (.int .i64 0)))] none)) .ret)
@[simp] theorem h62_0_wp {P : Program} {F : PF P} {Q : EX → List Value → World → Prop} {env : List Value} {w : World} : h62_0.wp F Q env w = HC.wp F (.seq (.reg (.done [(3, (.cst (.int .i64 0)))] none)) .ret) Q env w := rfl
def h62_1 : HC := (.seq (.reg (.chk none .chkp (.cons (.inp 0) .nil) (.chk none (.fld 2) (.cons (.op .chkp (.cons (.inp 0) .nil)) .nil) (.eff (.ld false 1) (.cons (.op (.fld 2) (.cons (.op .chkp (.cons (.inp 0) .nil)) .nil)) .nil) (.chk none (.idxL 2) (.cons (.bv 0) (.cons (.inp 1) .nil)) (.chk none (.fld 1) (.cons (.op (.idxL 2) (.cons (.bv 0) (.cons (.inp 1) .nil))) .nil) (.eff (.ld false 1) (.cons (.op (.fld 1) (.cons (.op (.idxL 2) (.cons (.bv 0) (.cons (.inp 1) .nil))) .nil)) .nil) (.chk none (.bin .add) (.cons (.bv 1) (.cons (.inp 2) .nil)) (.chk none (.idxL 2) (.cons (.bv 0) (.cons (.inp 1) .nil)) (.chk none (.fld 1) (.cons (.op (.idxL 2) (.cons (.bv 0) (.cons (.inp 1) .nil))) .nil) (.eff (.st 1) (.cons (.op (.fld 1) (.cons (.op (.idxL 2) (.cons (.bv 0) (.cons (.inp 1) .nil))) .nil)) (.cons (.op (.bin .add) (.cons (.bv 1) (.cons (.inp 2) .nil))) .nil)) (.done [] none)))))))))))) h62_0)
@[simp] theorem h62_1_wp {P : Program} {F : PF P} {Q : EX → List Value → World → Prop} {env : List Value} {w : World} : h62_1.wp F Q env w = HC.wp F (.seq (.reg (.chk none .chkp (.cons (.inp 0) .nil) (.chk none (.fld 2) (.cons (.op .chkp (.cons (.inp 0) .nil)) .nil) (.eff (.ld false 1) (.cons (.op (.fld 2) (.cons (.op .chkp (.cons (.inp 0) .nil)) .nil)) .nil) (.chk none (.idxL 2) (.cons (.bv 0) (.cons (.inp 1) .nil)) (.chk none (.fld 1) (.cons (.op (.idxL 2) (.cons (.bv 0) (.cons (.inp 1) .nil))) .nil) (.eff (.ld false 1) (.cons (.op (.fld 1) (.cons (.op (.idxL 2) (.cons (.bv 0) (.cons (.inp 1) .nil))) .nil)) .nil) (.chk none (.bin .add) (.cons (.bv 1) (.cons (.inp 2) .nil)) (.chk none (.idxL 2) (.cons (.bv 0) (.cons (.inp 1) .nil)) (.chk none (.fld 1) (.cons (.op (.idxL 2) (.cons (.bv 0) (.cons (.inp 1) .nil))) .nil) (.eff (.st 1) (.cons (.op (.fld 1) (.cons (.op (.idxL 2) (.cons (.bv 0) (.cons (.inp 1) .nil))) .nil)) (.cons (.op (.bin .add) (.cons (.bv 1) (.cons (.inp 2) .nil))) .nil)) (.done [] none)))))))))))) h62_0) Q env w := rfl
def h62_2 : HC := (.seq (.reg (.chk none .chkp (.cons (.inp 0) .nil) (.chk none (.fld 3) (.cons (.op .chkp (.cons (.inp 0) .nil)) .nil) (.eff (.ld false 1) (.cons (.op (.fld 3) (.cons (.op .chkp (.cons (.inp 0) .nil)) .nil)) .nil) (.chk none (.bin .add) (.cons (.bv 0) (.cons (.inp 2) .nil)) (.chk none .chkp (.cons (.inp 0) .nil) (.chk none (.fld 3) (.cons (.op .chkp (.cons (.inp 0) .nil)) .nil) (.eff (.st 1) (.cons (.op (.fld 3) (.cons (.op .chkp (.cons (.inp 0) .nil)) .nil)) (.cons (.op (.bin .add) (.cons (.bv 0) (.cons (.inp 2) .nil))) .nil)) (.done [] none))))))))) h62_1)
@[simp] theorem h62_2_wp {P : Program} {F : PF P} {Q : EX → List Value → World → Prop} {env : List Value} {w : World} : h62_2.wp F Q env w = HC.wp F (.seq (.reg (.chk none .chkp (.cons (.inp 0) .nil) (.chk none (.fld 3) (.cons (.op .chkp (.cons (.inp 0) .nil)) .nil) (.eff (.ld false 1) (.cons (.op (.fld 3) (.cons (.op .chkp (.cons (.inp 0) .nil)) .nil)) .nil) (.chk none (.bin .add) (.cons (.bv 0) (.cons (.inp 2) .nil)) (.chk none .chkp (.cons (.inp 0) .nil) (.chk none (.fld 3) (.cons (.op .chkp (.cons (.inp 0) .nil)) .nil) (.eff (.st 1) (.cons (.op (.fld 3) (.cons (.op .chkp (.cons (.inp 0) .nil)) .nil)) (.cons (.op (.bin .add) (.cons (.bv 0) (.cons (.inp 2) .nil))) .nil)) (.done [] none))))))))) h62_1) Q env w := rfl
def h62_3 : HC := (.seq (.reg (.done [(3, (.cst (.int .i64 144)))] none)) .ret)
@[simp] theorem h62_3_wp {P : Program} {F : PF P} {Q : EX → List Value → World → Prop} {env : List Value} {w : World} : h62_3.wp F Q env w = HC.wp F (.seq (.reg (.done [(3, (.cst (.int .i64 144)))] none)) .ret) Q env w := rfl
def h62_4 : HC := (.seq (.br (.chk none .chkp (.cons (.inp 0) .nil) (.chk none (.fld 3) (.cons (.op .chkp (.cons (.inp 0) .nil)) .nil) (.eff (.ld false 1) (.cons (.op (.fld 3) (.cons (.op .chkp (.cons (.inp 0) .nil)) .nil)) .nil) (.chk none (.bin .sub) (.cons (.cst (.int .u64 4611686018427387904)) (.cons (.bv 0) .nil)) (.chk none (.bin .gtr) (.cons (.inp 2) (.cons (.op (.bin .sub) (.cons (.cst (.int .u64 4611686018427387904)) (.cons (.bv 0) .nil))) .nil)) (.done [] (some (.op (.bin .gtr) (.cons (.inp 2) (.cons (.op (.bin .sub) (.cons (.cst (.int .u64 4611686018427387904)) (.cons (.bv 0) .nil))) .nil)))))))))) h62_3 .skip) h62_2)
@[simp] theorem h62_4_wp {P : Program} {F : PF P} {Q : EX → List Value → World → Prop} {env : List Value} {w : World} : h62_4.wp F Q env w = HC.wp F (.seq (.br (.chk none .chkp (.cons (.inp 0) .nil) (.chk none (.fld 3) (.cons (.op .chkp (.cons (.inp 0) .nil)) .nil) (.eff (.ld false 1) (.cons (.op (.fld 3) (.cons (.op .chkp (.cons (.inp 0) .nil)) .nil)) .nil) (.chk none (.bin .sub) (.cons (.cst (.int .u64 4611686018427387904)) (.cons (.bv 0) .nil)) (.chk none (.bin .gtr) (.cons (.inp 2) (.cons (.op (.bin .sub) (.cons (.cst (.int .u64 4611686018427387904)) (.cons (.bv 0) .nil))) .nil)) (.done [] (some (.op (.bin .gtr) (.cons (.inp 2) (.cons (.op (.bin .sub) (.cons (.cst (.int .u64 4611686018427387904)) (.cons (.bv 0) .nil))) .nil)))))))))) h62_3 .skip) h62_2) Q env w := rfl
def h62_5 : HC := (.seq (.reg (.done [(3, (.cst (.int .i64 2)))] none)) .ret)
@[simp] theorem h62_5_wp {P : Program} {F : PF P} {Q : EX → List Value → World → Prop} {env : List Value} {w : World} : h62_5.wp F Q env w = HC.wp F (.seq (.reg (.done [(3, (.cst (.int .i64 2)))] none)) .ret) Q env w := rfl
def h62_6 : HC := (.seq (.br (.chk none (.bin .eql) (.cons (.inp 2) (.cons (.cst (.int .u64 0)) .nil)) (.done [] (some (.op (.bin .eql) (.cons (.inp 2) (.cons (.cst (.int .u64 0)) .nil)))))) h62_5 .skip) h62_4)
@[simp] theorem h62_6_wp {P : Program} {F : PF P} {Q : EX → List Value → World → Prop} {env : List Value} {w : World} : h62_6.wp F Q env w = HC.wp F (.seq (.br (.chk none (.bin .eql) (.cons (.inp 2) (.cons (.cst (.int .u64 0)) .nil)) (.done [] (some (.op (.bin .eql) (.cons (.inp 2) (.cons (.cst (.int .u64 0)) .nil)))))) h62_5 .skip) h62_4) Q env w := rfl
def h62_7 : HC := (.seq (.reg (.done [(3, (.inp 4))] none)) .ret)
@[simp] theorem h62_7_wp {P : Program} {F : PF P} {Q : EX → List Value → World → Prop} {env : List Value} {w : World} : h62_7.wp F Q env w = HC.wp F (.seq (.reg (.done [(3, (.inp 4))] none)) .ret) Q env w := rfl
def h62_8 : HC := (.seq (.br (.chk none (.bin .neq) (.cons (.inp 4) (.cons (.cst (.int .i64 0)) .nil)) (.done [] (some (.op (.bin .neq) (.cons (.inp 4) (.cons (.cst (.int .i64 0)) .nil)))))) h62_7 .skip) h62_6)
@[simp] theorem h62_8_wp {P : Program} {F : PF P} {Q : EX → List Value → World → Prop} {env : List Value} {w : World} : h62_8.wp F Q env w = HC.wp F (.seq (.br (.chk none (.bin .neq) (.cons (.inp 4) (.cons (.cst (.int .i64 0)) .nil)) (.done [] (some (.op (.bin .neq) (.cons (.inp 4) (.cons (.cst (.int .i64 0)) .nil)))))) h62_7 .skip) h62_6) Q env w := rfl
def h62_9 : HC := (.seq (.reg (.eff (.call 75) (.cons (.inp 0) (.cons (.inp 1) .nil)) (.done [(4, (.bv 0))] none))) h62_8)
@[simp] theorem h62_9_wp {P : Program} {F : PF P} {Q : EX → List Value → World → Prop} {env : List Value} {w : World} : h62_9.wp F Q env w = HC.wp F (.seq (.reg (.eff (.call 75) (.cons (.inp 0) (.cons (.inp 1) .nil)) (.done [(4, (.bv 0))] none))) h62_8) Q env w := rfl
def l62 : Lifted := ⟨[0, 1, 2, 6, 7], 43, [.slot 3], (.seq (.reg (.done [(3, (.cst (.int .i64 0)))] none)) h62_9)⟩
theorem l62_ok : liftFn U0 62 400 = some l62 := by kernel_rfl

-- (*bazaar/purse.Purse).Pay
def h64_0 : HC := (.seq (.reg (.done [(4, (.cst (.int .i64 0)))] none)) .ret)
@[simp] theorem h64_0_wp {P : Program} {F : PF P} {Q : EX → List Value → World → Prop} {env : List Value} {w : World} : h64_0.wp F Q env w = HC.wp F (.seq (.reg (.done [(4, (.cst (.int .i64 0)))] none)) .ret) Q env w := rfl
def h64_1 : HC := (.seq (.reg (.chk none .chkp (.cons (.inp 0) .nil) (.chk none (.fld 2) (.cons (.op .chkp (.cons (.inp 0) .nil)) .nil) (.eff (.ld false 1) (.cons (.op (.fld 2) (.cons (.op .chkp (.cons (.inp 0) .nil)) .nil)) .nil) (.chk none (.idxL 2) (.cons (.bv 0) (.cons (.inp 2) .nil)) (.chk none (.fld 1) (.cons (.op (.idxL 2) (.cons (.bv 0) (.cons (.inp 2) .nil))) .nil) (.eff (.ld false 1) (.cons (.op (.fld 1) (.cons (.op (.idxL 2) (.cons (.bv 0) (.cons (.inp 2) .nil))) .nil)) .nil) (.chk none (.bin .add) (.cons (.bv 1) (.cons (.inp 3) .nil)) (.chk none (.idxL 2) (.cons (.bv 0) (.cons (.inp 2) .nil)) (.chk none (.fld 1) (.cons (.op (.idxL 2) (.cons (.bv 0) (.cons (.inp 2) .nil))) .nil) (.eff (.st 1) (.cons (.op (.fld 1) (.cons (.op (.idxL 2) (.cons (.bv 0) (.cons (.inp 2) .nil))) .nil)) (.cons (.op (.bin .add) (.cons (.bv 1) (.cons (.inp 3) .nil))) .nil)) (.done [] none)))))))))))) h64_0)
@[simp] theorem h64_1_wp {P : Program} {F : PF P} {Q : EX → List Value → World → Prop} {env : List Value} {w : World} : h64_1.wp F Q env w = HC.wp F (.seq (.reg (.chk none .chkp (.cons (.inp 0) .nil) (.chk none (.fld 2) (.cons (.op .chkp (.cons (.inp 0) .nil)) .nil) (.eff (.ld false 1) (.cons (.op (.fld 2) (.cons (.op .chkp (.cons (.inp 0) .nil)) .nil)) .nil) (.chk none (.idxL 2) (.cons (.bv 0) (.cons (.inp 2) .nil)) (.chk none (.fld 1) (.cons (.op (.idxL 2) (.cons (.bv 0) (.cons (.inp 2) .nil))) .nil) (.eff (.ld false 1) (.cons (.op (.fld 1) (.cons (.op (.idxL 2) (.cons (.bv 0) (.cons (.inp 2) .nil))) .nil)) .nil) (.chk none (.bin .add) (.cons (.bv 1) (.cons (.inp 3) .nil)) (.chk none (.idxL 2) (.cons (.bv 0) (.cons (.inp 2) .nil)) (.chk none (.fld 1) (.cons (.op (.idxL 2) (.cons (.bv 0) (.cons (.inp 2) .nil))) .nil) (.eff (.st 1) (.cons (.op (.fld 1) (.cons (.op (.idxL 2) (.cons (.bv 0) (.cons (.inp 2) .nil))) .nil)) (.cons (.op (.bin .add) (.cons (.bv 1) (.cons (.inp 3) .nil))) .nil)) (.done [] none)))))))))))) h64_0) Q env w := rfl
def h64_2 : HC := (.seq (.reg (.chk none .chkp (.cons (.inp 0) .nil) (.chk none (.fld 2) (.cons (.op .chkp (.cons (.inp 0) .nil)) .nil) (.eff (.ld false 1) (.cons (.op (.fld 2) (.cons (.op .chkp (.cons (.inp 0) .nil)) .nil)) .nil) (.chk none (.idxL 2) (.cons (.bv 0) (.cons (.inp 1) .nil)) (.chk none (.fld 1) (.cons (.op (.idxL 2) (.cons (.bv 0) (.cons (.inp 1) .nil))) .nil) (.eff (.st 1) (.cons (.op (.fld 1) (.cons (.op (.idxL 2) (.cons (.bv 0) (.cons (.inp 1) .nil))) .nil)) (.cons (.inp 6) .nil)) (.done [] none)))))))) h64_1)
@[simp] theorem h64_2_wp {P : Program} {F : PF P} {Q : EX → List Value → World → Prop} {env : List Value} {w : World} : h64_2.wp F Q env w = HC.wp F (.seq (.reg (.chk none .chkp (.cons (.inp 0) .nil) (.chk none (.fld 2) (.cons (.op .chkp (.cons (.inp 0) .nil)) .nil) (.eff (.ld false 1) (.cons (.op (.fld 2) (.cons (.op .chkp (.cons (.inp 0) .nil)) .nil)) .nil) (.chk none (.idxL 2) (.cons (.bv 0) (.cons (.inp 1) .nil)) (.chk none (.fld 1) (.cons (.op (.idxL 2) (.cons (.bv 0) (.cons (.inp 1) .nil))) .nil) (.eff (.st 1) (.cons (.op (.fld 1) (.cons (.op (.idxL 2) (.cons (.bv 0) (.cons (.inp 1) .nil))) .nil)) (.cons (.inp 6) .nil)) (.done [] none)))))))) h64_1) Q env w := rfl
def h64_3 : HC := (.seq (.reg (.done [(4, (.cst (.int .i64 143)))] none)) .ret)
@[simp] theorem h64_3_wp {P : Program} {F : PF P} {Q : EX → List Value → World → Prop} {env : List Value} {w : World} : h64_3.wp F Q env w = HC.wp F (.seq (.reg (.done [(4, (.cst (.int .i64 143)))] none)) .ret) Q env w := rfl
def h64_4 : HC := (.seq (.br (.chk none (.bin .neq) (.cons (.inp 7) (.cons (.cst (.int .i64 0)) .nil)) (.done [] (some (.op (.bin .neq) (.cons (.inp 7) (.cons (.cst (.int .i64 0)) .nil)))))) h64_3 .skip) h64_2)
@[simp] theorem h64_4_wp {P : Program} {F : PF P} {Q : EX → List Value → World → Prop} {env : List Value} {w : World} : h64_4.wp F Q env w = HC.wp F (.seq (.br (.chk none (.bin .neq) (.cons (.inp 7) (.cons (.cst (.int .i64 0)) .nil)) (.done [] (some (.op (.bin .neq) (.cons (.inp 7) (.cons (.cst (.int .i64 0)) .nil)))))) h64_3 .skip) h64_2) Q env w := rfl
def h64_5 : HC := (.seq (.reg (.chk none .chkp (.cons (.inp 0) .nil) (.chk none (.fld 2) (.cons (.op .chkp (.cons (.inp 0) .nil)) .nil) (.eff (.ld false 1) (.cons (.op (.fld 2) (.cons (.op .chkp (.cons (.inp 0) .nil)) .nil)) .nil) (.chk none (.idxL 2) (.cons (.bv 0) (.cons (.inp 1) .nil)) (.chk none (.fld 1) (.cons (.op (.idxL 2) (.cons (.bv 0) (.cons (.inp 1) .nil))) .nil) (.eff (.ld false 1) (.cons (.op (.fld 1) (.cons (.op (.idxL 2) (.cons (.bv 0) (.cons (.inp 1) .nil))) .nil)) .nil) (.eff (.call 53) (.cons (.bv 1) (.cons (.inp 3) .nil)) (.chk none (.ext 0) (.cons (.bv 2) .nil) (.chk none (.ext 1) (.cons (.bv 2) .nil) (.done [(6, (.op (.ext 0) (.cons (.bv 2) .nil))), (7, (.op (.ext 1) (.cons (.bv 2) .nil)))] none))))))))))) h64_4)
@[simp] theorem h64_5_wp {P : Program} {F : PF P} {Q : EX → List Value → World → Prop} {env : List Value} {w : World} : h64_5.wp F Q env w = HC.wp F (.seq (.reg (.chk none .chkp (.cons (.inp 0) .nil) (.chk none (.fld 2) (.cons (.op .chkp (.cons (.inp 0) .nil)) .nil) (.eff (.ld false 1) (.cons (.op (.fld 2) (.cons (.op .chkp (.cons (.inp 0) .nil)) .nil)) .nil) (.chk none (.idxL 2) (.cons (.bv 0) (.cons (.inp 1) .nil)) (.chk none (.fld 1) (.cons (.op (.idxL 2) (.cons (.bv 0) (.cons (.inp 1) .nil))) .nil) (.eff (.ld false 1) (.cons (.op (.fld 1) (.cons (.op (.idxL 2) (.cons (.bv 0) (.cons (.inp 1) .nil))) .nil)) .nil) (.eff (.call 53) (.cons (.bv 1) (.cons (.inp 3) .nil)) (.chk none (.ext 0) (.cons (.bv 2) .nil) (.chk none (.ext 1) (.cons (.bv 2) .nil) (.done [(6, (.op (.ext 0) (.cons (.bv 2) .nil))), (7, (.op (.ext 1) (.cons (.bv 2) .nil)))] none))))))))))) h64_4) Q env w := rfl
def h64_6 : HC := (.seq (.reg (.done [(4, (.cst (.int .i64 2)))] none)) .ret)
@[simp] theorem h64_6_wp {P : Program} {F : PF P} {Q : EX → List Value → World → Prop} {env : List Value} {w : World} : h64_6.wp F Q env w = HC.wp F (.seq (.reg (.done [(4, (.cst (.int .i64 2)))] none)) .ret) Q env w := rfl
def h64_7 : HC := (.seq (.br (.chk none (.bin .eql) (.cons (.inp 3) (.cons (.cst (.int .u64 0)) .nil)) (.done [] (some (.op (.bin .eql) (.cons (.inp 3) (.cons (.cst (.int .u64 0)) .nil)))))) h64_6 .skip) h64_5)
@[simp] theorem h64_7_wp {P : Program} {F : PF P} {Q : EX → List Value → World → Prop} {env : List Value} {w : World} : h64_7.wp F Q env w = HC.wp F (.seq (.br (.chk none (.bin .eql) (.cons (.inp 3) (.cons (.cst (.int .u64 0)) .nil)) (.done [] (some (.op (.bin .eql) (.cons (.inp 3) (.cons (.cst (.int .u64 0)) .nil)))))) h64_6 .skip) h64_5) Q env w := rfl
def h64_8 : HC := (.seq (.reg (.done [(4, (.cst (.int .i64 234)))] none)) .ret)
@[simp] theorem h64_8_wp {P : Program} {F : PF P} {Q : EX → List Value → World → Prop} {env : List Value} {w : World} : h64_8.wp F Q env w = HC.wp F (.seq (.reg (.done [(4, (.cst (.int .i64 234)))] none)) .ret) Q env w := rfl
def h64_9 : HC := (.seq (.br (.chk none (.bin .eql) (.cons (.inp 1) (.cons (.inp 2) .nil)) (.done [] (some (.op (.bin .eql) (.cons (.inp 1) (.cons (.inp 2) .nil)))))) h64_8 .skip) h64_7)
@[simp] theorem h64_9_wp {P : Program} {F : PF P} {Q : EX → List Value → World → Prop} {env : List Value} {w : World} : h64_9.wp F Q env w = HC.wp F (.seq (.br (.chk none (.bin .eql) (.cons (.inp 1) (.cons (.inp 2) .nil)) (.done [] (some (.op (.bin .eql) (.cons (.inp 1) (.cons (.inp 2) .nil)))))) h64_8 .skip) h64_7) Q env w := rfl
def h64_10 : HC := (.seq (.reg (.done [(4, (.inp 5))] none)) .ret)
@[simp] theorem h64_10_wp {P : Program} {F : PF P} {Q : EX → List Value → World → Prop} {env : List Value} {w : World} : h64_10.wp F Q env w = HC.wp F (.seq (.reg (.done [(4, (.inp 5))] none)) .ret) Q env w := rfl
def h64_11 : HC := (.seq (.br (.chk none (.bin .neq) (.cons (.inp 5) (.cons (.cst (.int .i64 0)) .nil)) (.done [] (some (.op (.bin .neq) (.cons (.inp 5) (.cons (.cst (.int .i64 0)) .nil)))))) h64_10 .skip) h64_9)
@[simp] theorem h64_11_wp {P : Program} {F : PF P} {Q : EX → List Value → World → Prop} {env : List Value} {w : World} : h64_11.wp F Q env w = HC.wp F (.seq (.br (.chk none (.bin .neq) (.cons (.inp 5) (.cons (.cst (.int .i64 0)) .nil)) (.done [] (some (.op (.bin .neq) (.cons (.inp 5) (.cons (.cst (.int .i64 0)) .nil)))))) h64_10 .skip) h64_9) Q env w := rfl
def h64_12 : HC := (.seq (.reg (.eff (.call 75) (.cons (.inp 0) (.cons (.inp 1) .nil)) (.eff (.call 75) (.cons (.inp 0) (.cons (.inp 2) .nil)) (.eff (.bi .max #[25, 25] 25 #[false, false]) (.cons (.bv 0) (.cons (.bv 1) .nil)) (.done [(5, (.bv 2))] none))))) h64_11)
@[simp] theorem h64_12_wp {P : Program} {F : PF P} {Q : EX → List Value → World → Prop} {env : List Value} {w : World} : h64_12.wp F Q env w = HC.wp F (.seq (.reg (.eff (.call 75) (.cons (.inp 0) (.cons (.inp 1) .nil)) (.eff (.call 75) (.cons (.inp 0) (.cons (.inp 2) .nil)) (.eff (.bi .max #[25, 25] 25 #[false, false]) (.cons (.bv 0) (.cons (.bv 1) .nil)) (.done [(5, (.bv 2))] none))))) h64_11) Q env w := rfl
def l64 : Lifted := ⟨[0, 1, 2, 3, 8, 9, 10, 11], 62, [.slot 4], (.seq (.reg (.done [(4, (.cst (.int .i64 0)))] none)) h64_12)⟩
theorem l64_ok : liftFn U0 64 400 = some l64 := by kernel_rfl

-- (*bazaar/purse.Purse).Take
def h34_0 : HC := (.seq (.reg (.done [(3, (.cst (.int .i64 0)))] none)) .ret)
@[simp] theorem h34_0_wp {P : Program} {F : PF P} {Q : EX → List Value → World → Prop} {env : List Value} {w : World} : h34_0.wp F Q env w = HC.wp F (.seq (.reg (.done [(3, (.cst (.int .i64 0)))] none)) .ret) Q env w := rfl
def h34_1 : HC := (.seq (.reg (.chk none .chkp (.cons (.inp 0) .nil) (.chk none (.fld 4) (.cons (.op .chkp (.cons (.inp 0) .nil)) .nil) (.eff (.ld false 1) (.cons (.op (.fld 4) (.cons (.op .chkp (.cons (.inp 0) .nil)) .nil)) .nil) (.chk none (.bin .add) (.cons (.bv 0) (.cons (.inp 2) .nil)) (.chk none .chkp (.cons (.inp 0) .nil) (.chk none (.fld 4) (.cons (.op .chkp (.cons (.inp 0) .nil)) .nil) (.eff (.st 1) (.cons (.op (.fld 4) (.cons (.op .chkp (.cons (.inp 0) .nil)) .nil)) (.cons (.op (.bin .add) (.cons (.bv 0) (.cons (.inp 2) .nil))) .nil)) (.done [] none))))))))) h34_0)
@[simp] theorem h34_1_wp {P : Program} {F : PF P} {Q : EX → List Value → World → Prop} {env : List Value} {w : World} : h34_1.wp F Q env w = HC.wp F (.seq (.reg (.chk none .chkp (.cons (.inp 0) .nil) (.chk none (.fld 4) (.cons (.op .chkp (.cons (.inp 0) .nil)) .nil) (.eff (.ld false 1) (.cons (.op (.fld 4) (.cons (.op .chkp (.cons (.inp 0) .nil)) .nil)) .nil) (.chk none (.bin .add) (.cons (.bv 0) (.cons (.inp 2) .nil)) (.chk none .chkp (.cons (.inp 0) .nil) (.chk none (.fld 4) (.cons (.op .chkp (.cons (.inp 0) .nil)) .nil) (.eff (.st 1) (.cons (.op (.fld 4) (.cons (.op .chkp (.cons (.inp 0) .nil)) .nil)) (.cons (.op (.bin .add) (.cons (.bv 0) (.cons (.inp 2) .nil))) .nil)) (.done [] none))))))))) h34_0) Q env w := rfl
def h34_2 : HC := (.seq (.reg (.chk none .chkp (.cons (.inp 0) .nil) (.chk none (.fld 2) (.cons (.op .chkp (.cons (.inp 0) .nil)) .nil) (.eff (.ld false 1) (.cons (.op (.fld 2) (.cons (.op .chkp (.cons (.inp 0) .nil)) .nil)) .nil) (.chk none (.idxL 2) (.cons (.bv 0) (.cons (.inp 1) .nil)) (.chk none (.fld 1) (.cons (.op (.idxL 2) (.cons (.bv 0) (.cons (.inp 1) .nil))) .nil) (.eff (.st 1) (.cons (.op (.fld 1) (.cons (.op (.idxL 2) (.cons (.bv 0) (.cons (.inp 1) .nil))) .nil)) (.cons (.inp 5) .nil)) (.done [] none)))))))) h34_1)
@[simp] theorem h34_2_wp {P : Program} {F : PF P} {Q : EX → List Value → World → Prop} {env : List Value} {w : World} : h34_2.wp F Q env w = HC.wp F (.seq (.reg (.chk none .chkp (.cons (.inp 0) .nil) (.chk none (.fld 2) (.cons (.op .chkp (.cons (.inp 0) .nil)) .nil) (.eff (.ld false 1) (.cons (.op (.fld 2) (.cons (.op .chkp (.cons (.inp 0) .nil)) .nil)) .nil) (.chk none (.idxL 2) (.cons (.bv 0) (.cons (.inp 1) .nil)) (.chk none (.fld 1) (.cons (.op (.idxL 2) (.cons (.bv 0) (.cons (.inp 1) .nil))) .nil) (.eff (.st 1) (.cons (.op (.fld 1) (.cons (.op (.idxL 2) (.cons (.bv 0) (.cons (.inp 1) .nil))) .nil)) (.cons (.inp 5) .nil)) (.done [] none)))))))) h34_1) Q env w := rfl
def h34_3 : HC := (.seq (.reg (.done [(3, (.cst (.int .i64 143)))] none)) .ret)
@[simp] theorem h34_3_wp {P : Program} {F : PF P} {Q : EX → List Value → World → Prop} {env : List Value} {w : World} : h34_3.wp F Q env w = HC.wp F (.seq (.reg (.done [(3, (.cst (.int .i64 143)))] none)) .ret) Q env w := rfl
def h34_4 : HC := (.seq (.br (.chk none (.bin .neq) (.cons (.inp 6) (.cons (.cst (.int .i64 0)) .nil)) (.done [] (some (.op (.bin .neq) (.cons (.inp 6) (.cons (.cst (.int .i64 0)) .nil)))))) h34_3 .skip) h34_2)
@[simp] theorem h34_4_wp {P : Program} {F : PF P} {Q : EX → List Value → World → Prop} {env : List Value} {w : World} : h34_4.wp F Q env w = HC.wp F (.seq (.br (.chk none (.bin .neq) (.cons (.inp 6) (.cons (.cst (.int .i64 0)) .nil)) (.done [] (some (.op (.bin .neq) (.cons (.inp 6) (.cons (.cst (.int .i64 0)) .nil)))))) h34_3 .skip) h34_2) Q env w := rfl
def h34_5 : HC := (.seq (.reg (.chk none .chkp (.cons (.inp 0) .nil) (.chk none (.fld 2) (.cons (.op .chkp (.cons (.inp 0) .nil)) .nil) (.eff (.ld false 1) (.cons (.op (.fld 2) (.cons (.op .chkp (.cons (.inp 0) .nil)) .nil)) .nil) (.chk none (.idxL 2) (.cons (.bv 0) (.cons (.inp 1) .nil)) (.chk none (.fld 1) (.cons (.op (.idxL 2) (.cons (.bv 0) (.cons (.inp 1) .nil))) .nil) (.eff (.ld false 1) (.cons (.op (.fld 1) (.cons (.op (.idxL 2) (.cons (.bv 0) (.cons (.inp 1) .nil))) .nil)) .nil) (.eff (.call 53) (.cons (.bv 1) (.cons (.inp 2) .nil)) (.chk none (.ext 0) (.cons (.bv 2) .nil) (.chk none (.ext 1) (.cons (.bv 2) .nil) (.done [(5, (.op (.ext 0) (.cons (.bv 2) .nil))), (6, (.op (.ext 1) (.cons (.bv 2) .nil)))] none))))))))))) h34_4)
@[simp] theorem h34_5_wp {P : Program} {F : PF P} {Q : EX → List Value → World → Prop} {env : List Value} {w : World} : h34_5.wp F Q env w = HC.wp F (.seq (.reg (.chk none .chkp (.cons (.inp 0) .nil) (.chk none (.fld 2) (.cons (.op .chkp (.cons (.inp 0) .nil)) .nil) (.eff (.ld false 1) (.cons (.op (.fld 2) (.cons (.op .chkp (.cons (.inp 0) .nil)) .nil)) .nil) (.chk none (.idxL 2) (.cons (.bv 0) (.cons (.inp 1) .nil)) (.chk none (.fld 1) (.cons (.op (.idxL 2) (.cons (.bv 0) (.cons (.inp 1) .nil))) .nil) (.eff (.ld false 1) (.cons (.op (.fld 1) (.cons (.op (.idxL 2) (.cons (.bv 0) (.cons (.inp 1) .nil))) .nil)) .nil) (.eff (.call 53) (.cons (.bv 1) (.cons (.inp 2) .nil)) (.chk none (.ext 0) (.cons (.bv 2) .nil) (.chk none (.ext 1) (.cons (.bv 2) .nil) (.done [(5, (.op (.ext 0) (.cons (.bv 2) .nil))), (6, (.op (.ext 1) (.cons (.bv 2) .nil)))] none))))))))))) h34_4) Q env w := rfl
def h34_6 : HC := (.seq (.reg (.done [(3, (.inp 4))] none)) .ret)
@[simp] theorem h34_6_wp {P : Program} {F : PF P} {Q : EX → List Value → World → Prop} {env : List Value} {w : World} : h34_6.wp F Q env w = HC.wp F (.seq (.reg (.done [(3, (.inp 4))] none)) .ret) Q env w := rfl
def h34_7 : HC := (.seq (.br (.chk none (.bin .neq) (.cons (.inp 4) (.cons (.cst (.int .i64 0)) .nil)) (.done [] (some (.op (.bin .neq) (.cons (.inp 4) (.cons (.cst (.int .i64 0)) .nil)))))) h34_6 .skip) h34_5)
@[simp] theorem h34_7_wp {P : Program} {F : PF P} {Q : EX → List Value → World → Prop} {env : List Value} {w : World} : h34_7.wp F Q env w = HC.wp F (.seq (.br (.chk none (.bin .neq) (.cons (.inp 4) (.cons (.cst (.int .i64 0)) .nil)) (.done [] (some (.op (.bin .neq) (.cons (.inp 4) (.cons (.cst (.int .i64 0)) .nil)))))) h34_6 .skip) h34_5) Q env w := rfl
def h34_8 : HC := (.seq (.reg (.eff (.call 75) (.cons (.inp 0) (.cons (.inp 1) .nil)) (.done [(4, (.bv 0))] none))) h34_7)
@[simp] theorem h34_8_wp {P : Program} {F : PF P} {Q : EX → List Value → World → Prop} {env : List Value} {w : World} : h34_8.wp F Q env w = HC.wp F (.seq (.reg (.eff (.call 75) (.cons (.inp 0) (.cons (.inp 1) .nil)) (.done [(4, (.bv 0))] none))) h34_7) Q env w := rfl
def l34 : Lifted := ⟨[0, 1, 2, 6, 7, 8, 9], 47, [.slot 3], (.seq (.reg (.done [(3, (.cst (.int .i64 0)))] none)) h34_8)⟩
theorem l34_ok : liftFn U0 34 400 = some l34 := by kernel_rfl

-- (*bazaar/purse.Purse).Put
def h35_0 : HC := (.seq (.reg (.done [(3, (.cst (.int .i64 0)))] none)) .ret)
@[simp] theorem h35_0_wp {P : Program} {F : PF P} {Q : EX → List Value → World → Prop} {env : List Value} {w : World} : h35_0.wp F Q env w = HC.wp F (.seq (.reg (.done [(3, (.cst (.int .i64 0)))] none)) .ret) Q env w := rfl
def h35_1 : HC := (.seq (.reg (.chk none .chkp (.cons (.inp 0) .nil) (.chk none (.fld 2) (.cons (.op .chkp (.cons (.inp 0) .nil)) .nil) (.eff (.ld false 1) (.cons (.op (.fld 2) (.cons (.op .chkp (.cons (.inp 0) .nil)) .nil)) .nil) (.chk none (.idxL 2) (.cons (.bv 0) (.cons (.inp 1) .nil)) (.chk none (.fld 1) (.cons (.op (.idxL 2) (.cons (.bv 0) (.cons (.inp 1) .nil))) .nil) (.eff (.ld false 1) (.cons (.op (.fld 1) (.cons (.op (.idxL 2) (.cons (.bv 0) (.cons (.inp 1) .nil))) .nil)) .nil) (.chk none (.bin .add) (.cons (.bv 1) (.cons (.inp 2) .nil)) (.chk none (.idxL 2) (.cons (.bv 0) (.cons (.inp 1) .nil)) (.chk none (.fld 1) (.cons (.op (.idxL 2) (.cons (.bv 0) (.cons (.inp 1) .nil))) .nil) (.eff (.st 1) (.cons (.op (.fld 1) (.cons (.op (.idxL 2) (.cons (.bv 0) (.cons (.inp 1) .nil))) .nil)) (.cons (.op (.bin .add) (.cons (.bv 1) (.cons (.inp 2) .nil))) .nil)) (.done [] none)))))))))))) h35_0)
@[simp] theorem h35_1_wp {P : Program} {F : PF P} {Q : EX → List Value → World → Prop} {env : List Value} {w : World} : h35_1.wp F Q env w = HC.wp F (.seq (.reg (.chk none .chkp (.cons (.inp 0) .nil) (.chk none (.fld 2) (.cons (.op .chkp (.cons (.inp 0) .nil)) .nil) (.eff (.ld false 1) (.cons (.op (.fld 2) (.cons (.op .chkp (.cons (.inp 0) .nil)) .nil)) .nil) (.chk none (.idxL 2) (.cons (.bv 0) (.cons (.inp 1) .nil)) (.chk none (.fld 1) (.cons (.op (.idxL 2) (.cons (.bv 0) (.cons (.inp 1) .nil))) .nil) (.eff (.ld false 1) (.cons (.op (.fld 1) (.cons (.op (.idxL 2) (.cons (.bv 0) (.cons (.inp 1) .nil))) .nil)) .nil) (.chk none (.bin .add) (.cons (.bv 1) (.cons (.inp 2) .nil)) (.chk none (.idxL 2) (.cons (.bv 0) (.cons (.inp 1) .nil)) (.chk none (.fld 1) (.cons (.op (.idxL 2) (.cons (.bv 0) (.cons (.inp 1) .nil))) .nil) (.eff (.st 1) (.cons (.op (.fld 1) (.cons (.op (.idxL 2) (.cons (.bv 0) (.cons (.inp 1) .nil))) .nil)) (.cons (.op (.bin .add) (.cons (.bv 1) (.cons (.inp 2) .nil))) .nil)) (.done [] none)))))))))))) h35_0) Q env w := rfl
def h35_2 : HC := (.seq (.reg (.chk none .chkp (.cons (.inp 0) .nil) (.chk none (.fld 4) (.cons (.op .chkp (.cons (.inp 0) .nil)) .nil) (.eff (.st 1) (.cons (.op (.fld 4) (.cons (.op .chkp (.cons (.inp 0) .nil)) .nil)) (.cons (.inp 5) .nil)) (.done [] none))))) h35_1)
@[simp] theorem h35_2_wp {P : Program} {F : PF P} {Q : EX → List Value → World → Prop} {env : List Value} {w : World} : h35_2.wp F Q env w = HC.wp F (.seq (.reg (.chk none .chkp (.cons (.inp 0) .nil) (.chk none (.fld 4) (.cons (.op .chkp (.cons (.inp 0) .nil)) .nil) (.eff (.st 1) (.cons (.op (.fld 4) (.cons (.op .chkp (.cons (.inp 0) .nil)) .nil)) (.cons (.inp 5) .nil)) (.done [] none))))) h35_1) Q env w := rfl
def h35_3 : HC := (.seq (.reg (.done [(3, (.cst (.int .i64 143)))] none)) .ret)
@[simp] theorem h35_3_wp {P : Program} {F : PF P} {Q : EX → List Value → World → Prop} {env : List Value} {w : World} : h35_3.wp F Q env w = HC.wp F (.seq (.reg (.done [(3, (.cst (.int .i64 143)))] none)) .ret) Q env w := rfl
def h35_4 : HC := (.seq (.br (.chk none (.bin .neq) (.cons (.inp 6) (.cons (.cst (.int .i64 0)) .nil)) (.done [] (some (.op (.bin .neq) (.cons (.inp 6) (.cons (.cst (.int .i64 0)) .nil)))))) h35_3 .skip) h35_2)
@[simp] theorem h35_4_wp {P : Program} {F : PF P} {Q : EX → List Value → World → Prop} {env : List Value} {w : World} : h35_4.wp F Q env w = HC.wp F (.seq (.br (.chk none (.bin .neq) (.cons (.inp 6) (.cons (.cst (.int .i64 0)) .nil)) (.done [] (some (.op (.bin .neq) (.cons (.inp 6) (.cons (.cst (.int .i64 0)) .nil)))))) h35_3 .skip) h35_2) Q env w := rfl
def h35_5 : HC := (.seq (.reg (.chk none .chkp (.cons (.inp 0) .nil) (.chk none (.fld 4) (.cons (.op .chkp (.cons (.inp 0) .nil)) .nil) (.eff (.ld false 1) (.cons (.op (.fld 4) (.cons (.op .chkp (.cons (.inp 0) .nil)) .nil)) .nil) (.eff (.call 53) (.cons (.bv 0) (.cons (.inp 2) .nil)) (.chk none (.ext 0) (.cons (.bv 1) .nil) (.chk none (.ext 1) (.cons (.bv 1) .nil) (.done [(5, (.op (.ext 0) (.cons (.bv 1) .nil))), (6, (.op (.ext 1) (.cons (.bv 1) .nil)))] none)))))))) h35_4)
@[simp] theorem h35_5_wp {P : Program} {F : PF P} {Q : EX → List Value → World → Prop} {env : List Value} {w : World} : h35_5.wp F Q env w = HC.wp F (.seq (.reg (.chk none .chkp (.cons (.inp 0) .nil) (.chk none (.fld 4) (.cons (.op .chkp (.cons (.inp 0) .nil)) .nil) (.eff (.ld false 1) (.cons (.op (.fld 4) (.cons (.op .chkp (.cons (.inp 0) .nil)) .nil)) .nil) (.eff (.call 53) (.cons (.bv 0) (.cons (.inp 2) .nil)) (.chk none (.ext 0) (.cons (.bv 1) .nil) (.chk none (.ext 1) (.cons (.bv 1) .nil) (.done [(5, (.op (.ext 0) (.cons (.bv 1) .nil))), (6, (.op (.ext 1) (.cons (.bv 1) .nil)))] none)))))))) h35_4) Q env w := rfl
def h35_6 : HC := (.seq (.reg (.done [(3, (.inp 4))] none)) .ret)
@[simp] theorem h35_6_wp {P : Program} {F : PF P} {Q : EX → List Value → World → Prop} {env : List Value} {w : World} : h35_6.wp F Q env w = HC.wp F (.seq (.reg (.done [(3, (.inp 4))] none)) .ret) Q env w := rfl
def h35_7 : HC := (.seq (.br (.chk none (.bin .neq) (.cons (.inp 4) (.cons (.cst (.int .i64 0)) .nil)) (.done [] (some (.op (.bin .neq) (.cons (.inp 4) (.cons (.cst (.int .i64 0)) .nil)))))) h35_6 .skip) h35_5)
@[simp] theorem h35_7_wp {P : Program} {F : PF P} {Q : EX → List Value → World → Prop} {env : List Value} {w : World} : h35_7.wp F Q env w = HC.wp F (.seq (.br (.chk none (.bin .neq) (.cons (.inp 4) (.cons (.cst (.int .i64 0)) .nil)) (.done [] (some (.op (.bin .neq) (.cons (.inp 4) (.cons (.cst (.int .i64 0)) .nil)))))) h35_6 .skip) h35_5) Q env w := rfl
def h35_8 : HC := (.seq (.reg (.eff (.call 75) (.cons (.inp 0) (.cons (.inp 1) .nil)) (.done [(4, (.bv 0))] none))) h35_7)
@[simp] theorem h35_8_wp {P : Program} {F : PF P} {Q : EX → List Value → World → Prop} {env : List Value} {w : World} : h35_8.wp F Q env w = HC.wp F (.seq (.reg (.eff (.call 75) (.cons (.inp 0) (.cons (.inp 1) .nil)) (.done [(4, (.bv 0))] none))) h35_7) Q env w := rfl
def l35 : Lifted := ⟨[0, 1, 2, 6, 7, 8, 9], 43, [.slot 3], (.seq (.reg (.done [(3, (.cst (.int .i64 0)))] none)) h35_8)⟩
theorem l35_ok : liftFn U0 35 400 = some l35 := by kernel_rfl

-- (*bazaar/purse.Purse).Get
def h36_0 : HC := (.seq (.reg (.chk none .chkp (.cons (.inp 0) .nil) (.chk none (.fld 2) (.cons (.op .chkp (.cons (.inp 0) .nil)) .nil) (.eff (.ld false 1) (.cons (.op (.fld 2) (.cons (.op .chkp (.cons (.inp 0) .nil)) .nil)) .nil) (.chk none (.idxL 2) (.cons (.bv 0) (.cons (.inp 1) .nil)) (.eff (.ld true 2) (.cons (.op (.idxL 2) (.cons (.bv 0) (.cons (.inp 1) .nil))) .nil) (.eff (.st 2) (.cons (.inp 2) (.cons (.bv 1) .nil)) (.done [(3, (.cst (.int .i64 0)))] none)))))))) .ret)
@[simp] theorem h36_0_wp {P : Program} {F : PF P} {Q : EX → List Value → World → Prop} {env : List Value} {w : World} : h36_0.wp F Q env w = HC.wp F (.seq (.reg (.chk none .chkp (.cons (.inp 0) .nil) (.chk none (.fld 2) (.cons (.op .chkp (.cons (.inp 0) .nil)) .nil) (.eff (.ld false 1) (.cons (.op (.fld 2) (.cons (.op .chkp (.cons (.inp 0) .nil)) .nil)) .nil) (.chk none (.idxL 2) (.cons (.bv 0) (.cons (.inp 1) .nil)) (.eff (.ld true 2) (.cons (.op (.idxL 2) (.cons (.bv 0) (.cons (.inp 1) .nil))) .nil) (.eff (.st 2) (.cons (.inp 2) (.cons (.bv 1) .nil)) (.done [(3, (.cst (.int .i64 0)))] none)))))))) .ret) Q env w := rfl
def h36_1 : HC := (.seq (.reg (.chk none (.build #[(.string ⟨#[]⟩), (.int .u64 0)] [(0, 1), (1, 1)] []) .nil (.eff (.st 2) (.cons (.inp 2) (.cons (.op (.build #[(.string ⟨#[]⟩), (.int .u64 0)] [(0, 1), (1, 1)] []) .nil) .nil)) (.done [(3, (.inp 4))] none)))) .ret)
@[simp] theorem h36_1_wp {P : Program} {F : PF P} {Q : EX → List Value → World → Prop} {env : List Value} {w : World} : h36_1.wp F Q env w = HC.wp F (.seq (.reg (.chk none (.build #[(.string ⟨#[]⟩), (.int .u64 0)] [(0, 1), (1, 1)] []) .nil (.eff (.st 2) (.cons (.inp 2) (.cons (.op (.build #[(.string ⟨#[]⟩), (.int .u64 0)] [(0, 1), (1, 1)] []) .nil) .nil)) (.done [(3, (.inp 4))] none)))) .ret) Q env w := rfl
def h36_2 : HC := (.seq (.br (.chk none (.bin .neq) (.cons (.inp 4) (.cons (.cst (.int .i64 0)) .nil)) (.done [] (some (.op (.bin .neq) (.cons (.inp 4) (.cons (.cst (.int .i64 0)) .nil)))))) h36_1 .skip) h36_0)
@[simp] theorem h36_2_wp {P : Program} {F : PF P} {Q : EX → List Value → World → Prop} {env : List Value} {w : World} : h36_2.wp F Q env w = HC.wp F (.seq (.br (.chk none (.bin .neq) (.cons (.inp 4) (.cons (.cst (.int .i64 0)) .nil)) (.done [] (some (.op (.bin .neq) (.cons (.inp 4) (.cons (.cst (.int .i64 0)) .nil)))))) h36_1 .skip) h36_0) Q env w := rfl
def h36_3 : HC := (.seq (.reg (.eff (.call 75) (.cons (.inp 0) (.cons (.inp 1) .nil)) (.done [(4, (.bv 0))] none))) h36_2)
@[simp] theorem h36_3_wp {P : Program} {F : PF P} {Q : EX → List Value → World → Prop} {env : List Value} {w : World} : h36_3.wp F Q env w = HC.wp F (.seq (.reg (.eff (.call 75) (.cons (.inp 0) (.cons (.inp 1) .nil)) (.done [(4, (.bv 0))] none))) h36_2) Q env w := rfl
def l36 : Lifted := ⟨[0, 1, 4, 5, 6], 21, [.cell 2 true 2, .slot 3], (.seq (.reg (.eff (.new 66 (.agg #[(.string ⟨#[]⟩), (.int .u64 0)])) .nil (.done [(2, (.bv 0)), (3, (.cst (.int .i64 0)))] none))) h36_3)⟩
theorem l36_ok : liftFn U0 36 400 = some l36 := by kernel_rfl


theorem account_spec (p : Nat) (P : Ps) (n : Int) (w0 w : World) (A : Asn) (s : St w0 (A * pur p P) w) :
    CallW Try.prog 75 [.pointer (some ⟨p, 0, none⟩), .int .i64 n] (fun r w' => r = .int .i64 (accE P.rows n) ∧ St w0 (A * pur p P) w') w := by
  refine callW_of_lift l75_ok (by simp [l75]) ?_
  simp [l75]
  obtain ⟨m, v, s1⟩ := popen s
  obtain ⟨a, cap, rfl, _⟩ := s1.own_val
  by_cases h : n < 0
  · simp [h]
    rw [accE, if_neg (by omega)]
    exact ⟨rfl, s⟩
  · simp [h]
    refine eff_ldc (v := .slice a P.rows.length cap) (by rw [cell_of s1.drop.drop.look]; rfl) ?_
    simp
    refine cndI (fun h2 => ?_) (fun h2 => ?_)
    · simp at h2
      simp
      rw [accE, if_neg (by omega)]
      exact ⟨rfl, s⟩
    · simp at h2
      simp
      rw [accE, if_pos (by omega)]
      exact ⟨rfl, s⟩
theorem known_p (p : Nat) (P : Ps) (m : Nat) (v : Value) (x : List UInt8) (w0 w : World) (A : Asn) (hx : x.length ≤ 1048576) (s : St w0 (A * pt4 p P m v * mpt m P.rows) w) :
    CallW Try.prog 47 [.pointer (some ⟨p, 0, none⟩), .string (mk x)] (fun r w' => r = .tuple #[.int .i64 (askN (keyF x) (keys P.rows)), .bool (askB (keyF x) (keys P.rows))] ∧ St w0 (A * pt4 p P m v * mpt m P.rows) w') w :=
  known_spec p _ _ m (keys P.rows) _ x w0 w A rfl hx s
theorem enter_p (p : Nat) (P : Ps) (m : Nat) (v : Value) (x : List UInt8) (l : List Ac) (w0 w : World) (A : Asn) (hx : x.length ≤ 1048576) (hn : askB (keyF x) (keys l) = false) (s : St w0 (A * pt4 p P m v * mpt m l) w) :
    CallW Try.prog 48 [.pointer (some ⟨p, 0, none⟩), .string (mk x), .int .i64 (l.length : Int)] (fun r w' => St w0 (A * pt4 p P m v * mpt m (l ++ [⟨x, 0⟩])) w') w := by
  have e1 : ((keys l).length : Int) = l.length := by simp [keys]
  have e2 : keys (l ++ [⟨x, 0⟩]) = keys l ++ [keyF x] := by simp [keys]
  rw [← e1]
  show CallW _ _ _ (fun r w' => St w0 (A * pt4 p P m v * pt m (.map (mapE (keys (l ++ [⟨x, 0⟩]))) (keys (l ++ [⟨x, 0⟩])).length)) w') _
  rw [e2]
  exact enter_spec p _ _ m (keys l) x w0 w A rfl hx (by simpa [askB] using hn) s
def openF (P : Ps) (x : List UInt8) : Int × Int × Ps :=
  if (checkF x).2 = 0 then
    if askB (keyF x) (keys P.rows) = true then (0, 140, P)
    else if (P.rows.length : Int) = P.lim then (0, 141, P)
    else ((P.rows.length : Int), 0, { P with rows := P.rows ++ [⟨x, 0⟩] })
  else (0, (checkF x).2, P)
theorem Open_spec (p : Nat) (P : Ps) (x : List UInt8) (w0 w : World) (A : Asn) (hx : x.length ≤ 1048576) (hl : P.rows.length ≤ 1048576) (s : St w0 (A * pur p P) w) :
    CallW Try.prog 13 [.pointer (some ⟨p, 0, none⟩), .string (mk x)] (fun r w' => r = .tuple #[.int .i64 (openF P x).1, .int .i64 (openF P x).2.1] ∧ St w0 (A * pur p (openF P x).2.2) w') w := by
  refine callW_of_lift l13_ok (by simp [l13]) ?_
  simp [l13]
  refine eff_call ((check_spec x w0 w _ hx s).mono ?_)
  rintro r w1 ⟨rfl, s⟩
  simp
  refine cndI (fun h => ?_) (fun h => ?_)
  · simp at h
    simp [openF, h]
    exact s
  simp at h
  simp
  obtain ⟨m, v, s1⟩ := popen s
  refine eff_call ((known_p p P m v x w0 w1 (A * own 66 2 v P.rows.length (flat P.rows)) hx (s1.to (by ac_rfl))).mono ?_)
  rintro r w2 ⟨rfl, s2⟩
  simp
  have s3 := s2.to (B := A * pt4 p P m v * mpt m P.rows * own 66 2 v P.rows.length (flat P.rows)) (by ac_rfl)
  clear s s1 s2
  refine cndI (fun h2 => ?_) (fun h2 => ?_)
  · simp [openF, h, h2]
    exact pclose s3
  simp
  obtain ⟨a, cap, rfl, _⟩ := s3.own_val
  refine eff_ldc (v := .slice a P.rows.length cap) (by rw [cell_of s3.drop.drop.look]; rfl) ?_
  simp
  refine eff_ldc (v := .int .i64 P.lim) (by rw [cell_of s3.drop.drop.look]; rfl) ?_
  simp
  refine cndI (fun h3 => ?_) (fun h3 => ?_)
  · simp at h3
    simp [openF, h, h2, h3]
    exact pclose s3
  simp at h3
  simp
  refine eff_ldc (v := .slice a P.rows.length cap) (by rw [cell_of s3.drop.drop.look]; rfl) ?_
  simp [Instr.fill, Value.cells]
  refine eff_bslV s3 rfl ?_
  intro c w3 s4
  simp
  refine eff_app (m := 1) (news := Ac.cs ⟨x, 0⟩) (s4.to (B := A * pt4 p P m (.slice a P.rows.length cap) * mpt m P.rows * pt c (.cells (Ac.cs ⟨x, 0⟩).toArray 66 (0, 0)) * own 66 2 (.slice a P.rows.length cap) P.rows.length (flat P.rows)) (by ac_rfl)) rfl s4.cells_look (cs_one _) (by decide) rfl (by unfold maxLen; omega) (by omega) ?_
  intro v2 w4 s5
  simp
  have hv2 := s5.own_val
  obtain ⟨a2, cap2, rfl, _⟩ := hv2
  refine eff_st1 (s5.to (B := A * mpt m P.rows * pt c (.cells (Ac.cs ⟨x, 0⟩).toArray 66 (0, 0)) * own 66 2 (.slice a2 (P.rows.length + 1) cap2) (P.rows.length + 1) (flat P.rows ++ Ac.cs ⟨x, 0⟩) * pt4 p P m (.slice a P.rows.length cap)) (by ac_rfl)) rfl (by simp) ?_
  intro w5 s6
  simp at s6
  simp
  have s6 : St w0 (A * mpt m P.rows * pt c (.cells (Ac.cs ⟨x, 0⟩).toArray 66 (0, 0)) * own 66 2 (.slice a2 (P.rows.length + 1) cap2) (P.rows.length + 1) (flat P.rows ++ Ac.cs ⟨x, 0⟩) * pt4 p P m (.slice a2 (P.rows.length + 1) cap2)) w5 := s6
  refine eff_call ((enter_p p P m (.slice a2 (P.rows.length + 1) cap2) x P.rows w0 w5 (A * own 66 2 (.slice a2 (P.rows.length + 1) cap2) (P.rows.length + 1) (flat P.rows ++ Ac.cs ⟨x, 0⟩)) hx h2 (St.cut (pt c (.cells (Ac.cs ⟨x, 0⟩).toArray 66 (0, 0))) s6 (by ac_rfl))).mono ?_)
  intro r w6 s7
  simp [openF, h, h2, h3]
  refine pclose (m := m) (v := .slice a2 (P.rows.length + 1) cap2) ?_
  have e : flat (P.rows ++ [⟨x, 0⟩]) = flat P.rows ++ Ac.cs ⟨x, 0⟩ := by simp [flat]
  show St w0 (A * pt4 p P m (.slice a2 (P.rows.length + 1) cap2) * mpt m (P.rows ++ [(⟨x, 0⟩ : Ac)]) * own 66 2 (.slice a2 (P.rows.length + 1) cap2) (P.rows ++ [(⟨x, 0⟩ : Ac)]).length (flat (P.rows ++ [⟨x, 0⟩]))) w6
  rw [e, List.length_append]
  exact s7.to (by ac_rfl)
/-- what is where -/
theorem acc_in {l : List Ac} {n : Int} (h : accE l n = 0) : ∃ i : Nat, n = i ∧ i < l.length := by
  unfold accE at h
  split at h
  · exact ⟨n.toNat, by omega, by omega⟩
  · cases h
theorem accE_or (l : List Ac) (n : Int) : accE l n = 0 ∨ accE l n = 142 := by unfold accE; split <;> simp
def mintF (P : Ps) (n c : Int) : Int × Ps :=
  if accE P.rows n = 0 then
    if c = 0 then (2, P) else if 4611686018427387904 - P.sup < c then (144, P)
    else (0, { P with sup := P.sup + c, rows := setC P.rows n.toNat (coin P.rows n.toNat + c) })
  else (142, P)
theorem Mint_spec (p : Nat) (P : Ps) (n c : Int) (w0 w : World) (A : Asn) (hP : Bd P) (hc : 0 ≤ c ∧ c < 18446744073709551616) (s : St w0 (A * pur p P) w) :
    CallW Try.prog 62 [.pointer (some ⟨p, 0, none⟩), .int .i64 n, .int .u64 c] (fun r w' => r = .int .i64 (mintF P n c).1 ∧ St w0 (A * pur p (mintF P n c).2) w') w := by
  refine callW_of_lift l62_ok (by simp [l62]) ?_
  simp [l62]
  have hs := hP.sup
  have hlen := hP.len
  refine eff_call ((account_spec p P n w0 w A s).mono ?_)
  rintro r w1 ⟨rfl, s⟩
  simp
  refine cndI (fun h => ?_) (fun h => ?_)
  · simp at h
    have h142 := (accE_or P.rows n).resolve_left h
    simp [mintF, h142]
    exact s
  simp at h
  obtain ⟨i, rfl, hi⟩ := acc_in h
  simp
  refine cndI (fun h1 => ?_) (fun h1 => ?_)
  · simp at h1
    simp [mintF, h, h1]
    exact s
  simp at h1
  simp
  obtain ⟨m, v, s1⟩ := popen s
  refine eff_ldc (v := .int .u64 P.sup) (by rw [cell_of s1.drop.drop.look]; rfl) ?_
  simp
  try simp (disch := omega) only [wrapu64]
  refine cndI (fun h2 => ?_) (fun h2 => ?_)
  · simp at h2
    simp [mintF, h, h1, h2]
    exact s
  simp at h2
  simp
  refine eff_ldc (v := .int .u64 P.sup) (by rw [cell_of s1.drop.drop.look]; rfl) ?_
  simp
  try simp (disch := omega) only [wrapu64]
  refine eff_st1 (s1.to (B := A * mpt m P.rows * own 66 2 v P.rows.length (flat P.rows) * pt4 p P m v) (by ac_rfl)) rfl (by simp) ?_
  intro w2 s2
  simp at s2
  simp
  obtain ⟨g, cap, hv, hcap, _⟩ := s1.own_at (by omega)
  subst hv
  have hco := hP.coins i hi
  have hci : (P.rows.getD i ⟨[], 0⟩).coins = coin P.rows i := rfl
  rw [hci] at hco
  refine eff_ldc (v := .slice (some ⟨g, 0, none⟩) P.rows.length cap) (by rw [cell_of s2.look]; rfl) ?_
  simp [hi]
  have s3 := s2.to (B := A * mpt m P.rows * pt4 p { P with sup := P.sup + c } m (.slice (some ⟨g, 0, none⟩) P.rows.length cap) * own 66 2 (.slice (some ⟨g, 0, none⟩) P.rows.length cap) P.rows.length (flat P.rows)) (by ac_rfl)
  obtain ⟨g', cap', hv, _, hcell⟩ := s3.own_at (by omega)
  cases hv
  refine eff_ldc (v := .int .u64 (coin P.rows i)) (by rw [hcell _ _ (flat_coins hi), coin_at hi]) ?_
  simp [hi]
  try simp (disch := omega) only [wrapu64]
  have hfl := flat_len P.rows
  refine eff_stC (u := .int .u64 (coin P.rows i + c)) s3 (by omega) rfl ?_
  intro w3 s4
  rw [setC_at hi] at s4
  simp [mintF, h, h1]
  rw [if_neg (by omega)]
  refine ⟨rfl, pclose (m := m) (v := .slice (some ⟨g, 0, none⟩) P.rows.length cap) ?_⟩
  rw [mpt, keys_setC, setC_len]
  exact s4.to (by ac_rfl)
end Go.HL.Pu
