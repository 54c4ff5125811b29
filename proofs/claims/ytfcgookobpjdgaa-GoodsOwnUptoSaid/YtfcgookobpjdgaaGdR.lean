/-
  Goods by the document (bazaarref15): New, Limit, find, Make, Move, Hold, Free. Conditions: items that stand right.
-/
import Derived.Test.YtfcgookobpjdgaaGdP
namespace Go.HL.Gd
open Go.HL Go.Proofs
set_option maxRecDepth 4000
set_option linter.unusedSimpArgs false
set_option linter.unusedVariables false
/-- the document's goods at p -/
def rgs (p : Nat) (lim : Int) (its : List It) : Asn := fun h => ∃ v, (pt p (.cells #[.int .i64 lim, v] 84 (0, 0)) * own 44 4 v its.length (flat its)) h
theorem ropen {w0 w : World} {A : Asn} {p : Nat} {lim : Int} {its : List It} (s : St w0 (A * rgs p lim its) w) :
    ∃ v, St w0 (A * pt p (.cells #[.int .i64 lim, v] 84 (0, 0)) * own 44 4 v its.length (flat its)) w := by
  obtain ⟨g, h1, h2, h3, d, e, a, v, b⟩ := s.holds
  refine ⟨v, ?_⟩
  rw [sep_assoc]
  exact s.of ⟨g, h1, h2, h3, d, e, a, b⟩
theorem rclose {w0 w : World} {A : Asn} {p : Nat} {lim : Int} {its : List It} {v : Value}
    (s : St w0 (A * pt p (.cells #[.int .i64 lim, v] 84 (0, 0)) * own 44 4 v its.length (flat its)) w) : St w0 (A * rgs p lim its) w := by
  rw [sep_assoc] at s
  obtain ⟨g, h1, h2, h3, d, e, a, b⟩ := s.holds
  exact s.of ⟨g, h1, h2, h3, d, e, a, v, b⟩
-- bazaar/bazaarref15.account
def h53_0 : HC := (.seq (.reg (.chk none (.bin .geq) (.cons (.inp 0) (.cons (.cst (.int .i64 0)) .nil)) (.bnd (.op (.bin .geq) (.cons (.inp 0) (.cons (.cst (.int .i64 0)) .nil))) (.chk (some ((.bv 0), true)) (.bin .lss) (.cons (.inp 0) (.cons (.cst (.int .i64 64)) .nil)) (.isb none (.bv 0) (.done [(1, (.ite (.bv 0) true (.op (.bin .lss) (.cons (.inp 0) (.cons (.cst (.int .i64 64)) .nil))) (.cst (.bool false))))] none)))))) .ret)
@[simp] theorem h53_0_wp {P : Program} {F : PF P} {Q : EX → List Value → World → Prop} {env : List Value} {w : World} : h53_0.wp F Q env w = HC.wp F (.seq (.reg (.chk none (.bin .geq) (.cons (.inp 0) (.cons (.cst (.int .i64 0)) .nil)) (.bnd (.op (.bin .geq) (.cons (.inp 0) (.cons (.cst (.int .i64 0)) .nil))) (.chk (some ((.bv 0), true)) (.bin .lss) (.cons (.inp 0) (.cons (.cst (.int .i64 64)) .nil)) (.isb none (.bv 0) (.done [(1, (.ite (.bv 0) true (.op (.bin .lss) (.cons (.inp 0) (.cons (.cst (.int .i64 64)) .nil))) (.cst (.bool false))))] none)))))) .ret) Q env w := rfl
def l53 : Lifted := ⟨[0, 2], 9, [.slot 1], (.seq (.reg (.done [(1, (.cst (.bool false)))] none)) h53_0)⟩
theorem l53_ok : liftFn G1 53 400 = some l53 := by kernel_rfl


theorem raccount_spec (u : Int) (w : World) : CallW Try.prog 53 [.int .i64 u] (fun r w' => r = .bool (accF u) ∧ w' = w) w := by
  refine callW_of_lift l53_ok (by simp [l53]) ?_
  simp [l53, accF, condC_ite]
noncomputable def raccS : PS Try.prog := PS.ib 53 .i64 accF raccount_spec
noncomputable abbrev G2 : PF Try.prog := PF.of [accS, kindS, numS, raccS]
@[simp] theorem G2_r_val (args : List Value) : G2.val 53 args = raccS.val args := rfl
@[simp] theorem G2_r_ok (args : List Value) : G2.ok 53 args = raccS.ok args := rfl
@[simp] theorem G2_n_val (args : List Value) : G2.val 10 args = numS.val args := rfl
@[simp] theorem G2_n_ok (args : List Value) : G2.ok 10 args = numS.ok args := rfl
@[simp] theorem racc_val (u : Int) : raccS.val [.int .i64 u] = .bool (accF u) := rfl
@[simp] theorem racc_ok (u : Int) : raccS.ok [.int .i64 u] = (IntKind.i64 = .i64) := rfl
-- bazaar/bazaarref15.New
def h23_0 : HC := (.seq (.reg (.chk none (.build #[(.int .i64 0), (.slice none 0 0)] [(0, 1), (1, 1)] [0]) (.cons (.inp 0) .nil) (.eff (.box 84) (.cons (.op (.build #[(.int .i64 0), (.slice none 0 0)] [(0, 1), (1, 1)] [0]) (.cons (.inp 0) .nil)) .nil) (.done [(1, (.bv 0)), (2, (.cst (.int .i64 0)))] none)))) .ret)
@[simp] theorem h23_0_wp {P : Program} {F : PF P} {Q : EX → List Value → World → Prop} {env : List Value} {w : World} : h23_0.wp F Q env w = HC.wp F (.seq (.reg (.chk none (.build #[(.int .i64 0), (.slice none 0 0)] [(0, 1), (1, 1)] [0]) (.cons (.inp 0) .nil) (.eff (.box 84) (.cons (.op (.build #[(.int .i64 0), (.slice none 0 0)] [(0, 1), (1, 1)] [0]) (.cons (.inp 0) .nil)) .nil) (.done [(1, (.bv 0)), (2, (.cst (.int .i64 0)))] none)))) .ret) Q env w := rfl
def h23_1 : HC := (.seq (.reg (.done [(1, (.cst (.pointer none))), (2, (.cst (.int .i64 2)))] none)) .ret)
@[simp] theorem h23_1_wp {P : Program} {F : PF P} {Q : EX → List Value → World → Prop} {env : List Value} {w : World} : h23_1.wp F Q env w = HC.wp F (.seq (.reg (.done [(1, (.cst (.pointer none))), (2, (.cst (.int .i64 2)))] none)) .ret) Q env w := rfl
def h23_2 : HC := (.seq (.br (.chk none (.bin .lss) (.cons (.inp 0) (.cons (.cst (.int .i64 0)) .nil)) (.bnd (.op (.bin .lss) (.cons (.inp 0) (.cons (.cst (.int .i64 0)) .nil))) (.chk (some ((.bv 0), false)) (.bin .gtr) (.cons (.inp 0) (.cons (.cst (.int .i64 512)) .nil)) (.isb none (.bv 0) (.done [] (some (.ite (.bv 0) true (.cst (.bool true)) (.op (.bin .gtr) (.cons (.inp 0) (.cons (.cst (.int .i64 512)) .nil)))))))))) h23_1 .skip) h23_0)
@[simp] theorem h23_2_wp {P : Program} {F : PF P} {Q : EX → List Value → World → Prop} {env : List Value} {w : World} : h23_2.wp F Q env w = HC.wp F (.seq (.br (.chk none (.bin .lss) (.cons (.inp 0) (.cons (.cst (.int .i64 0)) .nil)) (.bnd (.op (.bin .lss) (.cons (.inp 0) (.cons (.cst (.int .i64 0)) .nil))) (.chk (some ((.bv 0), false)) (.bin .gtr) (.cons (.inp 0) (.cons (.cst (.int .i64 512)) .nil)) (.isb none (.bv 0) (.done [] (some (.ite (.bv 0) true (.cst (.bool true)) (.op (.bin .gtr) (.cons (.inp 0) (.cons (.cst (.int .i64 512)) .nil)))))))))) h23_1 .skip) h23_0) Q env w := rfl
def l23 : Lifted := ⟨[0, 2, 3], 13, [.slot 1, .slot 2], (.seq (.reg (.done [(1, (.cst (.pointer none))), (2, (.cst (.int .i64 0)))] none)) h23_2)⟩
theorem l23_ok : liftFn G2 23 400 = some l23 := by kernel_rfl

-- (*bazaar/bazaarref15.Goods).Limit
def h46_0 : HC := (.seq (.reg (.chk none .chkp (.cons (.inp 0) .nil) (.chk none (.fld 0) (.cons (.op .chkp (.cons (.inp 0) .nil)) .nil) (.eff (.ld false 1) (.cons (.op (.fld 0) (.cons (.op .chkp (.cons (.inp 0) .nil)) .nil)) .nil) (.done [(1, (.bv 0))] none))))) .ret)
@[simp] theorem h46_0_wp {P : Program} {F : PF P} {Q : EX → List Value → World → Prop} {env : List Value} {w : World} : h46_0.wp F Q env w = HC.wp F (.seq (.reg (.chk none .chkp (.cons (.inp 0) .nil) (.chk none (.fld 0) (.cons (.op .chkp (.cons (.inp 0) .nil)) .nil) (.eff (.ld false 1) (.cons (.op (.fld 0) (.cons (.op .chkp (.cons (.inp 0) .nil)) .nil)) .nil) (.done [(1, (.bv 0))] none))))) .ret) Q env w := rfl
def h46_1 : HC := (.seq (.reg (.done [(1, (.cst (.int .i64 0)))] none)) .ret)
@[simp] theorem h46_1_wp {P : Program} {F : PF P} {Q : EX → List Value → World → Prop} {env : List Value} {w : World} : h46_1.wp F Q env w = HC.wp F (.seq (.reg (.done [(1, (.cst (.int .i64 0)))] none)) .ret) Q env w := rfl
def h46_2 : HC := (.seq (.br (.chk none (.eqNil false (.pointer 84) (.pointer none)) (.cons (.inp 0) .nil) (.done [] (some (.op (.eqNil false (.pointer 84) (.pointer none)) (.cons (.inp 0) .nil))))) h46_1 .skip) h46_0)
@[simp] theorem h46_2_wp {P : Program} {F : PF P} {Q : EX → List Value → World → Prop} {env : List Value} {w : World} : h46_2.wp F Q env w = HC.wp F (.seq (.br (.chk none (.eqNil false (.pointer 84) (.pointer none)) (.cons (.inp 0) .nil) (.done [] (some (.op (.eqNil false (.pointer 84) (.pointer none)) (.cons (.inp 0) .nil))))) h46_1 .skip) h46_0) Q env w := rfl
def l46 : Lifted := ⟨[0, 2], 9, [.slot 1], (.seq (.reg (.done [(1, (.cst (.int .i64 0)))] none)) h46_2)⟩
theorem l46_ok : liftFn G2 46 400 = some l46 := by kernel_rfl

-- (*bazaar/bazaarref15.Goods).find
def h54_0 : HC := (.seq (.reg (.done [(2, (.cst (.int .i64 (-1))))] none)) .ret)
@[simp] theorem h54_0_wp {P : Program} {F : PF P} {Q : EX → List Value → World → Prop} {env : List Value} {w : World} : h54_0.wp F Q env w = HC.wp F (.seq (.reg (.done [(2, (.cst (.int .i64 (-1))))] none)) .ret) Q env w := rfl
def h54_1 : HC := (.reg (.chk none (.bin .add) (.cons (.inp 3) (.cons (.cst (.int .i64 1)) .nil)) (.done [(3, (.op (.bin .add) (.cons (.inp 3) (.cons (.cst (.int .i64 1)) .nil))))] none)))
@[simp] theorem h54_1_wp {P : Program} {F : PF P} {Q : EX → List Value → World → Prop} {env : List Value} {w : World} : h54_1.wp F Q env w = HC.wp F (.reg (.chk none (.bin .add) (.cons (.inp 3) (.cons (.cst (.int .i64 1)) .nil)) (.done [(3, (.op (.bin .add) (.cons (.inp 3) (.cons (.cst (.int .i64 1)) .nil))))] none))) Q env w := rfl
def h54_2 : HC := (.seq (.reg (.done [(2, (.inp 3))] none)) .ret)
@[simp] theorem h54_2_wp {P : Program} {F : PF P} {Q : EX → List Value → World → Prop} {env : List Value} {w : World} : h54_2.wp F Q env w = HC.wp F (.seq (.reg (.done [(2, (.inp 3))] none)) .ret) Q env w := rfl
def h54_3 : HC := (.br (.chk none .chkp (.cons (.inp 0) .nil) (.chk none (.fld 1) (.cons (.op .chkp (.cons (.inp 0) .nil)) .nil) (.eff (.ld false 1) (.cons (.op (.fld 1) (.cons (.op .chkp (.cons (.inp 0) .nil)) .nil)) .nil) (.chk none (.idxL 4) (.cons (.bv 0) (.cons (.inp 3) .nil)) (.chk none (.fld 0) (.cons (.op (.idxL 4) (.cons (.bv 0) (.cons (.inp 3) .nil))) .nil) (.eff (.ld false 1) (.cons (.op (.fld 0) (.cons (.op (.idxL 4) (.cons (.bv 0) (.cons (.inp 3) .nil))) .nil)) .nil) (.chk none (.bin .eql) (.cons (.bv 1) (.cons (.inp 1) .nil)) (.done [] (some (.op (.bin .eql) (.cons (.bv 1) (.cons (.inp 1) .nil)))))))))))) h54_2 .skip)
@[simp] theorem h54_3_wp {P : Program} {F : PF P} {Q : EX → List Value → World → Prop} {env : List Value} {w : World} : h54_3.wp F Q env w = HC.wp F (.br (.chk none .chkp (.cons (.inp 0) .nil) (.chk none (.fld 1) (.cons (.op .chkp (.cons (.inp 0) .nil)) .nil) (.eff (.ld false 1) (.cons (.op (.fld 1) (.cons (.op .chkp (.cons (.inp 0) .nil)) .nil)) .nil) (.chk none (.idxL 4) (.cons (.bv 0) (.cons (.inp 3) .nil)) (.chk none (.fld 0) (.cons (.op (.idxL 4) (.cons (.bv 0) (.cons (.inp 3) .nil))) .nil) (.eff (.ld false 1) (.cons (.op (.fld 0) (.cons (.op (.idxL 4) (.cons (.bv 0) (.cons (.inp 3) .nil))) .nil)) .nil) (.chk none (.bin .eql) (.cons (.bv 1) (.cons (.inp 1) .nil)) (.done [] (some (.op (.bin .eql) (.cons (.bv 1) (.cons (.inp 1) .nil)))))))))))) h54_2 .skip) Q env w := rfl
def h54_4 : HC := (.seq (.block 1 h54_3) h54_1)
@[simp] theorem h54_4_wp {P : Program} {F : PF P} {Q : EX → List Value → World → Prop} {env : List Value} {w : World} : h54_4.wp F Q env w = HC.wp F (.seq (.block 1 h54_3) h54_1) Q env w := rfl
def h54_5 : HC := (.seq (.br (.chk none .chkp (.cons (.inp 0) .nil) (.chk none (.fld 1) (.cons (.op .chkp (.cons (.inp 0) .nil)) .nil) (.eff (.ld false 1) (.cons (.op (.fld 1) (.cons (.op .chkp (.cons (.inp 0) .nil)) .nil)) .nil) (.chk none .lenL (.cons (.bv 0) .nil) (.chk none (.bin .lss) (.cons (.inp 3) (.cons (.op .lenL (.cons (.bv 0) .nil)) .nil)) (.done [] (some (.op (.bin .lss) (.cons (.inp 3) (.cons (.op .lenL (.cons (.bv 0) .nil)) .nil)))))))))) .skip (.exit 0)) h54_4)
@[simp] theorem h54_5_wp {P : Program} {F : PF P} {Q : EX → List Value → World → Prop} {env : List Value} {w : World} : h54_5.wp F Q env w = HC.wp F (.seq (.br (.chk none .chkp (.cons (.inp 0) .nil) (.chk none (.fld 1) (.cons (.op .chkp (.cons (.inp 0) .nil)) .nil) (.eff (.ld false 1) (.cons (.op (.fld 1) (.cons (.op .chkp (.cons (.inp 0) .nil)) .nil)) .nil) (.chk none .lenL (.cons (.bv 0) .nil) (.chk none (.bin .lss) (.cons (.inp 3) (.cons (.op .lenL (.cons (.bv 0) .nil)) .nil)) (.done [] (some (.op (.bin .lss) (.cons (.inp 3) (.cons (.op .lenL (.cons (.bv 0) .nil)) .nil)))))))))) .skip (.exit 0)) h54_4) Q env w := rfl
def h54_6 : HC := (.loop h54_5)
@[simp] theorem h54_6_wp {P : Program} {F : PF P} {Q : EX → List Value → World → Prop} {env : List Value} {w : World} : h54_6.wp F Q env w = HC.wp F (.loop h54_5) Q env w := rfl
def h54_7 : HC := (.seq (.block 0 h54_6) h54_0)
@[simp] theorem h54_7_wp {P : Program} {F : PF P} {Q : EX → List Value → World → Prop} {env : List Value} {w : World} : h54_7.wp F Q env w = HC.wp F (.seq (.block 0 h54_6) h54_0) Q env w := rfl
def h54_8 : HC := (.seq (.reg (.done [(3, (.cst (.int .i64 0)))] none)) h54_7)
@[simp] theorem h54_8_wp {P : Program} {F : PF P} {Q : EX → List Value → World → Prop} {env : List Value} {w : World} : h54_8.wp F Q env w = HC.wp F (.seq (.reg (.done [(3, (.cst (.int .i64 0)))] none)) h54_7) Q env w := rfl
def l54 : Lifted := ⟨[0, 1, 4, 5], 26, [.slot 2], (.seq (.reg (.done [(2, (.cst (.int .i64 0)))] none)) h54_8)⟩
theorem l54_ok : liftFn G2 54 400 = some l54 := by kernel_rfl

-- (*bazaar/bazaarref15.Goods).Make
def h40_0 : HC := (.seq (.reg (.chk none .chkp (.cons (.inp 0) .nil) (.chk none (.fld 1) (.cons (.op .chkp (.cons (.inp 0) .nil)) .nil) (.eff (.ld false 1) (.cons (.op (.fld 1) (.cons (.op .chkp (.cons (.inp 0) .nil)) .nil)) .nil) (.chk none .lenL (.cons (.bv 0) .nil) (.done [(3, (.op .lenL (.cons (.bv 0) .nil))), (4, (.cst (.int .i64 0)))] none)))))) .ret)
@[simp] theorem h40_0_wp {P : Program} {F : PF P} {Q : EX → List Value → World → Prop} {env : List Value} {w : World} : h40_0.wp F Q env w = HC.wp F (.seq (.reg (.chk none .chkp (.cons (.inp 0) .nil) (.chk none (.fld 1) (.cons (.op .chkp (.cons (.inp 0) .nil)) .nil) (.eff (.ld false 1) (.cons (.op (.fld 1) (.cons (.op .chkp (.cons (.inp 0) .nil)) .nil)) .nil) (.chk none .lenL (.cons (.bv 0) .nil) (.done [(3, (.op .lenL (.cons (.bv 0) .nil))), (4, (.cst (.int .i64 0)))] none)))))) .ret) Q env w := rfl
def h40_1 : HC := (.seq (.regq (some 3) (.chk none .chkp (.cons (.inp 0) .nil) (.chk none (.fld 1) (.cons (.op .chkp (.cons (.inp 0) .nil)) .nil) (.eff (.ld false 1) (.cons (.op (.fld 1) (.cons (.op .chkp (.cons (.inp 0) .nil)) .nil)) .nil) (.chk none .chkp (.cons (.inp 0) .nil) (.chk none (.fld 1) (.cons (.op .chkp (.cons (.inp 0) .nil)) .nil) (.eff (.ld false 1) (.cons (.op (.fld 1) (.cons (.op .chkp (.cons (.inp 0) .nil)) .nil)) .nil) (.chk none .lenL (.cons (.bv 1) .nil) (.chk none (.bin .add) (.cons (.op .lenL (.cons (.bv 1) .nil)) (.cons (.cst (.int .i64 1)) .nil)) (.chk none (.build #[(.int .i64 0), (.int .i64 0), (.int .i64 0), (.int .i64 0)] [(0, 1), (1, 1), (2, 1), (3, 1)] [0, 1, 2]) (.cons (.op (.bin .add) (.cons (.op .lenL (.cons (.bv 1) .nil)) (.cons (.cst (.int .i64 1)) .nil))) (.cons (.inp 1) (.cons (.inp 2) .nil))) (.eff (.bsl 44 1 4 #[(.int .i64 0), (.int .i64 0), (.int .i64 0), (.int .i64 0)] [0]) (.cons (.op (.build #[(.int .i64 0), (.int .i64 0), (.int .i64 0), (.int .i64 0)] [(0, 1), (1, 1), (2, 1), (3, 1)] [0, 1, 2]) (.cons (.op (.bin .add) (.cons (.op .lenL (.cons (.bv 1) .nil)) (.cons (.cst (.int .i64 1)) .nil))) (.cons (.inp 1) (.cons (.inp 2) .nil)))) .nil) (.eff (.app 30 30 44 4 32 (.agg #[(.int .i64 0), (.int .i64 0), (.int .i64 0), (.int .i64 0)])) (.cons (.bv 0) (.cons (.bv 2) .nil)) (.chk none .chkp (.cons (.inp 0) .nil) (.chk none (.fld 1) (.cons (.op .chkp (.cons (.inp 0) .nil)) .nil) (.eff (.st 1) (.cons (.op (.fld 1) (.cons (.op .chkp (.cons (.inp 0) .nil)) .nil)) (.cons (.bv 3) .nil)) (.done [] none)))))))))))))))) h40_0)
@[simp] theorem h40_1_wp {P : Program} {F : PF P} {Q : EX → List Value → World → Prop} {env : List Value} {w : World} : h40_1.wp F Q env w = HC.wp F (.seq (.regq (some 3) (.chk none .chkp (.cons (.inp 0) .nil) (.chk none (.fld 1) (.cons (.op .chkp (.cons (.inp 0) .nil)) .nil) (.eff (.ld false 1) (.cons (.op (.fld 1) (.cons (.op .chkp (.cons (.inp 0) .nil)) .nil)) .nil) (.chk none .chkp (.cons (.inp 0) .nil) (.chk none (.fld 1) (.cons (.op .chkp (.cons (.inp 0) .nil)) .nil) (.eff (.ld false 1) (.cons (.op (.fld 1) (.cons (.op .chkp (.cons (.inp 0) .nil)) .nil)) .nil) (.chk none .lenL (.cons (.bv 1) .nil) (.chk none (.bin .add) (.cons (.op .lenL (.cons (.bv 1) .nil)) (.cons (.cst (.int .i64 1)) .nil)) (.chk none (.build #[(.int .i64 0), (.int .i64 0), (.int .i64 0), (.int .i64 0)] [(0, 1), (1, 1), (2, 1), (3, 1)] [0, 1, 2]) (.cons (.op (.bin .add) (.cons (.op .lenL (.cons (.bv 1) .nil)) (.cons (.cst (.int .i64 1)) .nil))) (.cons (.inp 1) (.cons (.inp 2) .nil))) (.eff (.bsl 44 1 4 #[(.int .i64 0), (.int .i64 0), (.int .i64 0), (.int .i64 0)] [0]) (.cons (.op (.build #[(.int .i64 0), (.int .i64 0), (.int .i64 0), (.int .i64 0)] [(0, 1), (1, 1), (2, 1), (3, 1)] [0, 1, 2]) (.cons (.op (.bin .add) (.cons (.op .lenL (.cons (.bv 1) .nil)) (.cons (.cst (.int .i64 1)) .nil))) (.cons (.inp 1) (.cons (.inp 2) .nil)))) .nil) (.eff (.app 30 30 44 4 32 (.agg #[(.int .i64 0), (.int .i64 0), (.int .i64 0), (.int .i64 0)])) (.cons (.bv 0) (.cons (.bv 2) .nil)) (.chk none .chkp (.cons (.inp 0) .nil) (.chk none (.fld 1) (.cons (.op .chkp (.cons (.inp 0) .nil)) .nil) (.eff (.st 1) (.cons (.op (.fld 1) (.cons (.op .chkp (.cons (.inp 0) .nil)) .nil)) (.cons (.bv 3) .nil)) (.done [] none)))))))))))))))) h40_0) Q env w := rfl
def h40_2 : HC := (.seq (.reg (.done [(3, (.cst (.int .i64 0))), (4, (.cst (.int .i64 150)))] none)) .ret)
@[simp] theorem h40_2_wp {P : Program} {F : PF P} {Q : EX → List Value → World → Prop} {env : List Value} {w : World} : h40_2.wp F Q env w = HC.wp F (.seq (.reg (.done [(3, (.cst (.int .i64 0))), (4, (.cst (.int .i64 150)))] none)) .ret) Q env w := rfl
def h40_3 : HC := (.seq (.brq (some 0) (.chk none .chkp (.cons (.inp 0) .nil) (.chk none (.fld 1) (.cons (.op .chkp (.cons (.inp 0) .nil)) .nil) (.eff (.ld false 1) (.cons (.op (.fld 1) (.cons (.op .chkp (.cons (.inp 0) .nil)) .nil)) .nil) (.chk none .lenL (.cons (.bv 0) .nil) (.chk none .chkp (.cons (.inp 0) .nil) (.chk none (.fld 0) (.cons (.op .chkp (.cons (.inp 0) .nil)) .nil) (.eff (.ld false 1) (.cons (.op (.fld 0) (.cons (.op .chkp (.cons (.inp 0) .nil)) .nil)) .nil) (.chk none (.bin .eql) (.cons (.op .lenL (.cons (.bv 0) .nil)) (.cons (.bv 1) .nil)) (.done [] (some (.op (.bin .eql) (.cons (.op .lenL (.cons (.bv 0) .nil)) (.cons (.bv 1) .nil))))))))))))) h40_2 .skip) h40_1)
@[simp] theorem h40_3_wp {P : Program} {F : PF P} {Q : EX → List Value → World → Prop} {env : List Value} {w : World} : h40_3.wp F Q env w = HC.wp F (.seq (.brq (some 0) (.chk none .chkp (.cons (.inp 0) .nil) (.chk none (.fld 1) (.cons (.op .chkp (.cons (.inp 0) .nil)) .nil) (.eff (.ld false 1) (.cons (.op (.fld 1) (.cons (.op .chkp (.cons (.inp 0) .nil)) .nil)) .nil) (.chk none .lenL (.cons (.bv 0) .nil) (.chk none .chkp (.cons (.inp 0) .nil) (.chk none (.fld 0) (.cons (.op .chkp (.cons (.inp 0) .nil)) .nil) (.eff (.ld false 1) (.cons (.op (.fld 0) (.cons (.op .chkp (.cons (.inp 0) .nil)) .nil)) .nil) (.chk none (.bin .eql) (.cons (.op .lenL (.cons (.bv 0) .nil)) (.cons (.bv 1) .nil)) (.done [] (some (.op (.bin .eql) (.cons (.op .lenL (.cons (.bv 0) .nil)) (.cons (.bv 1) .nil))))))))))))) h40_2 .skip) h40_1) Q env w := rfl
def h40_4 : HC := (.seq (.reg (.done [(3, (.cst (.int .i64 0))), (4, (.cst (.int .i64 152)))] none)) .ret)
@[simp] theorem h40_4_wp {P : Program} {F : PF P} {Q : EX → List Value → World → Prop} {env : List Value} {w : World} : h40_4.wp F Q env w = HC.wp F (.seq (.reg (.done [(3, (.cst (.int .i64 0))), (4, (.cst (.int .i64 152)))] none)) .ret) Q env w := rfl
def h40_5 : HC := (.seq (.br (.chk none (.bin .lss) (.cons (.inp 1) (.cons (.cst (.int .i64 0)) .nil)) (.bnd (.op (.bin .lss) (.cons (.inp 1) (.cons (.cst (.int .i64 0)) .nil))) (.chk (some ((.bv 0), false)) (.bin .geq) (.cons (.inp 1) (.cons (.cst (.int .i64 16)) .nil)) (.isb none (.bv 0) (.done [] (some (.ite (.bv 0) true (.cst (.bool true)) (.op (.bin .geq) (.cons (.inp 1) (.cons (.cst (.int .i64 16)) .nil)))))))))) h40_4 .skip) h40_3)
@[simp] theorem h40_5_wp {P : Program} {F : PF P} {Q : EX → List Value → World → Prop} {env : List Value} {w : World} : h40_5.wp F Q env w = HC.wp F (.seq (.br (.chk none (.bin .lss) (.cons (.inp 1) (.cons (.cst (.int .i64 0)) .nil)) (.bnd (.op (.bin .lss) (.cons (.inp 1) (.cons (.cst (.int .i64 0)) .nil))) (.chk (some ((.bv 0), false)) (.bin .geq) (.cons (.inp 1) (.cons (.cst (.int .i64 16)) .nil)) (.isb none (.bv 0) (.done [] (some (.ite (.bv 0) true (.cst (.bool true)) (.op (.bin .geq) (.cons (.inp 1) (.cons (.cst (.int .i64 16)) .nil)))))))))) h40_4 .skip) h40_3) Q env w := rfl
def h40_6 : HC := (.seq (.reg (.done [(3, (.cst (.int .i64 0))), (4, (.cst (.int .i64 2)))] none)) .ret)
@[simp] theorem h40_6_wp {P : Program} {F : PF P} {Q : EX → List Value → World → Prop} {env : List Value} {w : World} : h40_6.wp F Q env w = HC.wp F (.seq (.reg (.done [(3, (.cst (.int .i64 0))), (4, (.cst (.int .i64 2)))] none)) .ret) Q env w := rfl
def h40_7 : HC := (.seq (.br (.chk none (.cal 53) (.cons (.inp 2) .nil) (.chk none (.un .not) (.cons (.op (.cal 53) (.cons (.inp 2) .nil)) .nil) (.done [] (some (.op (.un .not) (.cons (.op (.cal 53) (.cons (.inp 2) .nil)) .nil)))))) h40_6 .skip) h40_5)
@[simp] theorem h40_7_wp {P : Program} {F : PF P} {Q : EX → List Value → World → Prop} {env : List Value} {w : World} : h40_7.wp F Q env w = HC.wp F (.seq (.br (.chk none (.cal 53) (.cons (.inp 2) .nil) (.chk none (.un .not) (.cons (.op (.cal 53) (.cons (.inp 2) .nil)) .nil) (.done [] (some (.op (.un .not) (.cons (.op (.cal 53) (.cons (.inp 2) .nil)) .nil)))))) h40_6 .skip) h40_5) Q env w := rfl
def h40_8 : HC := (.seq (.reg (.done [(3, (.cst (.int .i64 0))), (4, (.cst (.int .i64 1)))] none)) .ret)
@[simp] theorem h40_8_wp {P : Program} {F : PF P} {Q : EX → List Value → World → Prop} {env : List Value} {w : World} : h40_8.wp F Q env w = HC.wp F (.seq (.reg (.done [(3, (.cst (.int .i64 0))), (4, (.cst (.int .i64 1)))] none)) .ret) Q env w := rfl
def h40_9 : HC := (.seq (.br (.chk none (.eqNil false (.pointer 84) (.pointer none)) (.cons (.inp 0) .nil) (.done [] (some (.op (.eqNil false (.pointer 84) (.pointer none)) (.cons (.inp 0) .nil))))) h40_8 .skip) h40_7)
@[simp] theorem h40_9_wp {P : Program} {F : PF P} {Q : EX → List Value → World → Prop} {env : List Value} {w : World} : h40_9.wp F Q env w = HC.wp F (.seq (.br (.chk none (.eqNil false (.pointer 84) (.pointer none)) (.cons (.inp 0) .nil) (.done [] (some (.op (.eqNil false (.pointer 84) (.pointer none)) (.cons (.inp 0) .nil))))) h40_8 .skip) h40_7) Q env w := rfl
def l40 : Lifted := ⟨[0, 1, 2, 6, 7], 52, [.slot 3, .slot 4], (.seq (.reg (.done [(3, (.cst (.int .i64 0))), (4, (.cst (.int .i64 0)))] none)) h40_9)⟩
theorem l40_ok : liftFn G2 40 400 = some l40 := by kernel_rfl

-- (*bazaar/bazaarref15.Goods).Move
def h41_0 : HC := (.seq (.reg (.done [(3, (.cst (.int .i64 0)))] none)) .ret)
@[simp] theorem h41_0_wp {P : Program} {F : PF P} {Q : EX → List Value → World → Prop} {env : List Value} {w : World} : h41_0.wp F Q env w = HC.wp F (.seq (.reg (.done [(3, (.cst (.int .i64 0)))] none)) .ret) Q env w := rfl
def h41_1 : HC := (.seq (.reg (.chk none .chkp (.cons (.inp 0) .nil) (.chk none (.fld 1) (.cons (.op .chkp (.cons (.inp 0) .nil)) .nil) (.eff (.ld false 1) (.cons (.op (.fld 1) (.cons (.op .chkp (.cons (.inp 0) .nil)) .nil)) .nil) (.chk none (.idxL 4) (.cons (.bv 0) (.cons (.inp 4) .nil)) (.chk none (.fld 2) (.cons (.op (.idxL 4) (.cons (.bv 0) (.cons (.inp 4) .nil))) .nil) (.eff (.st 1) (.cons (.op (.fld 2) (.cons (.op (.idxL 4) (.cons (.bv 0) (.cons (.inp 4) .nil))) .nil)) (.cons (.inp 2) .nil)) (.done [] none)))))))) h41_0)
@[simp] theorem h41_1_wp {P : Program} {F : PF P} {Q : EX → List Value → World → Prop} {env : List Value} {w : World} : h41_1.wp F Q env w = HC.wp F (.seq (.reg (.chk none .chkp (.cons (.inp 0) .nil) (.chk none (.fld 1) (.cons (.op .chkp (.cons (.inp 0) .nil)) .nil) (.eff (.ld false 1) (.cons (.op (.fld 1) (.cons (.op .chkp (.cons (.inp 0) .nil)) .nil)) .nil) (.chk none (.idxL 4) (.cons (.bv 0) (.cons (.inp 4) .nil)) (.chk none (.fld 2) (.cons (.op (.idxL 4) (.cons (.bv 0) (.cons (.inp 4) .nil))) .nil) (.eff (.st 1) (.cons (.op (.fld 2) (.cons (.op (.idxL 4) (.cons (.bv 0) (.cons (.inp 4) .nil))) .nil)) (.cons (.inp 2) .nil)) (.done [] none)))))))) h41_0) Q env w := rfl
def h41_2 : HC := (.seq (.reg (.done [(3, (.cst (.int .i64 151)))] none)) .ret)
@[simp] theorem h41_2_wp {P : Program} {F : PF P} {Q : EX → List Value → World → Prop} {env : List Value} {w : World} : h41_2.wp F Q env w = HC.wp F (.seq (.reg (.done [(3, (.cst (.int .i64 151)))] none)) .ret) Q env w := rfl
def h41_3 : HC := (.seq (.br (.chk none (.bin .lss) (.cons (.inp 4) (.cons (.cst (.int .i64 0)) .nil)) (.bnd (.op (.bin .lss) (.cons (.inp 4) (.cons (.cst (.int .i64 0)) .nil))) (.chk (some ((.bv 0), false)) .chkp (.cons (.inp 0) .nil) (.chk (some ((.bv 0), false)) (.fld 1) (.cons (.op .chkp (.cons (.inp 0) .nil)) .nil) (.ite (.bv 0) false (.eff (.ld false 1) (.cons (.ite (.bv 0) false (.op (.fld 1) (.cons (.op .chkp (.cons (.inp 0) .nil)) .nil)) (.cst (.tuple #[]))) .nil) (.chk none (.idxL 4) (.cons (.bv 1) (.cons (.inp 4) .nil)) (.chk none (.fld 3) (.cons (.op (.idxL 4) (.cons (.bv 1) (.cons (.inp 4) .nil))) .nil) (.eff (.ld false 1) (.cons (.op (.fld 3) (.cons (.op (.idxL 4) (.cons (.bv 1) (.cons (.inp 4) .nil))) .nil)) .nil) (.chk none (.bin .neq) (.cons (.bv 2) (.cons (.cst (.int .i64 0)) .nil)) (.isb none (.bv 0) (.done [] (some (.op (.bin .neq) (.cons (.bv 2) (.cons (.cst (.int .i64 0)) .nil))))))))))) (.isb none (.bv 0) (.done [] (some (.cst (.bool true)))))))))) h41_2 .skip) h41_1)
@[simp] theorem h41_3_wp {P : Program} {F : PF P} {Q : EX → List Value → World → Prop} {env : List Value} {w : World} : h41_3.wp F Q env w = HC.wp F (.seq (.br (.chk none (.bin .lss) (.cons (.inp 4) (.cons (.cst (.int .i64 0)) .nil)) (.bnd (.op (.bin .lss) (.cons (.inp 4) (.cons (.cst (.int .i64 0)) .nil))) (.chk (some ((.bv 0), false)) .chkp (.cons (.inp 0) .nil) (.chk (some ((.bv 0), false)) (.fld 1) (.cons (.op .chkp (.cons (.inp 0) .nil)) .nil) (.ite (.bv 0) false (.eff (.ld false 1) (.cons (.ite (.bv 0) false (.op (.fld 1) (.cons (.op .chkp (.cons (.inp 0) .nil)) .nil)) (.cst (.tuple #[]))) .nil) (.chk none (.idxL 4) (.cons (.bv 1) (.cons (.inp 4) .nil)) (.chk none (.fld 3) (.cons (.op (.idxL 4) (.cons (.bv 1) (.cons (.inp 4) .nil))) .nil) (.eff (.ld false 1) (.cons (.op (.fld 3) (.cons (.op (.idxL 4) (.cons (.bv 1) (.cons (.inp 4) .nil))) .nil)) .nil) (.chk none (.bin .neq) (.cons (.bv 2) (.cons (.cst (.int .i64 0)) .nil)) (.isb none (.bv 0) (.done [] (some (.op (.bin .neq) (.cons (.bv 2) (.cons (.cst (.int .i64 0)) .nil))))))))))) (.isb none (.bv 0) (.done [] (some (.cst (.bool true)))))))))) h41_2 .skip) h41_1) Q env w := rfl
def h41_4 : HC := (.seq (.reg (.eff (.call 54) (.cons (.inp 0) (.cons (.inp 1) .nil)) (.done [(4, (.bv 0))] none))) h41_3)
@[simp] theorem h41_4_wp {P : Program} {F : PF P} {Q : EX → List Value → World → Prop} {env : List Value} {w : World} : h41_4.wp F Q env w = HC.wp F (.seq (.reg (.eff (.call 54) (.cons (.inp 0) (.cons (.inp 1) .nil)) (.done [(4, (.bv 0))] none))) h41_3) Q env w := rfl
def h41_5 : HC := (.seq (.reg (.done [(3, (.cst (.int .i64 2)))] none)) .ret)
@[simp] theorem h41_5_wp {P : Program} {F : PF P} {Q : EX → List Value → World → Prop} {env : List Value} {w : World} : h41_5.wp F Q env w = HC.wp F (.seq (.reg (.done [(3, (.cst (.int .i64 2)))] none)) .ret) Q env w := rfl
def h41_6 : HC := (.seq (.br (.chk none (.cal 53) (.cons (.inp 2) .nil) (.chk none (.un .not) (.cons (.op (.cal 53) (.cons (.inp 2) .nil)) .nil) (.done [] (some (.op (.un .not) (.cons (.op (.cal 53) (.cons (.inp 2) .nil)) .nil)))))) h41_5 .skip) h41_4)
@[simp] theorem h41_6_wp {P : Program} {F : PF P} {Q : EX → List Value → World → Prop} {env : List Value} {w : World} : h41_6.wp F Q env w = HC.wp F (.seq (.br (.chk none (.cal 53) (.cons (.inp 2) .nil) (.chk none (.un .not) (.cons (.op (.cal 53) (.cons (.inp 2) .nil)) .nil) (.done [] (some (.op (.un .not) (.cons (.op (.cal 53) (.cons (.inp 2) .nil)) .nil)))))) h41_5 .skip) h41_4) Q env w := rfl
def h41_7 : HC := (.seq (.reg (.done [(3, (.cst (.int .i64 1)))] none)) .ret)
@[simp] theorem h41_7_wp {P : Program} {F : PF P} {Q : EX → List Value → World → Prop} {env : List Value} {w : World} : h41_7.wp F Q env w = HC.wp F (.seq (.reg (.done [(3, (.cst (.int .i64 1)))] none)) .ret) Q env w := rfl
def h41_8 : HC := (.seq (.br (.chk none (.eqNil false (.pointer 84) (.pointer none)) (.cons (.inp 0) .nil) (.done [] (some (.op (.eqNil false (.pointer 84) (.pointer none)) (.cons (.inp 0) .nil))))) h41_7 .skip) h41_6)
@[simp] theorem h41_8_wp {P : Program} {F : PF P} {Q : EX → List Value → World → Prop} {env : List Value} {w : World} : h41_8.wp F Q env w = HC.wp F (.seq (.br (.chk none (.eqNil false (.pointer 84) (.pointer none)) (.cons (.inp 0) .nil) (.done [] (some (.op (.eqNil false (.pointer 84) (.pointer none)) (.cons (.inp 0) .nil))))) h41_7 .skip) h41_6) Q env w := rfl
def l41 : Lifted := ⟨[0, 1, 2, 6, 7], 37, [.slot 3], (.seq (.reg (.done [(3, (.cst (.int .i64 0)))] none)) h41_8)⟩
theorem l41_ok : liftFn G2 41 400 = some l41 := by kernel_rfl

-- (*bazaar/bazaarref15.Goods).Hold
def h42_0 : HC := (.seq (.reg (.done [(3, (.cst (.int .i64 0)))] none)) .ret)
@[simp] theorem h42_0_wp {P : Program} {F : PF P} {Q : EX → List Value → World → Prop} {env : List Value} {w : World} : h42_0.wp F Q env w = HC.wp F (.seq (.reg (.done [(3, (.cst (.int .i64 0)))] none)) .ret) Q env w := rfl
def h42_1 : HC := (.seq (.reg (.chk none .chkp (.cons (.inp 0) .nil) (.chk none (.fld 1) (.cons (.op .chkp (.cons (.inp 0) .nil)) .nil) (.eff (.ld false 1) (.cons (.op (.fld 1) (.cons (.op .chkp (.cons (.inp 0) .nil)) .nil)) .nil) (.chk none (.idxL 4) (.cons (.bv 0) (.cons (.inp 4) .nil)) (.chk none (.fld 3) (.cons (.op (.idxL 4) (.cons (.bv 0) (.cons (.inp 4) .nil))) .nil) (.eff (.st 1) (.cons (.op (.fld 3) (.cons (.op (.idxL 4) (.cons (.bv 0) (.cons (.inp 4) .nil))) .nil)) (.cons (.inp 2) .nil)) (.done [] none)))))))) h42_0)
@[simp] theorem h42_1_wp {P : Program} {F : PF P} {Q : EX → List Value → World → Prop} {env : List Value} {w : World} : h42_1.wp F Q env w = HC.wp F (.seq (.reg (.chk none .chkp (.cons (.inp 0) .nil) (.chk none (.fld 1) (.cons (.op .chkp (.cons (.inp 0) .nil)) .nil) (.eff (.ld false 1) (.cons (.op (.fld 1) (.cons (.op .chkp (.cons (.inp 0) .nil)) .nil)) .nil) (.chk none (.idxL 4) (.cons (.bv 0) (.cons (.inp 4) .nil)) (.chk none (.fld 3) (.cons (.op (.idxL 4) (.cons (.bv 0) (.cons (.inp 4) .nil))) .nil) (.eff (.st 1) (.cons (.op (.fld 3) (.cons (.op (.idxL 4) (.cons (.bv 0) (.cons (.inp 4) .nil))) .nil)) (.cons (.inp 2) .nil)) (.done [] none)))))))) h42_0) Q env w := rfl
def h42_2 : HC := (.seq (.reg (.chk none .chkp (.cons (.inp 0) .nil) (.chk none (.fld 1) (.cons (.op .chkp (.cons (.inp 0) .nil)) .nil) (.eff (.ld false 1) (.cons (.op (.fld 1) (.cons (.op .chkp (.cons (.inp 0) .nil)) .nil)) .nil) (.chk none (.idxL 4) (.cons (.bv 0) (.cons (.inp 4) .nil)) (.chk none (.fld 2) (.cons (.op (.idxL 4) (.cons (.bv 0) (.cons (.inp 4) .nil))) .nil) (.eff (.st 1) (.cons (.op (.fld 2) (.cons (.op (.idxL 4) (.cons (.bv 0) (.cons (.inp 4) .nil))) .nil)) (.cons (.cst (.int .i64 (-1))) .nil)) (.done [] none)))))))) h42_1)
@[simp] theorem h42_2_wp {P : Program} {F : PF P} {Q : EX → List Value → World → Prop} {env : List Value} {w : World} : h42_2.wp F Q env w = HC.wp F (.seq (.reg (.chk none .chkp (.cons (.inp 0) .nil) (.chk none (.fld 1) (.cons (.op .chkp (.cons (.inp 0) .nil)) .nil) (.eff (.ld false 1) (.cons (.op (.fld 1) (.cons (.op .chkp (.cons (.inp 0) .nil)) .nil)) .nil) (.chk none (.idxL 4) (.cons (.bv 0) (.cons (.inp 4) .nil)) (.chk none (.fld 2) (.cons (.op (.idxL 4) (.cons (.bv 0) (.cons (.inp 4) .nil))) .nil) (.eff (.st 1) (.cons (.op (.fld 2) (.cons (.op (.idxL 4) (.cons (.bv 0) (.cons (.inp 4) .nil))) .nil)) (.cons (.cst (.int .i64 (-1))) .nil)) (.done [] none)))))))) h42_1) Q env w := rfl
def h42_3 : HC := (.seq (.reg (.done [(3, (.cst (.int .i64 151)))] none)) .ret)
@[simp] theorem h42_3_wp {P : Program} {F : PF P} {Q : EX → List Value → World → Prop} {env : List Value} {w : World} : h42_3.wp F Q env w = HC.wp F (.seq (.reg (.done [(3, (.cst (.int .i64 151)))] none)) .ret) Q env w := rfl
def h42_4 : HC := (.seq (.br (.chk none (.bin .lss) (.cons (.inp 4) (.cons (.cst (.int .i64 0)) .nil)) (.bnd (.op (.bin .lss) (.cons (.inp 4) (.cons (.cst (.int .i64 0)) .nil))) (.chk (some ((.bv 0), false)) .chkp (.cons (.inp 0) .nil) (.chk (some ((.bv 0), false)) (.fld 1) (.cons (.op .chkp (.cons (.inp 0) .nil)) .nil) (.ite (.bv 0) false (.eff (.ld false 1) (.cons (.ite (.bv 0) false (.op (.fld 1) (.cons (.op .chkp (.cons (.inp 0) .nil)) .nil)) (.cst (.tuple #[]))) .nil) (.chk none (.idxL 4) (.cons (.bv 1) (.cons (.inp 4) .nil)) (.chk none (.fld 3) (.cons (.op (.idxL 4) (.cons (.bv 1) (.cons (.inp 4) .nil))) .nil) (.eff (.ld false 1) (.cons (.op (.fld 3) (.cons (.op (.idxL 4) (.cons (.bv 1) (.cons (.inp 4) .nil))) .nil)) .nil) (.chk none (.bin .neq) (.cons (.bv 2) (.cons (.cst (.int .i64 0)) .nil)) (.isb none (.bv 0) (.done [] (some (.op (.bin .neq) (.cons (.bv 2) (.cons (.cst (.int .i64 0)) .nil))))))))))) (.isb none (.bv 0) (.done [] (some (.cst (.bool true)))))))))) h42_3 .skip) h42_2)
@[simp] theorem h42_4_wp {P : Program} {F : PF P} {Q : EX → List Value → World → Prop} {env : List Value} {w : World} : h42_4.wp F Q env w = HC.wp F (.seq (.br (.chk none (.bin .lss) (.cons (.inp 4) (.cons (.cst (.int .i64 0)) .nil)) (.bnd (.op (.bin .lss) (.cons (.inp 4) (.cons (.cst (.int .i64 0)) .nil))) (.chk (some ((.bv 0), false)) .chkp (.cons (.inp 0) .nil) (.chk (some ((.bv 0), false)) (.fld 1) (.cons (.op .chkp (.cons (.inp 0) .nil)) .nil) (.ite (.bv 0) false (.eff (.ld false 1) (.cons (.ite (.bv 0) false (.op (.fld 1) (.cons (.op .chkp (.cons (.inp 0) .nil)) .nil)) (.cst (.tuple #[]))) .nil) (.chk none (.idxL 4) (.cons (.bv 1) (.cons (.inp 4) .nil)) (.chk none (.fld 3) (.cons (.op (.idxL 4) (.cons (.bv 1) (.cons (.inp 4) .nil))) .nil) (.eff (.ld false 1) (.cons (.op (.fld 3) (.cons (.op (.idxL 4) (.cons (.bv 1) (.cons (.inp 4) .nil))) .nil)) .nil) (.chk none (.bin .neq) (.cons (.bv 2) (.cons (.cst (.int .i64 0)) .nil)) (.isb none (.bv 0) (.done [] (some (.op (.bin .neq) (.cons (.bv 2) (.cons (.cst (.int .i64 0)) .nil))))))))))) (.isb none (.bv 0) (.done [] (some (.cst (.bool true)))))))))) h42_3 .skip) h42_2) Q env w := rfl
def h42_5 : HC := (.seq (.reg (.eff (.call 54) (.cons (.inp 0) (.cons (.inp 1) .nil)) (.done [(4, (.bv 0))] none))) h42_4)
@[simp] theorem h42_5_wp {P : Program} {F : PF P} {Q : EX → List Value → World → Prop} {env : List Value} {w : World} : h42_5.wp F Q env w = HC.wp F (.seq (.reg (.eff (.call 54) (.cons (.inp 0) (.cons (.inp 1) .nil)) (.done [(4, (.bv 0))] none))) h42_4) Q env w := rfl
def h42_6 : HC := (.seq (.reg (.done [(3, (.cst (.int .i64 2)))] none)) .ret)
@[simp] theorem h42_6_wp {P : Program} {F : PF P} {Q : EX → List Value → World → Prop} {env : List Value} {w : World} : h42_6.wp F Q env w = HC.wp F (.seq (.reg (.done [(3, (.cst (.int .i64 2)))] none)) .ret) Q env w := rfl
def h42_7 : HC := (.seq (.br (.chk none (.bin .lss) (.cons (.inp 2) (.cons (.cst (.int .i64 1)) .nil)) (.done [] (some (.op (.bin .lss) (.cons (.inp 2) (.cons (.cst (.int .i64 1)) .nil)))))) h42_6 .skip) h42_5)
@[simp] theorem h42_7_wp {P : Program} {F : PF P} {Q : EX → List Value → World → Prop} {env : List Value} {w : World} : h42_7.wp F Q env w = HC.wp F (.seq (.br (.chk none (.bin .lss) (.cons (.inp 2) (.cons (.cst (.int .i64 1)) .nil)) (.done [] (some (.op (.bin .lss) (.cons (.inp 2) (.cons (.cst (.int .i64 1)) .nil)))))) h42_6 .skip) h42_5) Q env w := rfl
def h42_8 : HC := (.seq (.reg (.done [(3, (.cst (.int .i64 1)))] none)) .ret)
@[simp] theorem h42_8_wp {P : Program} {F : PF P} {Q : EX → List Value → World → Prop} {env : List Value} {w : World} : h42_8.wp F Q env w = HC.wp F (.seq (.reg (.done [(3, (.cst (.int .i64 1)))] none)) .ret) Q env w := rfl
def h42_9 : HC := (.seq (.br (.chk none (.eqNil false (.pointer 84) (.pointer none)) (.cons (.inp 0) .nil) (.done [] (some (.op (.eqNil false (.pointer 84) (.pointer none)) (.cons (.inp 0) .nil))))) h42_8 .skip) h42_7)
@[simp] theorem h42_9_wp {P : Program} {F : PF P} {Q : EX → List Value → World → Prop} {env : List Value} {w : World} : h42_9.wp F Q env w = HC.wp F (.seq (.br (.chk none (.eqNil false (.pointer 84) (.pointer none)) (.cons (.inp 0) .nil) (.done [] (some (.op (.eqNil false (.pointer 84) (.pointer none)) (.cons (.inp 0) .nil))))) h42_8 .skip) h42_7) Q env w := rfl
def l42 : Lifted := ⟨[0, 1, 2, 6, 7], 43, [.slot 3], (.seq (.reg (.done [(3, (.cst (.int .i64 0)))] none)) h42_9)⟩
theorem l42_ok : liftFn G2 42 400 = some l42 := by kernel_rfl

-- (*bazaar/bazaarref15.Goods).Free
def h43_0 : HC := (.seq (.reg (.done [(3, (.cst (.int .i64 0)))] none)) .ret)
@[simp] theorem h43_0_wp {P : Program} {F : PF P} {Q : EX → List Value → World → Prop} {env : List Value} {w : World} : h43_0.wp F Q env w = HC.wp F (.seq (.reg (.done [(3, (.cst (.int .i64 0)))] none)) .ret) Q env w := rfl
def h43_1 : HC := (.seq (.reg (.chk none .chkp (.cons (.inp 0) .nil) (.chk none (.fld 1) (.cons (.op .chkp (.cons (.inp 0) .nil)) .nil) (.eff (.ld false 1) (.cons (.op (.fld 1) (.cons (.op .chkp (.cons (.inp 0) .nil)) .nil)) .nil) (.chk none (.idxL 4) (.cons (.bv 0) (.cons (.inp 4) .nil)) (.chk none (.fld 3) (.cons (.op (.idxL 4) (.cons (.bv 0) (.cons (.inp 4) .nil))) .nil) (.eff (.st 1) (.cons (.op (.fld 3) (.cons (.op (.idxL 4) (.cons (.bv 0) (.cons (.inp 4) .nil))) .nil)) (.cons (.cst (.int .i64 0)) .nil)) (.done [] none)))))))) h43_0)
@[simp] theorem h43_1_wp {P : Program} {F : PF P} {Q : EX → List Value → World → Prop} {env : List Value} {w : World} : h43_1.wp F Q env w = HC.wp F (.seq (.reg (.chk none .chkp (.cons (.inp 0) .nil) (.chk none (.fld 1) (.cons (.op .chkp (.cons (.inp 0) .nil)) .nil) (.eff (.ld false 1) (.cons (.op (.fld 1) (.cons (.op .chkp (.cons (.inp 0) .nil)) .nil)) .nil) (.chk none (.idxL 4) (.cons (.bv 0) (.cons (.inp 4) .nil)) (.chk none (.fld 3) (.cons (.op (.idxL 4) (.cons (.bv 0) (.cons (.inp 4) .nil))) .nil) (.eff (.st 1) (.cons (.op (.fld 3) (.cons (.op (.idxL 4) (.cons (.bv 0) (.cons (.inp 4) .nil))) .nil)) (.cons (.cst (.int .i64 0)) .nil)) (.done [] none)))))))) h43_0) Q env w := rfl
def h43_2 : HC := (.seq (.reg (.chk none .chkp (.cons (.inp 0) .nil) (.chk none (.fld 1) (.cons (.op .chkp (.cons (.inp 0) .nil)) .nil) (.eff (.ld false 1) (.cons (.op (.fld 1) (.cons (.op .chkp (.cons (.inp 0) .nil)) .nil)) .nil) (.chk none (.idxL 4) (.cons (.bv 0) (.cons (.inp 4) .nil)) (.chk none (.fld 2) (.cons (.op (.idxL 4) (.cons (.bv 0) (.cons (.inp 4) .nil))) .nil) (.eff (.st 1) (.cons (.op (.fld 2) (.cons (.op (.idxL 4) (.cons (.bv 0) (.cons (.inp 4) .nil))) .nil)) (.cons (.inp 2) .nil)) (.done [] none)))))))) h43_1)
@[simp] theorem h43_2_wp {P : Program} {F : PF P} {Q : EX → List Value → World → Prop} {env : List Value} {w : World} : h43_2.wp F Q env w = HC.wp F (.seq (.reg (.chk none .chkp (.cons (.inp 0) .nil) (.chk none (.fld 1) (.cons (.op .chkp (.cons (.inp 0) .nil)) .nil) (.eff (.ld false 1) (.cons (.op (.fld 1) (.cons (.op .chkp (.cons (.inp 0) .nil)) .nil)) .nil) (.chk none (.idxL 4) (.cons (.bv 0) (.cons (.inp 4) .nil)) (.chk none (.fld 2) (.cons (.op (.idxL 4) (.cons (.bv 0) (.cons (.inp 4) .nil))) .nil) (.eff (.st 1) (.cons (.op (.fld 2) (.cons (.op (.idxL 4) (.cons (.bv 0) (.cons (.inp 4) .nil))) .nil)) (.cons (.inp 2) .nil)) (.done [] none)))))))) h43_1) Q env w := rfl
def h43_3 : HC := (.seq (.reg (.done [(3, (.cst (.int .i64 151)))] none)) .ret)
@[simp] theorem h43_3_wp {P : Program} {F : PF P} {Q : EX → List Value → World → Prop} {env : List Value} {w : World} : h43_3.wp F Q env w = HC.wp F (.seq (.reg (.done [(3, (.cst (.int .i64 151)))] none)) .ret) Q env w := rfl
def h43_4 : HC := (.seq (.br (.chk none (.bin .lss) (.cons (.inp 4) (.cons (.cst (.int .i64 0)) .nil)) (.bnd (.op (.bin .lss) (.cons (.inp 4) (.cons (.cst (.int .i64 0)) .nil))) (.chk (some ((.bv 0), false)) .chkp (.cons (.inp 0) .nil) (.chk (some ((.bv 0), false)) (.fld 1) (.cons (.op .chkp (.cons (.inp 0) .nil)) .nil) (.ite (.bv 0) false (.eff (.ld false 1) (.cons (.ite (.bv 0) false (.op (.fld 1) (.cons (.op .chkp (.cons (.inp 0) .nil)) .nil)) (.cst (.tuple #[]))) .nil) (.chk none (.idxL 4) (.cons (.bv 1) (.cons (.inp 4) .nil)) (.chk none (.fld 3) (.cons (.op (.idxL 4) (.cons (.bv 1) (.cons (.inp 4) .nil))) .nil) (.eff (.ld false 1) (.cons (.op (.fld 3) (.cons (.op (.idxL 4) (.cons (.bv 1) (.cons (.inp 4) .nil))) .nil)) .nil) (.chk none (.bin .eql) (.cons (.bv 2) (.cons (.cst (.int .i64 0)) .nil)) (.isb none (.bv 0) (.done [] (some (.op (.bin .eql) (.cons (.bv 2) (.cons (.cst (.int .i64 0)) .nil))))))))))) (.isb none (.bv 0) (.done [] (some (.cst (.bool true)))))))))) h43_3 .skip) h43_2)
@[simp] theorem h43_4_wp {P : Program} {F : PF P} {Q : EX → List Value → World → Prop} {env : List Value} {w : World} : h43_4.wp F Q env w = HC.wp F (.seq (.br (.chk none (.bin .lss) (.cons (.inp 4) (.cons (.cst (.int .i64 0)) .nil)) (.bnd (.op (.bin .lss) (.cons (.inp 4) (.cons (.cst (.int .i64 0)) .nil))) (.chk (some ((.bv 0), false)) .chkp (.cons (.inp 0) .nil) (.chk (some ((.bv 0), false)) (.fld 1) (.cons (.op .chkp (.cons (.inp 0) .nil)) .nil) (.ite (.bv 0) false (.eff (.ld false 1) (.cons (.ite (.bv 0) false (.op (.fld 1) (.cons (.op .chkp (.cons (.inp 0) .nil)) .nil)) (.cst (.tuple #[]))) .nil) (.chk none (.idxL 4) (.cons (.bv 1) (.cons (.inp 4) .nil)) (.chk none (.fld 3) (.cons (.op (.idxL 4) (.cons (.bv 1) (.cons (.inp 4) .nil))) .nil) (.eff (.ld false 1) (.cons (.op (.fld 3) (.cons (.op (.idxL 4) (.cons (.bv 1) (.cons (.inp 4) .nil))) .nil)) .nil) (.chk none (.bin .eql) (.cons (.bv 2) (.cons (.cst (.int .i64 0)) .nil)) (.isb none (.bv 0) (.done [] (some (.op (.bin .eql) (.cons (.bv 2) (.cons (.cst (.int .i64 0)) .nil))))))))))) (.isb none (.bv 0) (.done [] (some (.cst (.bool true)))))))))) h43_3 .skip) h43_2) Q env w := rfl
def h43_5 : HC := (.seq (.reg (.eff (.call 54) (.cons (.inp 0) (.cons (.inp 1) .nil)) (.done [(4, (.bv 0))] none))) h43_4)
@[simp] theorem h43_5_wp {P : Program} {F : PF P} {Q : EX → List Value → World → Prop} {env : List Value} {w : World} : h43_5.wp F Q env w = HC.wp F (.seq (.reg (.eff (.call 54) (.cons (.inp 0) (.cons (.inp 1) .nil)) (.done [(4, (.bv 0))] none))) h43_4) Q env w := rfl
def h43_6 : HC := (.seq (.reg (.done [(3, (.cst (.int .i64 2)))] none)) .ret)
@[simp] theorem h43_6_wp {P : Program} {F : PF P} {Q : EX → List Value → World → Prop} {env : List Value} {w : World} : h43_6.wp F Q env w = HC.wp F (.seq (.reg (.done [(3, (.cst (.int .i64 2)))] none)) .ret) Q env w := rfl
def h43_7 : HC := (.seq (.br (.chk none (.cal 53) (.cons (.inp 2) .nil) (.chk none (.un .not) (.cons (.op (.cal 53) (.cons (.inp 2) .nil)) .nil) (.done [] (some (.op (.un .not) (.cons (.op (.cal 53) (.cons (.inp 2) .nil)) .nil)))))) h43_6 .skip) h43_5)
@[simp] theorem h43_7_wp {P : Program} {F : PF P} {Q : EX → List Value → World → Prop} {env : List Value} {w : World} : h43_7.wp F Q env w = HC.wp F (.seq (.br (.chk none (.cal 53) (.cons (.inp 2) .nil) (.chk none (.un .not) (.cons (.op (.cal 53) (.cons (.inp 2) .nil)) .nil) (.done [] (some (.op (.un .not) (.cons (.op (.cal 53) (.cons (.inp 2) .nil)) .nil)))))) h43_6 .skip) h43_5) Q env w := rfl
def h43_8 : HC := (.seq (.reg (.done [(3, (.cst (.int .i64 1)))] none)) .ret)
@[simp] theorem h43_8_wp {P : Program} {F : PF P} {Q : EX → List Value → World → Prop} {env : List Value} {w : World} : h43_8.wp F Q env w = HC.wp F (.seq (.reg (.done [(3, (.cst (.int .i64 1)))] none)) .ret) Q env w := rfl
def h43_9 : HC := (.seq (.br (.chk none (.eqNil false (.pointer 84) (.pointer none)) (.cons (.inp 0) .nil) (.done [] (some (.op (.eqNil false (.pointer 84) (.pointer none)) (.cons (.inp 0) .nil))))) h43_8 .skip) h43_7)
@[simp] theorem h43_9_wp {P : Program} {F : PF P} {Q : EX → List Value → World → Prop} {env : List Value} {w : World} : h43_9.wp F Q env w = HC.wp F (.seq (.br (.chk none (.eqNil false (.pointer 84) (.pointer none)) (.cons (.inp 0) .nil) (.done [] (some (.op (.eqNil false (.pointer 84) (.pointer none)) (.cons (.inp 0) .nil))))) h43_8 .skip) h43_7) Q env w := rfl
def l43 : Lifted := ⟨[0, 1, 2, 6, 7], 44, [.slot 3], (.seq (.reg (.done [(3, (.cst (.int .i64 0)))] none)) h43_9)⟩
theorem l43_ok : liftFn G2 43 400 = some l43 := by kernel_rfl


theorem rNew_spec (lim : Int) (w0 w : World) (A : Asn) (s : St w0 A w) :
    CallW Try.prog 23 [.int .i64 lim] (fun r w' => if 0 ≤ lim ∧ lim ≤ 512 then ∃ p, r = .tuple #[.pointer (some ⟨p, 0, none⟩), .int .i64 0] ∧ St w0 (A * rgs p lim []) w' else r = .tuple #[.pointer none, .int .i64 2] ∧ St w0 A w') w := by
  refine callW_of_lift l23_ok (by simp [l23]) ?_
  simp [l23]
  refine cndI (fun h => ?_) (fun h => ?_)
  · simp at h
    have : ¬ (0 ≤ lim ∧ lim ≤ 512) := by omega
    simp [this]
    exact s
  · simp at h
    simp [h, Instr.fill, Value.cells]
    refine eff_box s ?_
    intro b w1 s1
    simp
    refine rclose (v := .slice none 0 0) ?_
    exact s1.own_nil _ _
theorem rLimit_spec (p : Nat) (lim : Int) (its : List It) (w0 w : World) (A : Asn) (s : St w0 (A * rgs p lim its) w) :
    CallW Try.prog 46 [.pointer (some ⟨p, 0, none⟩)] (fun r w' => r = .int .i64 lim ∧ St w0 (A * rgs p lim its) w') w := by
  refine callW_of_lift l46_ok (by simp [l46]) ?_
  simp [l46]
  obtain ⟨v, s1⟩ := ropen s
  refine eff_ldc (v := .int .i64 lim) (by rw [cell_of s1.swap.look]; rfl) ?_
  simp
  exact s
theorem rLimit_nil (w0 w : World) (A : Asn) (s : St w0 A w) : CallW Try.prog 46 [.pointer none] (fun r w' => r = .int .i64 0 ∧ St w0 A w') w := by
  refine callW_of_lift l46_ok (by simp [l46]) ?_
  simp [l46]
  exact s
def findF (its : List It) (item : Int) : Int := if 1 ≤ item ∧ item ≤ its.length then item - 1 else -1
theorem find_spec (p : Nat) (lim : Int) (its : List It) (item : Int) (w0 w : World) (A : Asn) (hwf : WF its) (hl : its.length ≤ 1048576) (s : St w0 (A * rgs p lim its) w) :
    CallW Try.prog 54 [.pointer (some ⟨p, 0, none⟩), .int .i64 item] (fun r w' => r = .int .i64 (findF its item) ∧ St w0 (A * rgs p lim its) w') w := by
  refine callW_of_lift l54_ok (by simp [l54]) ?_
  simp [l54]
  obtain ⟨v, s1⟩ := ropen s
  obtain ⟨a, cap, rfl, _⟩ := s1.own_val
  refine loopI (fun env w' => ∃ (i : Nat), env = [.pointer (some ⟨p, 0, none⟩), .int .i64 item, .int .i64 0, .int .i64 i] ∧ i ≤ its.length ∧ (∀ k, k < i → item ≠ (k : Int) + 1) ∧ w' = w)
    (fun env _ => its.length - slotN env 3) ⟨0, rfl, by omega, by omega, rfl⟩ ?_
  rintro LQ env w' ⟨i, rfl, hi, hk, rfl⟩ hN hE hR
  have hall : w'.cell? ⟨p, 1, none⟩ = some (.slice a its.length cap) := by rw [cell_of s1.swap.look]; rfl
  simp
  refine eff_ldc hall ?_
  simp
  refine cndI (fun h => ?_) (fun h => ?_)
  · simp at h
    obtain ⟨g, cap', hv, _, hc⟩ := s1.own_at (by omega)
    cases hv
    simp
    refine eff_ldc hall ?_
    simp [h]
    refine eff_ldc (v := .int .i64 ((i : Int) + 1)) (by rw [← hwf.num i h]; exact hc _ _ (flat_at h 0 _ rfl)) ?_
    simp
    refine cndI (fun h2 => ?_) (fun h2 => ?_)
    · simp at h2
      have e : findF its item = i := by unfold findF; rw [if_pos (by omega)]; omega
      simp
      refine hR _ _ ?_
      simp [e]
      exact s
    · simp at h2
      simp
      try simp (disch := omega) only [wrap64]
      refine hN _ _ ⟨i + 1, by simp, by omega, ?_, rfl⟩ (by simp [slotN]; omega)
      intro k hk'
      by_cases e : k = i
      · subst e; omega
      · exact hk k (by omega)
  · simp at h
    have e : findF its item = -1 := by
      unfold findF
      rw [if_neg]
      intro hh
      exact hk (item.toNat - 1) (by omega) (by omega)
    simp
    refine hE _ _ _ ?_
    simp [e]
    exact s
theorem find_at {its : List It} {item : Int} (h : 0 ≤ findF its item) : ∃ i : Nat, item = i + 1 ∧ i < its.length ∧ findF its item = i := by
  unfold findF at h ⊢
  split
  · exact ⟨item.toNat - 1, by omega, by omega, by omega⟩
  · rename_i hn; rw [if_neg hn] at h; omega
theorem put_at {its : List It} {i : Nat} (hi : i < its.length) (held : Bool) (acc con : Int) : putF its ((i : Int) + 1) held acc con = if decide (0 < its[i].con) = held then (0, its.set i ⟨its[i].num, its[i].kind, acc, con⟩) else (151, its) := by
  unfold putF
  rw [if_pos (by omega)]
  have : ((i : Int) + 1).toNat - 1 = i := by omega
  simp [this, hi]
theorem put_off {its : List It} {item : Int} (h : ¬ 0 ≤ findF its item) (held : Bool) (acc con : Int) : putF its item held acc con = (151, its) := by
  unfold putF
  rw [if_neg]
  intro hh
  unfold findF at h
  rw [if_pos hh] at h
  omega
theorem rMove_spec (p : Nat) (lim : Int) (its : List It) (item a : Int) (w0 w : World) (A : Asn) (hg : GI lim its) (s : St w0 (A * rgs p lim its) w) :
    CallW Try.prog 41 [.pointer (some ⟨p, 0, none⟩), .int .i64 item, .int .i64 a]
      (fun r w' => r = .int .i64 (moveF its item a).1 ∧ St w0 (A * rgs p lim (moveF its item a).2) w') w := by
  have hlen := hg.len
  have hlim := hg.lim
  refine callW_of_lift l41_ok (by simp [l41]) ?_
  simp [l41]
  refine cndI (fun h1 => ?_) (fun h1 => ?_)
  · simp at h1
    simp [moveF, h1]
    exact s
  simp at h1
  have hmv : moveF its item a = putF its item false a 0 := by unfold moveF; rw [if_pos h1]
  rw [hmv]
  simp
  refine eff_call ((find_spec p lim its item w0 w A hg.toWF (by omega) s).mono ?_)
  rintro r w1 ⟨rfl, s1⟩
  simp
  by_cases h2 : 0 ≤ findF its item
  · obtain ⟨i, rfl, hi, hf⟩ := find_at h2
    obtain ⟨v, s2⟩ := ropen s1
    obtain ⟨g, cap, rfl, _, hc⟩ := s2.own_at (by omega)
    have hall : w1.cell? ⟨p, 1, none⟩ = some (.slice (some ⟨g, 0, none⟩) its.length cap) := by rw [cell_of s2.swap.look]; rfl
    have hi2 : ¬ (i : Int) < 0 := by omega
    rw [hf]
    simp [hi2]
    refine eff_ldc hall ?_
    simp [hi]
    refine eff_ldc (v := .int .i64 its[i].con) (hc _ _ (flat_at hi 3 _ rfl)) ?_
    simp
    have hpl := hg.place its[i] (List.getElem_mem hi)
    refine cndI (fun h3 => ?_) (fun h3 => ?_)
    · simp at h3
      have : decide (0 < its[i].con) ≠ false := by simp; omega
      rw [put_at hi, if_neg this]
      simp
      exact s1
    · simp at h3
      have : decide (0 < its[i].con) = false := by simp; omega
      rw [put_at hi, if_pos this]
      simp
      refine eff_ldc hall ?_
      simp [hi]
      have hfl := flat_len its
      refine eff_stC s2 (by omega) rfl ?_
      intro w3 s3
      simp
      have e : (flat its).set (i * 4 + 2) (.int .i64 a) = flat (its.set i ⟨its[i].num, its[i].kind, a, 0⟩) := by
        rw [← flat_set2 hi a 0]
        apply List.ext_getElem?
        intro k
        by_cases hk : k = i * 4 + 3
        · subst hk
          rw [List.getElem?_set_self (by rw [List.length_set]; omega), List.getElem?_set_ne (by omega)]
          have := flat_at hi 3 (.int .i64 its[i].con) rfl
          rw [this, h3]
        · rw [List.getElem?_set_ne (i := i * 4 + 3) (by omega)]
      rw [e] at s3
      refine rclose (v := .slice (some ⟨g, 0, none⟩) its.length cap) ?_
      simpa using s3
  · rw [put_off h2]
    have : findF its item < 0 := by omega
    simp [this]
    exact s1
end Go.HL.Gd
