/-
  Goods: the law's own functions do and moved. Conditions: so many items at most.
-/
import Derived.Test.YtfcgookobpjdgaaGdE
namespace Go.HL.Gd
open Go.HL Go.Proofs
set_option maxRecDepth 4000
set_option linter.unusedSimpArgs false
set_option linter.unusedVariables false
-- bazaar/bazaarlaw15.moved
def h15_0 : HC := (.seq (.reg (.eff (.call 13) (.cons (.inp 1) (.cons (.inp 5) .nil)) (.done [(4, (.bv 0))] none))) .ret)
@[simp] theorem h15_0_wp {P : Program} {F : PF P} {Q : EX → List Value → World → Prop} {env : List Value} {w : World} : h15_0.wp F Q env w = HC.wp F (.seq (.reg (.eff (.call 13) (.cons (.inp 1) (.cons (.inp 5) .nil)) (.done [(4, (.bv 0))] none))) .ret) Q env w := rfl
def h15_1 : HC := (.reg (.chk none .lenL (.cons (.inp 0) .nil) (.chk none (.bin .add) (.cons (.op .lenL (.cons (.inp 0) .nil)) (.cons (.cst (.int .i64 1)) .nil)) (.chk none (.fld 1) (.cons (.inp 3) .nil) (.eff (.ld false 1) (.cons (.op (.fld 1) (.cons (.inp 3) .nil)) .nil) (.chk none (.fld 2) (.cons (.inp 3) .nil) (.eff (.ld false 1) (.cons (.op (.fld 2) (.cons (.inp 3) .nil)) .nil) (.chk none (.build #[(.int .i64 0), (.int .i64 0), (.int .i64 0), (.int .i64 0)] [(0, 1), (1, 1), (2, 1), (3, 1)] [0, 1, 2]) (.cons (.op (.bin .add) (.cons (.op .lenL (.cons (.inp 0) .nil)) (.cons (.cst (.int .i64 1)) .nil))) (.cons (.bv 0) (.cons (.bv 1) .nil))) (.eff (.bsl 44 1 4 #[(.int .i64 0), (.int .i64 0), (.int .i64 0), (.int .i64 0)] [0]) (.cons (.op (.build #[(.int .i64 0), (.int .i64 0), (.int .i64 0), (.int .i64 0)] [(0, 1), (1, 1), (2, 1), (3, 1)] [0, 1, 2]) (.cons (.op (.bin .add) (.cons (.op .lenL (.cons (.inp 0) .nil)) (.cons (.cst (.int .i64 1)) .nil))) (.cons (.bv 0) (.cons (.bv 1) .nil)))) .nil) (.eff (.app 30 30 44 4 32 (.agg #[(.int .i64 0), (.int .i64 0), (.int .i64 0), (.int .i64 0)])) (.cons (.inp 5) (.cons (.bv 2) .nil)) (.done [(5, (.bv 3))] none)))))))))))
@[simp] theorem h15_1_wp {P : Program} {F : PF P} {Q : EX → List Value → World → Prop} {env : List Value} {w : World} : h15_1.wp F Q env w = HC.wp F (.reg (.chk none .lenL (.cons (.inp 0) .nil) (.chk none (.bin .add) (.cons (.op .lenL (.cons (.inp 0) .nil)) (.cons (.cst (.int .i64 1)) .nil)) (.chk none (.fld 1) (.cons (.inp 3) .nil) (.eff (.ld false 1) (.cons (.op (.fld 1) (.cons (.inp 3) .nil)) .nil) (.chk none (.fld 2) (.cons (.inp 3) .nil) (.eff (.ld false 1) (.cons (.op (.fld 2) (.cons (.inp 3) .nil)) .nil) (.chk none (.build #[(.int .i64 0), (.int .i64 0), (.int .i64 0), (.int .i64 0)] [(0, 1), (1, 1), (2, 1), (3, 1)] [0, 1, 2]) (.cons (.op (.bin .add) (.cons (.op .lenL (.cons (.inp 0) .nil)) (.cons (.cst (.int .i64 1)) .nil))) (.cons (.bv 0) (.cons (.bv 1) .nil))) (.eff (.bsl 44 1 4 #[(.int .i64 0), (.int .i64 0), (.int .i64 0), (.int .i64 0)] [0]) (.cons (.op (.build #[(.int .i64 0), (.int .i64 0), (.int .i64 0), (.int .i64 0)] [(0, 1), (1, 1), (2, 1), (3, 1)] [0, 1, 2]) (.cons (.op (.bin .add) (.cons (.op .lenL (.cons (.inp 0) .nil)) (.cons (.cst (.int .i64 1)) .nil))) (.cons (.bv 0) (.cons (.bv 1) .nil)))) .nil) (.eff (.app 30 30 44 4 32 (.agg #[(.int .i64 0), (.int .i64 0), (.int .i64 0), (.int .i64 0)])) (.cons (.inp 5) (.cons (.bv 2) .nil)) (.done [(5, (.bv 3))] none))))))))))) Q env w := rfl
def h15_2 : HC := (.regq (some 2) (.chk none (.fld 2) (.cons (.inp 3) .nil) (.eff (.ld false 1) (.cons (.op (.fld 2) (.cons (.inp 3) .nil)) .nil) (.chk none .chkp (.cons (.inp 6) .nil) (.chk none (.fld 2) (.cons (.op .chkp (.cons (.inp 6) .nil)) .nil) (.eff (.st 1) (.cons (.op (.fld 2) (.cons (.op .chkp (.cons (.inp 6) .nil)) .nil)) (.cons (.cst (.int .i64 (-1))) .nil)) (.chk none .chkp (.cons (.inp 6) .nil) (.chk none (.fld 3) (.cons (.op .chkp (.cons (.inp 6) .nil)) .nil) (.eff (.st 1) (.cons (.op (.fld 3) (.cons (.op .chkp (.cons (.inp 6) .nil)) .nil)) (.cons (.bv 0) .nil)) (.done [] none))))))))))
@[simp] theorem h15_2_wp {P : Program} {F : PF P} {Q : EX → List Value → World → Prop} {env : List Value} {w : World} : h15_2.wp F Q env w = HC.wp F (.regq (some 2) (.chk none (.fld 2) (.cons (.inp 3) .nil) (.eff (.ld false 1) (.cons (.op (.fld 2) (.cons (.inp 3) .nil)) .nil) (.chk none .chkp (.cons (.inp 6) .nil) (.chk none (.fld 2) (.cons (.op .chkp (.cons (.inp 6) .nil)) .nil) (.eff (.st 1) (.cons (.op (.fld 2) (.cons (.op .chkp (.cons (.inp 6) .nil)) .nil)) (.cons (.cst (.int .i64 (-1))) .nil)) (.chk none .chkp (.cons (.inp 6) .nil) (.chk none (.fld 3) (.cons (.op .chkp (.cons (.inp 6) .nil)) .nil) (.eff (.st 1) (.cons (.op (.fld 3) (.cons (.op .chkp (.cons (.inp 6) .nil)) .nil)) (.cons (.bv 0) .nil)) (.done [] none)))))))))) Q env w := rfl
def h15_3 : HC := (.br (.chk none (.fld 0) (.cons (.inp 3) .nil) (.eff (.ld false 1) (.cons (.op (.fld 0) (.cons (.inp 3) .nil)) .nil) (.chk none (.bin .eql) (.cons (.bv 0) (.cons (.cst (.int .i64 3)) .nil)) (.done [] (some (.op (.bin .eql) (.cons (.bv 0) (.cons (.cst (.int .i64 3)) .nil)))))))) h15_2 .skip)
@[simp] theorem h15_3_wp {P : Program} {F : PF P} {Q : EX → List Value → World → Prop} {env : List Value} {w : World} : h15_3.wp F Q env w = HC.wp F (.br (.chk none (.fld 0) (.cons (.inp 3) .nil) (.eff (.ld false 1) (.cons (.op (.fld 0) (.cons (.inp 3) .nil)) .nil) (.chk none (.bin .eql) (.cons (.bv 0) (.cons (.cst (.int .i64 3)) .nil)) (.done [] (some (.op (.bin .eql) (.cons (.bv 0) (.cons (.cst (.int .i64 3)) .nil)))))))) h15_2 .skip) Q env w := rfl
def h15_4 : HC := (.seq (.reg (.chk none (.fld 2) (.cons (.inp 3) .nil) (.eff (.ld false 1) (.cons (.op (.fld 2) (.cons (.inp 3) .nil)) .nil) (.chk none .chkp (.cons (.inp 6) .nil) (.chk none (.fld 2) (.cons (.op .chkp (.cons (.inp 6) .nil)) .nil) (.eff (.st 1) (.cons (.op (.fld 2) (.cons (.op .chkp (.cons (.inp 6) .nil)) .nil)) (.cons (.bv 0) .nil)) (.chk none .chkp (.cons (.inp 6) .nil) (.chk none (.fld 3) (.cons (.op .chkp (.cons (.inp 6) .nil)) .nil) (.eff (.st 1) (.cons (.op (.fld 3) (.cons (.op .chkp (.cons (.inp 6) .nil)) .nil)) (.cons (.cst (.int .i64 0)) .nil)) (.done [] none)))))))))) h15_3)
@[simp] theorem h15_4_wp {P : Program} {F : PF P} {Q : EX → List Value → World → Prop} {env : List Value} {w : World} : h15_4.wp F Q env w = HC.wp F (.seq (.reg (.chk none (.fld 2) (.cons (.inp 3) .nil) (.eff (.ld false 1) (.cons (.op (.fld 2) (.cons (.inp 3) .nil)) .nil) (.chk none .chkp (.cons (.inp 6) .nil) (.chk none (.fld 2) (.cons (.op .chkp (.cons (.inp 6) .nil)) .nil) (.eff (.st 1) (.cons (.op (.fld 2) (.cons (.op .chkp (.cons (.inp 6) .nil)) .nil)) (.cons (.bv 0) .nil)) (.chk none .chkp (.cons (.inp 6) .nil) (.chk none (.fld 3) (.cons (.op .chkp (.cons (.inp 6) .nil)) .nil) (.eff (.st 1) (.cons (.op (.fld 3) (.cons (.op .chkp (.cons (.inp 6) .nil)) .nil)) (.cons (.cst (.int .i64 0)) .nil)) (.done [] none)))))))))) h15_3) Q env w := rfl
def h15_5 : HC := (.seq (.reg (.done [(4, (.cst (.bool false)))] none)) .ret)
@[simp] theorem h15_5_wp {P : Program} {F : PF P} {Q : EX → List Value → World → Prop} {env : List Value} {w : World} : h15_5.wp F Q env w = HC.wp F (.seq (.reg (.done [(4, (.cst (.bool false)))] none)) .ret) Q env w := rfl
def h15_6 : HC := (.seq (.brq (some 0) (.chk none .chkp (.cons (.inp 6) .nil) (.chk none (.fld 3) (.cons (.op .chkp (.cons (.inp 6) .nil)) .nil) (.eff (.ld false 1) (.cons (.op (.fld 3) (.cons (.op .chkp (.cons (.inp 6) .nil)) .nil)) .nil) (.chk none (.bin .neq) (.cons (.bv 0) (.cons (.cst (.int .i64 0)) .nil)) (.chk none (.fld 0) (.cons (.inp 3) .nil) (.eff (.ld false 1) (.cons (.op (.fld 0) (.cons (.inp 3) .nil)) .nil) (.chk none (.bin .eql) (.cons (.bv 1) (.cons (.cst (.int .i64 4)) .nil)) (.chk none (.eqB true) (.cons (.op (.bin .neq) (.cons (.bv 0) (.cons (.cst (.int .i64 0)) .nil))) (.cons (.op (.bin .eql) (.cons (.bv 1) (.cons (.cst (.int .i64 4)) .nil))) .nil)) (.done [] (some (.op (.eqB true) (.cons (.op (.bin .neq) (.cons (.bv 0) (.cons (.cst (.int .i64 0)) .nil))) (.cons (.op (.bin .eql) (.cons (.bv 1) (.cons (.cst (.int .i64 4)) .nil))) .nil))))))))))))) h15_5 .skip) h15_4)
@[simp] theorem h15_6_wp {P : Program} {F : PF P} {Q : EX → List Value → World → Prop} {env : List Value} {w : World} : h15_6.wp F Q env w = HC.wp F (.seq (.brq (some 0) (.chk none .chkp (.cons (.inp 6) .nil) (.chk none (.fld 3) (.cons (.op .chkp (.cons (.inp 6) .nil)) .nil) (.eff (.ld false 1) (.cons (.op (.fld 3) (.cons (.op .chkp (.cons (.inp 6) .nil)) .nil)) .nil) (.chk none (.bin .neq) (.cons (.bv 0) (.cons (.cst (.int .i64 0)) .nil)) (.chk none (.fld 0) (.cons (.inp 3) .nil) (.eff (.ld false 1) (.cons (.op (.fld 0) (.cons (.inp 3) .nil)) .nil) (.chk none (.bin .eql) (.cons (.bv 1) (.cons (.cst (.int .i64 4)) .nil)) (.chk none (.eqB true) (.cons (.op (.bin .neq) (.cons (.bv 0) (.cons (.cst (.int .i64 0)) .nil))) (.cons (.op (.bin .eql) (.cons (.bv 1) (.cons (.cst (.int .i64 4)) .nil))) .nil)) (.done [] (some (.op (.eqB true) (.cons (.op (.bin .neq) (.cons (.bv 0) (.cons (.cst (.int .i64 0)) .nil))) (.cons (.op (.bin .eql) (.cons (.bv 1) (.cons (.cst (.int .i64 4)) .nil))) .nil))))))))))))) h15_5 .skip) h15_4) Q env w := rfl
def h15_7 : HC := (.seq (.reg (.chk none (.fld 1) (.cons (.inp 3) .nil) (.eff (.ld false 1) (.cons (.op (.fld 1) (.cons (.inp 3) .nil)) .nil) (.chk none (.bin .sub) (.cons (.bv 0) (.cons (.cst (.int .i64 1)) .nil)) (.chk none (.idxL 4) (.cons (.inp 5) (.cons (.op (.bin .sub) (.cons (.bv 0) (.cons (.cst (.int .i64 1)) .nil))) .nil)) (.done [(6, (.op (.idxL 4) (.cons (.inp 5) (.cons (.op (.bin .sub) (.cons (.bv 0) (.cons (.cst (.int .i64 1)) .nil))) .nil))))] none)))))) h15_6)
@[simp] theorem h15_7_wp {P : Program} {F : PF P} {Q : EX → List Value → World → Prop} {env : List Value} {w : World} : h15_7.wp F Q env w = HC.wp F (.seq (.reg (.chk none (.fld 1) (.cons (.inp 3) .nil) (.eff (.ld false 1) (.cons (.op (.fld 1) (.cons (.inp 3) .nil)) .nil) (.chk none (.bin .sub) (.cons (.bv 0) (.cons (.cst (.int .i64 1)) .nil)) (.chk none (.idxL 4) (.cons (.inp 5) (.cons (.op (.bin .sub) (.cons (.bv 0) (.cons (.cst (.int .i64 1)) .nil))) .nil)) (.done [(6, (.op (.idxL 4) (.cons (.inp 5) (.cons (.op (.bin .sub) (.cons (.bv 0) (.cons (.cst (.int .i64 1)) .nil))) .nil))))] none)))))) h15_6) Q env w := rfl
def h15_8 : HC := (.seq (.reg (.done [(4, (.cst (.bool false)))] none)) .ret)
@[simp] theorem h15_8_wp {P : Program} {F : PF P} {Q : EX → List Value → World → Prop} {env : List Value} {w : World} : h15_8.wp F Q env w = HC.wp F (.seq (.reg (.done [(4, (.cst (.bool false)))] none)) .ret) Q env w := rfl
def h15_9 : HC := (.seq (.br (.chk none (.fld 1) (.cons (.inp 3) .nil) (.eff (.ld false 1) (.cons (.op (.fld 1) (.cons (.inp 3) .nil)) .nil) (.chk none (.bin .lss) (.cons (.bv 0) (.cons (.cst (.int .i64 1)) .nil)) (.bnd (.op (.bin .lss) (.cons (.bv 0) (.cons (.cst (.int .i64 1)) .nil))) (.chk (some ((.bv 1), false)) (.fld 1) (.cons (.inp 3) .nil) (.ite (.bv 1) false (.eff (.ld false 1) (.cons (.ite (.bv 1) false (.op (.fld 1) (.cons (.inp 3) .nil)) (.cst (.tuple #[]))) .nil) (.chk none .lenL (.cons (.inp 0) .nil) (.chk none (.bin .gtr) (.cons (.bv 2) (.cons (.op .lenL (.cons (.inp 0) .nil)) .nil)) (.isb none (.bv 1) (.done [] (some (.op (.bin .gtr) (.cons (.bv 2) (.cons (.op .lenL (.cons (.inp 0) .nil)) .nil))))))))) (.isb none (.bv 1) (.done [] (some (.cst (.bool true))))))))))) h15_8 .skip) h15_7)
@[simp] theorem h15_9_wp {P : Program} {F : PF P} {Q : EX → List Value → World → Prop} {env : List Value} {w : World} : h15_9.wp F Q env w = HC.wp F (.seq (.br (.chk none (.fld 1) (.cons (.inp 3) .nil) (.eff (.ld false 1) (.cons (.op (.fld 1) (.cons (.inp 3) .nil)) .nil) (.chk none (.bin .lss) (.cons (.bv 0) (.cons (.cst (.int .i64 1)) .nil)) (.bnd (.op (.bin .lss) (.cons (.bv 0) (.cons (.cst (.int .i64 1)) .nil))) (.chk (some ((.bv 1), false)) (.fld 1) (.cons (.inp 3) .nil) (.ite (.bv 1) false (.eff (.ld false 1) (.cons (.ite (.bv 1) false (.op (.fld 1) (.cons (.inp 3) .nil)) (.cst (.tuple #[]))) .nil) (.chk none .lenL (.cons (.inp 0) .nil) (.chk none (.bin .gtr) (.cons (.bv 2) (.cons (.op .lenL (.cons (.inp 0) .nil)) .nil)) (.isb none (.bv 1) (.done [] (some (.op (.bin .gtr) (.cons (.bv 2) (.cons (.op .lenL (.cons (.inp 0) .nil)) .nil))))))))) (.isb none (.bv 1) (.done [] (some (.cst (.bool true))))))))))) h15_8 .skip) h15_7) Q env w := rfl
def h15_10 : HC := (.cnd 8 h15_9 .skip)
@[simp] theorem h15_10_wp {P : Program} {F : PF P} {Q : EX → List Value → World → Prop} {env : List Value} {w : World} : h15_10.wp F Q env w = HC.wp F (.cnd 8 h15_9 .skip) Q env w := rfl
def h15_11 : HC := (.reg (.chk none (.bin .eql) (.cons (.inp 7) (.cons (.cst (.int .i64 4)) .nil)) (.done [(8, (.op (.bin .eql) (.cons (.inp 7) (.cons (.cst (.int .i64 4)) .nil))))] none)))
@[simp] theorem h15_11_wp {P : Program} {F : PF P} {Q : EX → List Value → World → Prop} {env : List Value} {w : World} : h15_11.wp F Q env w = HC.wp F (.reg (.chk none (.bin .eql) (.cons (.inp 7) (.cons (.cst (.int .i64 4)) .nil)) (.done [(8, (.op (.bin .eql) (.cons (.inp 7) (.cons (.cst (.int .i64 4)) .nil))))] none))) Q env w := rfl
def h15_12 : HC := (.cnd 8 .skip h15_11)
@[simp] theorem h15_12_wp {P : Program} {F : PF P} {Q : EX → List Value → World → Prop} {env : List Value} {w : World} : h15_12.wp F Q env w = HC.wp F (.cnd 8 .skip h15_11) Q env w := rfl
def h15_13 : HC := (.seq (.reg (.chk none (.bin .eql) (.cons (.inp 7) (.cons (.cst (.int .i64 3)) .nil)) (.done [(8, (.op (.bin .eql) (.cons (.inp 7) (.cons (.cst (.int .i64 3)) .nil))))] none))) h15_12)
@[simp] theorem h15_13_wp {P : Program} {F : PF P} {Q : EX → List Value → World → Prop} {env : List Value} {w : World} : h15_13.wp F Q env w = HC.wp F (.seq (.reg (.chk none (.bin .eql) (.cons (.inp 7) (.cons (.cst (.int .i64 3)) .nil)) (.done [(8, (.op (.bin .eql) (.cons (.inp 7) (.cons (.cst (.int .i64 3)) .nil))))] none))) h15_12) Q env w := rfl
def h15_14 : HC := (.seq (.cnd 8 .skip h15_13) h15_10)
@[simp] theorem h15_14_wp {P : Program} {F : PF P} {Q : EX → List Value → World → Prop} {env : List Value} {w : World} : h15_14.wp F Q env w = HC.wp F (.seq (.cnd 8 .skip h15_13) h15_10) Q env w := rfl
def h15_15 : HC := (.seq (.reg (.chk none (.bin .eql) (.cons (.inp 7) (.cons (.cst (.int .i64 2)) .nil)) (.done [(8, (.op (.bin .eql) (.cons (.inp 7) (.cons (.cst (.int .i64 2)) .nil))))] none))) h15_14)
@[simp] theorem h15_15_wp {P : Program} {F : PF P} {Q : EX → List Value → World → Prop} {env : List Value} {w : World} : h15_15.wp F Q env w = HC.wp F (.seq (.reg (.chk none (.bin .eql) (.cons (.inp 7) (.cons (.cst (.int .i64 2)) .nil)) (.done [(8, (.op (.bin .eql) (.cons (.inp 7) (.cons (.cst (.int .i64 2)) .nil))))] none))) h15_14) Q env w := rfl
def h15_16 : HC := (.br (.chk none (.bin .eql) (.cons (.inp 7) (.cons (.cst (.int .i64 1)) .nil)) (.done [] (some (.op (.bin .eql) (.cons (.inp 7) (.cons (.cst (.int .i64 1)) .nil)))))) h15_1 h15_15)
@[simp] theorem h15_16_wp {P : Program} {F : PF P} {Q : EX → List Value → World → Prop} {env : List Value} {w : World} : h15_16.wp F Q env w = HC.wp F (.br (.chk none (.bin .eql) (.cons (.inp 7) (.cons (.cst (.int .i64 1)) .nil)) (.done [] (some (.op (.bin .eql) (.cons (.inp 7) (.cons (.cst (.int .i64 1)) .nil)))))) h15_1 h15_15) Q env w := rfl
def h15_17 : HC := (.seq (.block 0 h15_16) h15_0)
@[simp] theorem h15_17_wp {P : Program} {F : PF P} {Q : EX → List Value → World → Prop} {env : List Value} {w : World} : h15_17.wp F Q env w = HC.wp F (.seq (.block 0 h15_16) h15_0) Q env w := rfl
def h15_18 : HC := (.seq (.reg (.chk none (.fld 0) (.cons (.inp 3) .nil) (.eff (.ld false 1) (.cons (.op (.fld 0) (.cons (.inp 3) .nil)) .nil) (.done [(7, (.bv 0))] none)))) h15_17)
@[simp] theorem h15_18_wp {P : Program} {F : PF P} {Q : EX → List Value → World → Prop} {env : List Value} {w : World} : h15_18.wp F Q env w = HC.wp F (.seq (.reg (.chk none (.fld 0) (.cons (.inp 3) .nil) (.eff (.ld false 1) (.cons (.op (.fld 0) (.cons (.inp 3) .nil)) .nil) (.done [(7, (.bv 0))] none)))) h15_17) Q env w := rfl
def h15_19 : HC := (.seq (.reg (.eff (.bsl 44 0 4 #[] []) .nil (.eff (.app 30 30 44 4 32 (.agg #[(.int .i64 0), (.int .i64 0), (.int .i64 0), (.int .i64 0)])) (.cons (.bv 0) (.cons (.inp 0) .nil)) (.done [(5, (.bv 1))] none)))) h15_18)
@[simp] theorem h15_19_wp {P : Program} {F : PF P} {Q : EX → List Value → World → Prop} {env : List Value} {w : World} : h15_19.wp F Q env w = HC.wp F (.seq (.reg (.eff (.bsl 44 0 4 #[] []) .nil (.eff (.app 30 30 44 4 32 (.agg #[(.int .i64 0), (.int .i64 0), (.int .i64 0), (.int .i64 0)])) (.cons (.bv 0) (.cons (.inp 0) .nil)) (.done [(5, (.bv 1))] none)))) h15_18) Q env w := rfl
def l15 : Lifted := ⟨[0, 1, 2, 5, 6, 7, 8, 13, 27], 77, [.slot 4], (.seq (.reg (.eff (.box 34) (.cons (.inp 2) .nil) (.done [(3, (.bv 0)), (4, (.cst (.bool false)))] none))) h15_19)⟩
theorem l15_ok : liftFn G1 15 400 = some l15 := by kernel_rfl


theorem flat_one (l : List It) : ∀ u ∈ flat l, u.oneCell' = true := by
  intro u hu
  obtain ⟨x, _, hx⟩ := List.mem_flatMap.1 hu
  exact cs_one x u hx
/-- an act -/
structure Ac where
  kind : Int
  a : Int
  b : Int
def Ac.cs (x : Ac) : List Value := [.int .i64 x.kind, .int .i64 x.a, .int .i64 x.b]
def actF (lim : Int) (its : List It) (x : Ac) : Int × List It :=
  if x.kind = 1 then (makeF lim its x.a x.b).2 else if x.kind = 2 then moveF its x.a x.b else if x.kind = 3 then holdF its x.a x.b else if x.kind = 4 then freeF its x.a x.b else (0, its)
theorem do_spec (p : Nat) (lim : Int) (its : List It) (x : Ac) (w0 w : World) (A : Asn) (hl : its.length ≤ 1048576) (hlim : lim ≤ 512) (s : St w0 (A * gds p lim its) w) :
    CallW Try.prog 12 [.pointer (some ⟨p, 0, none⟩), .agg x.cs.toArray]
      (fun r w' => r = .int .i64 (actF lim its x).1 ∧ St w0 (A * gds p lim (actF lim its x).2) w') w := by
  refine callW_of_lift l12_ok (by simp [l12]) ?_
  simp [l12]
  refine eff_box s ?_
  intro b w1 s1
  simp
  have h0 : w1.cell? ⟨b, 0, none⟩ = some (.int .i64 x.kind) := by rw [cell_of s1.look]; rfl
  have h1 : w1.cell? ⟨b, 1, none⟩ = some (.int .i64 x.a) := by rw [cell_of s1.look]; rfl
  have h2 : w1.cell? ⟨b, 2, none⟩ = some (.int .i64 x.b) := by rw [cell_of s1.look]; rfl
  refine eff_ldc h0 ?_
  simp
  refine cndI (fun e1 => ?_) (fun e1 => ?_)
  · simp at e1
    simp
    refine eff_ldc h1 ?_
    simp
    refine eff_ldc h2 ?_
    simp
    refine eff_call ((Make_spec p lim its x.a x.b w0 w1 _ hlim s1.swap).mono ?_)
    rintro r w2 ⟨rfl, s2⟩
    simp [actF, e1]
    exact s2.swap.drop
  simp at e1
  simp
  refine cndI (fun e2 => ?_) (fun e2 => ?_)
  · simp at e2
    simp
    refine eff_ldc h1 ?_
    simp
    refine eff_ldc h2 ?_
    simp
    refine eff_call ((Move_spec p lim its x.a x.b w0 w1 _ hl s1.swap).mono ?_)
    rintro r w2 ⟨rfl, s2⟩
    simp [actF, e1, e2]
    exact s2.swap.drop
  simp at e2
  simp
  refine cndI (fun e3 => ?_) (fun e3 => ?_)
  · simp at e3
    simp
    refine eff_ldc h1 ?_
    simp
    refine eff_ldc h2 ?_
    simp
    refine eff_call ((Hold_spec p lim its x.a x.b w0 w1 _ hl s1.swap).mono ?_)
    rintro r w2 ⟨rfl, s2⟩
    simp [actF, e1, e2, e3]
    exact s2.swap.drop
  simp at e3
  simp
  refine cndI (fun e4 => ?_) (fun e4 => ?_)
  · simp at e4
    simp
    refine eff_ldc h1 ?_
    simp
    refine eff_ldc h2 ?_
    simp
    refine eff_call ((Free_spec p lim its x.a x.b w0 w1 _ hl s1.swap).mono ?_)
    rintro r w2 ⟨rfl, s2⟩
    simp [actF, e1, e2, e3, e4]
    exact s2.swap.drop
  simp at e4
  simp [actF, e1, e2, e3, e4]
  exact s1.drop
/-- what a list is behind an act -/
def wantF (was : List It) (x : Ac) : Option (List It) :=
  if x.kind = 1 then some (was ++ [⟨was.length + 1, x.a, x.b, 0⟩])
  else if x.kind = 2 ∨ x.kind = 3 ∨ x.kind = 4 then
    if 1 ≤ x.a ∧ x.a ≤ was.length then
      if decide ((was.getD (x.a.toNat - 1) ⟨0, 0, 0, 0⟩).con ≠ 0) = decide (x.kind = 4) then
        some (was.set (x.a.toNat - 1) ⟨(was.getD (x.a.toNat - 1) ⟨0, 0, 0, 0⟩).num, (was.getD (x.a.toNat - 1) ⟨0, 0, 0, 0⟩).kind, if x.kind = 3 then -1 else x.b, if x.kind = 3 then x.b else 0⟩)
      else none
    else none
  else some was
def movedF (was now : List It) (x : Ac) : Bool := match wantF was x with
  | some l => now == l
  | none => false
theorem sep_ac4 (A B C D : Asn) : A * B * C * D = A * C * D * B := by ac_rfl
theorem moved_spec (was now : List It) (x : Ac) (v1 v2 : Value) (w0 w : World) (A : Asn) (hl : was.length ≤ 1048576) (hn : now.length ≤ 1048576) (h1 : Row w0 A v1 was.length 4 (flat was)) (h2 : Row w0 A v2 now.length 4 (flat now)) (s : St w0 A w) :
    CallW Try.prog 15 [v1, v2, .agg x.cs.toArray] (fun r w' => r = .bool (movedF was now x) ∧ St w0 A w') w := by
  obtain ⟨a1, c1, rfl⟩ := h1.val
  obtain ⟨a2, c2, rfl⟩ := h2.val
  refine callW_of_lift l15_ok (by simp [l15]) ?_
  simp [l15]
  refine eff_box s ?_
  intro b w1 s1
  simp
  refine eff_bsl0 s1 ?_
  intro v w2 s2
  simp
  have k1 : Row w0 (A * pt b (.cells x.cs.toArray 34 (0, 0)) * own 44 4 v 0 []) (.slice a1 was.length c1) was.length 4 (flat was) := h1.mono fun w s => s.drop.drop
  refine eff_appR s2 k1 (flat_one _) (by decide) rfl (by unfold maxLen; omega) (by omega) ?_
  intro v' w3 s3
  simp
  have s4 : St w0 (A * own 44 4 v' was.length (flat was) * pt b (.cells x.cs.toArray 34 (0, 0))) w3 := by simpa using s3.swap
  have g0 : w3.cell? ⟨b, 0, none⟩ = some (.int .i64 x.kind) := by rw [cell_of s4.look]; rfl
  have g1 : w3.cell? ⟨b, 1, none⟩ = some (.int .i64 x.a) := by rw [cell_of s4.look]; rfl
  have g2 : w3.cell? ⟨b, 2, none⟩ = some (.int .i64 x.b) := by rw [cell_of s4.look]; rfl
  refine eff_ldc g0 ?_
  simp
  refine cndI (fun e1 => ?_) (fun e1 => ?_)
  · simp at e1
    simp
    refine eff_ldc g1 ?_
    simp
    refine eff_ldc g2 ?_
    have hw : IntKind.i64.wrap (was.length + 1) = was.length + 1 := wrap64 (by omega) (by omega)
    simp [hw, Instr.fill, Value.cells]
    refine eff_bslV s4 rfl ?_
    intro c w4 s5
    simp
    have s6 := s5.to (B := A * pt b (.cells x.cs.toArray 34 (0, 0)) * pt c (.cells (It.cs ⟨was.length + 1, x.a, x.b, 0⟩).toArray 44 (0, 0)) * own 44 4 v' was.length (flat was)) (by simp only [cells_agg]; exact sep_ac4 _ _ _ _)
    refine eff_app (m := 1) (news := It.cs ⟨was.length + 1, x.a, x.b, 0⟩) s6 rfl s6.swap.cells_look (cs_one _) (by decide) rfl (by unfold maxLen; omega) (by omega) ?_
    intro v2' w5 s7
    simp
    have e : flat was ++ It.cs ⟨was.length + 1, x.a, x.b, 0⟩ = flat (was ++ [⟨was.length + 1, x.a, x.b, 0⟩]) := by simp [flat]
    rw [e] at s7
    have hlen : was.length + 1 = (was ++ [(⟨was.length + 1, x.a, x.b, 0⟩ : It)]).length := by simp
    rw [hlen] at s7
    have hm : movedF was now x = (now == was ++ [⟨was.length + 1, x.a, x.b, 0⟩]) := by simp [movedF, wantF, e1]
    refine eff_call ((items_spec now (was ++ [⟨was.length + 1, x.a, x.b, 0⟩]) (.slice a2 now.length c2) v2' w0 w5 _ hn (h2.mono fun w s => s.drop.drop.drop) (row_own s7) s7).mono ?_)
    rintro r w6 ⟨rfl, s8⟩
    simp [hm]
    exact s8.drop.drop.drop
  simp at e1
  simp
  have key : (x.kind = 2 ∨ x.kind = 3 ∨ x.kind = 4) → HC.wp G1 h15_10
      (blockQ 0 (seqQ G1 h15_0 (endQ Try.prog [RV.slot 4] fun r w' => r = Value.bool (movedF was now x) ∧ St w0 A w')))
      [.slice a1 was.length c1, .slice a2 now.length c2, .agg x.cs.toArray, .pointer (some ⟨b, 0, none⟩), .bool false, v', undef, .int .i64 x.kind, .bool true] w3 := by
    intro hk
    simp
    refine eff_ldc g1 ?_
    by_cases n1 : x.a < 1
    · have hm : movedF was now x = false := by
        have : ¬ (1 ≤ x.a ∧ x.a ≤ was.length) := by omega
        simp [movedF, wantF, e1, hk, this]
      simp [n1, hm]
      exact s4.drop.drop
    simp [n1]
    refine eff_ldc g1 ?_
    by_cases n2 : was.length < x.a
    · have hm : movedF was now x = false := by
        have : ¬ (1 ≤ x.a ∧ x.a ≤ was.length) := by omega
        simp [movedF, wantF, e1, hk, this]
      simp [n2, hm]
      exact s4.drop.drop
    simp [n2]
    refine eff_ldc g1 ?_
    obtain ⟨i, hxa⟩ : ∃ i : Nat, x.a = i + 1 := ⟨x.a.toNat - 1, by omega⟩
    have hi : i < was.length := by omega
    obtain ⟨g, cap, rfl, _, hc⟩ := s4.swap.own_at (by omega)
    have hw : IntKind.i64.wrap (i : Int) = i := wrap64 (by omega) (by omega)
    rw [hxa]
    simp [hw, hi]
    obtain ⟨g', o', cap', hv, hcR⟩ := (row_own s4.swap).at (by omega)
    cases hv
    refine brqI s4 ?_
    simp
    refine effq_ldc (v := .int .i64 was[i].con) (fun w s => by have := hcR w s.swap _ _ (flat_at hi 3 _ rfl); rw [Nat.zero_add] at this; exact this) ?_
    simp
    refine effq_ldc (v := .int .i64 x.kind) (fun w s => by rw [cell_of s.look]; rfl) ?_
    simp
    intro w5 s5
    have hx1 : 1 ≤ x.a ∧ x.a ≤ was.length := by omega
    have hti : x.a.toNat - 1 = i := by omega
    have hwant : wantF was x = if decide (was[i].con ≠ 0) = decide (x.kind = 4) then some (was.set i ⟨was[i].num, was[i].kind, if x.kind = 3 then -1 else x.b, if x.kind = 3 then x.b else 0⟩) else none := by
      unfold wantF
      have hgd : was.getD i ⟨0, 0, 0, 0⟩ = was[i] := by simp [hi]
      rw [if_neg e1, if_pos hk, if_pos hx1, hti, hgd]
    refine cndI (fun n3 => ?_) (fun n3 => ?_)
    · have n3' : ¬ decide (was[i].con ≠ 0) = decide (x.kind = 4) := by
        by_cases a : was[i].con = 0 <;> by_cases b : x.kind = 4 <;> simp [a, b] at n3 ⊢
      have hm : movedF was now x = false := by
        unfold movedF
        rw [hwant, if_neg n3']
      simp [hm]
      exact s5.drop.drop
    have n3' : decide (was[i].con ≠ 0) = decide (x.kind = 4) := by
      by_cases a : was[i].con = 0 <;> by_cases b : x.kind = 4 <;> simp [a, b] at n3 ⊢
    have hm : movedF was now x = (now == was.set i ⟨was[i].num, was[i].kind, if x.kind = 3 then -1 else x.b, if x.kind = 3 then x.b else 0⟩) := by
      unfold movedF
      rw [hwant, if_pos n3']
    have hfl := flat_len was
    have f2 : w5.cell? ⟨b, 2, none⟩ = some (.int .i64 x.b) := by rw [cell_of s5.look]; rfl
    simp
    refine eff_ldc f2 ?_
    simp
    refine eff_stC s5.swap (by omega) rfl ?_
    intro w6 s6
    simp
    refine eff_stC s6 (by rw [List.length_set]; omega) rfl ?_
    intro w7 s7
    rw [flat_set2 hi] at s7
    have q0 : w7.cell? ⟨b, 0, none⟩ = some (.int .i64 x.kind) := by rw [cell_of s7.swap.look]; rfl
    have q2 : w7.cell? ⟨b, 2, none⟩ = some (.int .i64 x.b) := by rw [cell_of s7.swap.look]; rfl
    simp
    refine eff_ldc q0 ?_
    simp
    refine cndI (fun n4 => ?_) (fun n4 => ?_)
    · simp at n4
      simp
      refine regmI (fun vs w => match vs with
        | [] => St w0 (A * pt b (.cells x.cs.toArray 34 (0, 0)) * own 44 4 (.slice (some ⟨g, 0, none⟩) was.length cap) was.length (flat (was.set i ⟨was[i].num, was[i].kind, x.b, 0⟩))) w
        | [_] => St w0 (A * pt b (.cells x.cs.toArray 34 (0, 0)) * own 44 4 (.slice (some ⟨g, 0, none⟩) was.length cap) was.length ((flat (was.set i ⟨was[i].num, was[i].kind, x.b, 0⟩)).set (i * 4 + 2) (.int .i64 (-1)))) w
        | _ => St w0 (A * pt b (.cells x.cs.toArray 34 (0, 0)) * own 44 4 (.slice (some ⟨g, 0, none⟩) was.length cap) was.length (((flat (was.set i ⟨was[i].num, was[i].kind, x.b, 0⟩)).set (i * 4 + 2) (.int .i64 (-1))).set (i * 4 + 3) (.int .i64 x.b))) w) s7.drew ?_
      simp
      refine effm_ldc (v := .int .i64 x.b) (fun vs' w _ hw => ?_) ?_
      · match vs', hw with
        | [], hw => rw [cell_of (St.swap hw).look]; rfl
        | [_], hw => rw [cell_of (St.swap hw).look]; rfl
        | _ :: _ :: _, hw => rw [cell_of (St.swap hw).look]; rfl
      have hfl2 := flat_len (was.set i ⟨was[i].num, was[i].kind, x.b, 0⟩)
      rw [List.length_set] at hfl2
      simp
      refine effm_mv rfl (fun w hw => eff_stC hw (by omega) rfl fun w' h => h) (fun v _ => ?_)
      simp
      refine effm_mv rfl (fun w hw => eff_stC hw (by rw [List.length_set]; omega) rfl fun w' h => h) (fun v _ => ?_)
      simp
      intro w8 s8
      have hi' : i < (was.set i ⟨was[i].num, was[i].kind, x.b, 0⟩).length := by rw [List.length_set]; exact hi
      rw [flat_set2 hi'] at s8
      have e9 : (was.set i ⟨was[i].num, was[i].kind, x.b, 0⟩).set i ⟨((was.set i ⟨was[i].num, was[i].kind, x.b, 0⟩)[i]).num, ((was.set i ⟨was[i].num, was[i].kind, x.b, 0⟩)[i]).kind, -1, x.b⟩ = was.set i ⟨was[i].num, was[i].kind, -1, x.b⟩ := by simp
      rw [e9] at s8
      refine eff_call ((items_spec now (was.set i ⟨was[i].num, was[i].kind, -1, x.b⟩) (.slice a2 now.length c2) _ w0 w8 _ hn (h2.mono fun w s => s.drop.drop) (by have := row_own s8; simpa using this) s8).mono ?_)
      rintro r w9 ⟨rfl, s9⟩
      simp [hm, n4]
      exact s9.drop.drop
    · simp at n4
      simp
      refine eff_call ((items_spec now (was.set i ⟨was[i].num, was[i].kind, x.b, 0⟩) (.slice a2 now.length c2) _ w0 w7 _ hn (h2.mono fun w s => s.drop.drop) (by have := row_own s7; simpa using this) s7).mono ?_)
      rintro r w8 ⟨rfl, s8⟩
      simp [hm, n4]
      exact s8.drop.drop
  refine cndI (fun e2 => ?_) (fun e2 => ?_)
  · simp at e2
    simp
    have := key (by omega)
    simp at this
    simpa [e2] using this
  simp at e2
  simp
  refine cndI (fun e3 => ?_) (fun e3 => ?_)
  · simp at e3
    simp
    have := key (by omega)
    simp at this
    simpa [e3] using this
  simp at e3
  simp
  refine cndI (fun e4 => ?_) (fun e4 => ?_)
  · simp at e4
    have := key (by omega)
    simp at this
    simpa [e4] using this
  simp at e4
  simp
  have hm : movedF was now x = (now == was) := by simp [movedF, wantF, e1, e2, e3, e4]
  refine eff_call ((items_spec now was (.slice a2 now.length c2) v' w0 w3 _ hn (h2.mono fun w s => s.drop.drop) (row_own s4.swap) s4.swap).mono ?_)
  rintro r w6 ⟨rfl, s8⟩
  simp [hm]
  exact s8.drop.drop
end Go.HL.Gd
