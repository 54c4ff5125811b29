/-
  Purse: steps of a purse alone; all coins. Conditions: coins within bounds.
-/
import Derived.Test.YtliofpihaemglaaPuG
namespace Go.HL.Pu
open Go.HL Go.HL.Nm Go.Proofs
set_option maxRecDepth 4000
set_option linter.unusedSimpArgs false
set_option linter.unusedVariables false
/-- a step -/
structure Sp where
  who : Int
  kind : Int
  a : Int
  b : Int
  coins : Int
  name : List UInt8
def Sp.cs (x : Sp) : List Value := [.int .i64 x.who, .int .i64 x.kind, .int .i64 x.a, .int .i64 x.b, .int .u64 x.coins, .string (HL.mk x.name)]
def Sp.ok (x : Sp) : Prop := (0 ≤ x.coins ∧ x.coins < 18446744073709551616) ∧ x.name.length ≤ 1048576
theorem sp_one (x : Sp) : ∀ u ∈ x.cs, u.oneCell' = true := by
  intro u hu
  simp only [Sp.cs, List.mem_cons, List.not_mem_nil, or_false] at hu
  rcases hu with rfl | rfl | rfl | rfl | rfl | rfl <;> rfl
def doesF (P : Ps) (o : Sp) : Int × Ps :=
  if o.kind = 1 then ((openF P o.name).2.1, (openF P o.name).2.2)
  else if o.kind = 2 then mintF P o.a o.coins
  else if o.kind = 3 then payF P o.a o.b o.coins
  else if o.kind = 4 then takeF P o.a o.coins
  else if o.kind = 5 then putF P o.a o.coins
  else if o.kind = 6 then ((getF P o.a).2, P)
  else (0, P)
-- bazaar/bazaarlaw14.does
def h40_0 : HC := (.seq (.reg (.chk none (.cal 10) (.cons (.inp 4) .nil) (.done [(3, (.op (.cal 10) (.cons (.inp 4) .nil)))] none))) .ret)
@[simp] theorem h40_0_wp {P : Program} {F : PF P} {Q : EX → List Value → World → Prop} {env : List Value} {w : World} : h40_0.wp F Q env w = HC.wp F (.seq (.reg (.chk none (.cal 10) (.cons (.inp 4) .nil) (.done [(3, (.op (.cal 10) (.cons (.inp 4) .nil)))] none))) .ret) Q env w := rfl
def h40_1 : HC := (.reg (.chk none (.fld 5) (.cons (.inp 2) .nil) (.eff (.ld false 1) (.cons (.op (.fld 5) (.cons (.inp 2) .nil)) .nil) (.eff (.call 13) (.cons (.inp 0) (.cons (.bv 0) .nil)) (.chk none (.ext 0) (.cons (.bv 1) .nil) (.chk none (.ext 1) (.cons (.bv 1) .nil) (.done [(4, (.op (.ext 1) (.cons (.bv 1) .nil)))] none)))))))
@[simp] theorem h40_1_wp {P : Program} {F : PF P} {Q : EX → List Value → World → Prop} {env : List Value} {w : World} : h40_1.wp F Q env w = HC.wp F (.reg (.chk none (.fld 5) (.cons (.inp 2) .nil) (.eff (.ld false 1) (.cons (.op (.fld 5) (.cons (.inp 2) .nil)) .nil) (.eff (.call 13) (.cons (.inp 0) (.cons (.bv 0) .nil)) (.chk none (.ext 0) (.cons (.bv 1) .nil) (.chk none (.ext 1) (.cons (.bv 1) .nil) (.done [(4, (.op (.ext 1) (.cons (.bv 1) .nil)))] none))))))) Q env w := rfl
def h40_2 : HC := (.reg (.chk none (.fld 2) (.cons (.inp 2) .nil) (.eff (.ld false 1) (.cons (.op (.fld 2) (.cons (.inp 2) .nil)) .nil) (.chk none (.fld 4) (.cons (.inp 2) .nil) (.eff (.ld false 1) (.cons (.op (.fld 4) (.cons (.inp 2) .nil)) .nil) (.eff (.call 62) (.cons (.inp 0) (.cons (.bv 0) (.cons (.bv 1) .nil))) (.done [(4, (.bv 2))] none)))))))
@[simp] theorem h40_2_wp {P : Program} {F : PF P} {Q : EX → List Value → World → Prop} {env : List Value} {w : World} : h40_2.wp F Q env w = HC.wp F (.reg (.chk none (.fld 2) (.cons (.inp 2) .nil) (.eff (.ld false 1) (.cons (.op (.fld 2) (.cons (.inp 2) .nil)) .nil) (.chk none (.fld 4) (.cons (.inp 2) .nil) (.eff (.ld false 1) (.cons (.op (.fld 4) (.cons (.inp 2) .nil)) .nil) (.eff (.call 62) (.cons (.inp 0) (.cons (.bv 0) (.cons (.bv 1) .nil))) (.done [(4, (.bv 2))] none))))))) Q env w := rfl
def h40_3 : HC := (.reg (.chk none (.fld 2) (.cons (.inp 2) .nil) (.eff (.ld false 1) (.cons (.op (.fld 2) (.cons (.inp 2) .nil)) .nil) (.chk none (.fld 3) (.cons (.inp 2) .nil) (.eff (.ld false 1) (.cons (.op (.fld 3) (.cons (.inp 2) .nil)) .nil) (.chk none (.fld 4) (.cons (.inp 2) .nil) (.eff (.ld false 1) (.cons (.op (.fld 4) (.cons (.inp 2) .nil)) .nil) (.eff (.call 64) (.cons (.inp 0) (.cons (.bv 0) (.cons (.bv 1) (.cons (.bv 2) .nil)))) (.done [(4, (.bv 3))] none)))))))))
@[simp] theorem h40_3_wp {P : Program} {F : PF P} {Q : EX → List Value → World → Prop} {env : List Value} {w : World} : h40_3.wp F Q env w = HC.wp F (.reg (.chk none (.fld 2) (.cons (.inp 2) .nil) (.eff (.ld false 1) (.cons (.op (.fld 2) (.cons (.inp 2) .nil)) .nil) (.chk none (.fld 3) (.cons (.inp 2) .nil) (.eff (.ld false 1) (.cons (.op (.fld 3) (.cons (.inp 2) .nil)) .nil) (.chk none (.fld 4) (.cons (.inp 2) .nil) (.eff (.ld false 1) (.cons (.op (.fld 4) (.cons (.inp 2) .nil)) .nil) (.eff (.call 64) (.cons (.inp 0) (.cons (.bv 0) (.cons (.bv 1) (.cons (.bv 2) .nil)))) (.done [(4, (.bv 3))] none))))))))) Q env w := rfl
def h40_4 : HC := (.reg (.chk none (.fld 2) (.cons (.inp 2) .nil) (.eff (.ld false 1) (.cons (.op (.fld 2) (.cons (.inp 2) .nil)) .nil) (.chk none (.fld 4) (.cons (.inp 2) .nil) (.eff (.ld false 1) (.cons (.op (.fld 4) (.cons (.inp 2) .nil)) .nil) (.eff (.call 34) (.cons (.inp 0) (.cons (.bv 0) (.cons (.bv 1) .nil))) (.done [(4, (.bv 2))] none)))))))
@[simp] theorem h40_4_wp {P : Program} {F : PF P} {Q : EX → List Value → World → Prop} {env : List Value} {w : World} : h40_4.wp F Q env w = HC.wp F (.reg (.chk none (.fld 2) (.cons (.inp 2) .nil) (.eff (.ld false 1) (.cons (.op (.fld 2) (.cons (.inp 2) .nil)) .nil) (.chk none (.fld 4) (.cons (.inp 2) .nil) (.eff (.ld false 1) (.cons (.op (.fld 4) (.cons (.inp 2) .nil)) .nil) (.eff (.call 34) (.cons (.inp 0) (.cons (.bv 0) (.cons (.bv 1) .nil))) (.done [(4, (.bv 2))] none))))))) Q env w := rfl
def h40_5 : HC := (.reg (.chk none (.fld 2) (.cons (.inp 2) .nil) (.eff (.ld false 1) (.cons (.op (.fld 2) (.cons (.inp 2) .nil)) .nil) (.chk none (.fld 4) (.cons (.inp 2) .nil) (.eff (.ld false 1) (.cons (.op (.fld 4) (.cons (.inp 2) .nil)) .nil) (.eff (.call 35) (.cons (.inp 0) (.cons (.bv 0) (.cons (.bv 1) .nil))) (.done [(4, (.bv 2))] none)))))))
@[simp] theorem h40_5_wp {P : Program} {F : PF P} {Q : EX → List Value → World → Prop} {env : List Value} {w : World} : h40_5.wp F Q env w = HC.wp F (.reg (.chk none (.fld 2) (.cons (.inp 2) .nil) (.eff (.ld false 1) (.cons (.op (.fld 2) (.cons (.inp 2) .nil)) .nil) (.chk none (.fld 4) (.cons (.inp 2) .nil) (.eff (.ld false 1) (.cons (.op (.fld 4) (.cons (.inp 2) .nil)) .nil) (.eff (.call 35) (.cons (.inp 0) (.cons (.bv 0) (.cons (.bv 1) .nil))) (.done [(4, (.bv 2))] none))))))) Q env w := rfl
def h40_6 : HC := (.reg (.chk none (.fld 2) (.cons (.inp 2) .nil) (.eff (.ld false 1) (.cons (.op (.fld 2) (.cons (.inp 2) .nil)) .nil) (.eff (.call 36) (.cons (.inp 0) (.cons (.bv 0) .nil)) (.chk none (.ext 0) (.cons (.bv 1) .nil) (.chk none (.ext 1) (.cons (.bv 1) .nil) (.done [(4, (.op (.ext 1) (.cons (.bv 1) .nil)))] none)))))))
@[simp] theorem h40_6_wp {P : Program} {F : PF P} {Q : EX → List Value → World → Prop} {env : List Value} {w : World} : h40_6.wp F Q env w = HC.wp F (.reg (.chk none (.fld 2) (.cons (.inp 2) .nil) (.eff (.ld false 1) (.cons (.op (.fld 2) (.cons (.inp 2) .nil)) .nil) (.eff (.call 36) (.cons (.inp 0) (.cons (.bv 0) .nil)) (.chk none (.ext 0) (.cons (.bv 1) .nil) (.chk none (.ext 1) (.cons (.bv 1) .nil) (.done [(4, (.op (.ext 1) (.cons (.bv 1) .nil)))] none))))))) Q env w := rfl
def h40_7 : HC := (.reg (.chk none (.fld 5) (.cons (.inp 2) .nil) (.eff (.ld false 1) (.cons (.op (.fld 5) (.cons (.inp 2) .nil)) .nil) (.eff (.call 16) (.cons (.inp 0) (.cons (.bv 0) .nil)) (.done [] none)))))
@[simp] theorem h40_7_wp {P : Program} {F : PF P} {Q : EX → List Value → World → Prop} {env : List Value} {w : World} : h40_7.wp F Q env w = HC.wp F (.reg (.chk none (.fld 5) (.cons (.inp 2) .nil) (.eff (.ld false 1) (.cons (.op (.fld 5) (.cons (.inp 2) .nil)) .nil) (.eff (.call 16) (.cons (.inp 0) (.cons (.bv 0) .nil)) (.done [] none))))) Q env w := rfl
def h40_8 : HC := (.seq (.reg (.chk none (.fld 5) (.cons (.inp 2) .nil) (.eff (.ld false 1) (.cons (.op (.fld 5) (.cons (.inp 2) .nil)) .nil) (.eff (.call 14) (.cons (.inp 0) (.cons (.bv 0) .nil)) (.done [] none))))) h40_7)
@[simp] theorem h40_8_wp {P : Program} {F : PF P} {Q : EX → List Value → World → Prop} {env : List Value} {w : World} : h40_8.wp F Q env w = HC.wp F (.seq (.reg (.chk none (.fld 5) (.cons (.inp 2) .nil) (.eff (.ld false 1) (.cons (.op (.fld 5) (.cons (.inp 2) .nil)) .nil) (.eff (.call 14) (.cons (.inp 0) (.cons (.bv 0) .nil)) (.done [] none))))) h40_7) Q env w := rfl
def h40_9 : HC := (.reg (.eff (.call 26) (.cons (.inp 0) .nil) (.done [] none)))
@[simp] theorem h40_9_wp {P : Program} {F : PF P} {Q : EX → List Value → World → Prop} {env : List Value} {w : World} : h40_9.wp F Q env w = HC.wp F (.reg (.eff (.call 26) (.cons (.inp 0) .nil) (.done [] none))) Q env w := rfl
def h40_10 : HC := (.br (.chk none (.bin .eql) (.cons (.inp 5) (.cons (.cst (.int .i64 8)) .nil)) (.done [] (some (.op (.bin .eql) (.cons (.inp 5) (.cons (.cst (.int .i64 8)) .nil)))))) h40_9 .skip)
@[simp] theorem h40_10_wp {P : Program} {F : PF P} {Q : EX → List Value → World → Prop} {env : List Value} {w : World} : h40_10.wp F Q env w = HC.wp F (.br (.chk none (.bin .eql) (.cons (.inp 5) (.cons (.cst (.int .i64 8)) .nil)) (.done [] (some (.op (.bin .eql) (.cons (.inp 5) (.cons (.cst (.int .i64 8)) .nil)))))) h40_9 .skip) Q env w := rfl
def h40_11 : HC := (.br (.chk none (.bin .eql) (.cons (.inp 5) (.cons (.cst (.int .i64 7)) .nil)) (.done [] (some (.op (.bin .eql) (.cons (.inp 5) (.cons (.cst (.int .i64 7)) .nil)))))) h40_8 h40_10)
@[simp] theorem h40_11_wp {P : Program} {F : PF P} {Q : EX → List Value → World → Prop} {env : List Value} {w : World} : h40_11.wp F Q env w = HC.wp F (.br (.chk none (.bin .eql) (.cons (.inp 5) (.cons (.cst (.int .i64 7)) .nil)) (.done [] (some (.op (.bin .eql) (.cons (.inp 5) (.cons (.cst (.int .i64 7)) .nil)))))) h40_8 h40_10) Q env w := rfl
def h40_12 : HC := (.br (.chk none (.bin .eql) (.cons (.inp 5) (.cons (.cst (.int .i64 6)) .nil)) (.done [] (some (.op (.bin .eql) (.cons (.inp 5) (.cons (.cst (.int .i64 6)) .nil)))))) h40_6 h40_11)
@[simp] theorem h40_12_wp {P : Program} {F : PF P} {Q : EX → List Value → World → Prop} {env : List Value} {w : World} : h40_12.wp F Q env w = HC.wp F (.br (.chk none (.bin .eql) (.cons (.inp 5) (.cons (.cst (.int .i64 6)) .nil)) (.done [] (some (.op (.bin .eql) (.cons (.inp 5) (.cons (.cst (.int .i64 6)) .nil)))))) h40_6 h40_11) Q env w := rfl
def h40_13 : HC := (.br (.chk none (.bin .eql) (.cons (.inp 5) (.cons (.cst (.int .i64 5)) .nil)) (.done [] (some (.op (.bin .eql) (.cons (.inp 5) (.cons (.cst (.int .i64 5)) .nil)))))) h40_5 h40_12)
@[simp] theorem h40_13_wp {P : Program} {F : PF P} {Q : EX → List Value → World → Prop} {env : List Value} {w : World} : h40_13.wp F Q env w = HC.wp F (.br (.chk none (.bin .eql) (.cons (.inp 5) (.cons (.cst (.int .i64 5)) .nil)) (.done [] (some (.op (.bin .eql) (.cons (.inp 5) (.cons (.cst (.int .i64 5)) .nil)))))) h40_5 h40_12) Q env w := rfl
def h40_14 : HC := (.br (.chk none (.bin .eql) (.cons (.inp 5) (.cons (.cst (.int .i64 4)) .nil)) (.done [] (some (.op (.bin .eql) (.cons (.inp 5) (.cons (.cst (.int .i64 4)) .nil)))))) h40_4 h40_13)
@[simp] theorem h40_14_wp {P : Program} {F : PF P} {Q : EX → List Value → World → Prop} {env : List Value} {w : World} : h40_14.wp F Q env w = HC.wp F (.br (.chk none (.bin .eql) (.cons (.inp 5) (.cons (.cst (.int .i64 4)) .nil)) (.done [] (some (.op (.bin .eql) (.cons (.inp 5) (.cons (.cst (.int .i64 4)) .nil)))))) h40_4 h40_13) Q env w := rfl
def h40_15 : HC := (.br (.chk none (.bin .eql) (.cons (.inp 5) (.cons (.cst (.int .i64 3)) .nil)) (.done [] (some (.op (.bin .eql) (.cons (.inp 5) (.cons (.cst (.int .i64 3)) .nil)))))) h40_3 h40_14)
@[simp] theorem h40_15_wp {P : Program} {F : PF P} {Q : EX → List Value → World → Prop} {env : List Value} {w : World} : h40_15.wp F Q env w = HC.wp F (.br (.chk none (.bin .eql) (.cons (.inp 5) (.cons (.cst (.int .i64 3)) .nil)) (.done [] (some (.op (.bin .eql) (.cons (.inp 5) (.cons (.cst (.int .i64 3)) .nil)))))) h40_3 h40_14) Q env w := rfl
def h40_16 : HC := (.br (.chk none (.bin .eql) (.cons (.inp 5) (.cons (.cst (.int .i64 2)) .nil)) (.done [] (some (.op (.bin .eql) (.cons (.inp 5) (.cons (.cst (.int .i64 2)) .nil)))))) h40_2 h40_15)
@[simp] theorem h40_16_wp {P : Program} {F : PF P} {Q : EX → List Value → World → Prop} {env : List Value} {w : World} : h40_16.wp F Q env w = HC.wp F (.br (.chk none (.bin .eql) (.cons (.inp 5) (.cons (.cst (.int .i64 2)) .nil)) (.done [] (some (.op (.bin .eql) (.cons (.inp 5) (.cons (.cst (.int .i64 2)) .nil)))))) h40_2 h40_15) Q env w := rfl
def h40_17 : HC := (.br (.chk none (.bin .eql) (.cons (.inp 5) (.cons (.cst (.int .i64 1)) .nil)) (.done [] (some (.op (.bin .eql) (.cons (.inp 5) (.cons (.cst (.int .i64 1)) .nil)))))) h40_1 h40_16)
@[simp] theorem h40_17_wp {P : Program} {F : PF P} {Q : EX → List Value → World → Prop} {env : List Value} {w : World} : h40_17.wp F Q env w = HC.wp F (.br (.chk none (.bin .eql) (.cons (.inp 5) (.cons (.cst (.int .i64 1)) .nil)) (.done [] (some (.op (.bin .eql) (.cons (.inp 5) (.cons (.cst (.int .i64 1)) .nil)))))) h40_1 h40_16) Q env w := rfl
def h40_18 : HC := (.seq (.block 0 h40_17) h40_0)
@[simp] theorem h40_18_wp {P : Program} {F : PF P} {Q : EX → List Value → World → Prop} {env : List Value} {w : World} : h40_18.wp F Q env w = HC.wp F (.seq (.block 0 h40_17) h40_0) Q env w := rfl
def h40_19 : HC := (.seq (.reg (.chk none (.fld 1) (.cons (.inp 2) .nil) (.eff (.ld false 1) (.cons (.op (.fld 1) (.cons (.inp 2) .nil)) .nil) (.done [(5, (.bv 0))] none)))) h40_18)
@[simp] theorem h40_19_wp {P : Program} {F : PF P} {Q : EX → List Value → World → Prop} {env : List Value} {w : World} : h40_19.wp F Q env w = HC.wp F (.seq (.reg (.chk none (.fld 1) (.cons (.inp 2) .nil) (.eff (.ld false 1) (.cons (.op (.fld 1) (.cons (.inp 2) .nil)) .nil) (.done [(5, (.bv 0))] none)))) h40_18) Q env w := rfl
def h40_20 : HC := (.seq (.reg (.done [(4, (.cst (.int .i64 0)))] none)) h40_19)
@[simp] theorem h40_20_wp {P : Program} {F : PF P} {Q : EX → List Value → World → Prop} {env : List Value} {w : World} : h40_20.wp F Q env w = HC.wp F (.seq (.reg (.done [(4, (.cst (.int .i64 0)))] none)) h40_19) Q env w := rfl
def l40 : Lifted := ⟨[0, 1, 3, 4, 5, 7], 76, [.slot 3], (.seq (.reg (.eff (.box 53) (.cons (.inp 1) .nil) (.done [(2, (.bv 0)), (3, (.cst (.int .i64 0)))] none))) h40_20)⟩
theorem l40_ok : liftFn U1 40 400 = some l40 := by kernel_rfl

-- bazaar/bazaarlaw14.all
def h41_0 : HC := (.seq (.reg (.done [(1, (.inp 3))] none)) .ret)
@[simp] theorem h41_0_wp {P : Program} {F : PF P} {Q : EX → List Value → World → Prop} {env : List Value} {w : World} : h41_0.wp F Q env w = HC.wp F (.seq (.reg (.done [(1, (.inp 3))] none)) .ret) Q env w := rfl
def h41_1 : HC := (.reg (.chk none (.bin .add) (.cons (.inp 4) (.cons (.cst (.int .i64 1)) .nil)) (.done [(4, (.op (.bin .add) (.cons (.inp 4) (.cons (.cst (.int .i64 1)) .nil))))] none)))
@[simp] theorem h41_1_wp {P : Program} {F : PF P} {Q : EX → List Value → World → Prop} {env : List Value} {w : World} : h41_1.wp F Q env w = HC.wp F (.reg (.chk none (.bin .add) (.cons (.inp 4) (.cons (.cst (.int .i64 1)) .nil)) (.done [(4, (.op (.bin .add) (.cons (.inp 4) (.cons (.cst (.int .i64 1)) .nil))))] none))) Q env w := rfl
def h41_2 : HC := (.reg (.chk none (.idxL 2) (.cons (.inp 2) (.cons (.inp 4) .nil)) (.chk none (.fld 1) (.cons (.op (.idxL 2) (.cons (.inp 2) (.cons (.inp 4) .nil))) .nil) (.eff (.ld false 1) (.cons (.op (.fld 1) (.cons (.op (.idxL 2) (.cons (.inp 2) (.cons (.inp 4) .nil))) .nil)) .nil) (.chk none (.bin .add) (.cons (.inp 3) (.cons (.bv 0) .nil)) (.done [(3, (.op (.bin .add) (.cons (.inp 3) (.cons (.bv 0) .nil))))] none))))))
@[simp] theorem h41_2_wp {P : Program} {F : PF P} {Q : EX → List Value → World → Prop} {env : List Value} {w : World} : h41_2.wp F Q env w = HC.wp F (.reg (.chk none (.idxL 2) (.cons (.inp 2) (.cons (.inp 4) .nil)) (.chk none (.fld 1) (.cons (.op (.idxL 2) (.cons (.inp 2) (.cons (.inp 4) .nil))) .nil) (.eff (.ld false 1) (.cons (.op (.fld 1) (.cons (.op (.idxL 2) (.cons (.inp 2) (.cons (.inp 4) .nil))) .nil)) .nil) (.chk none (.bin .add) (.cons (.inp 3) (.cons (.bv 0) .nil)) (.done [(3, (.op (.bin .add) (.cons (.inp 3) (.cons (.bv 0) .nil))))] none)))))) Q env w := rfl
def h41_3 : HC := (.seq (.block 1 h41_2) h41_1)
@[simp] theorem h41_3_wp {P : Program} {F : PF P} {Q : EX → List Value → World → Prop} {env : List Value} {w : World} : h41_3.wp F Q env w = HC.wp F (.seq (.block 1 h41_2) h41_1) Q env w := rfl
def h41_4 : HC := (.seq (.br (.chk none .lenL (.cons (.inp 2) .nil) (.chk none (.bin .lss) (.cons (.inp 4) (.cons (.op .lenL (.cons (.inp 2) .nil)) .nil)) (.done [] (some (.op (.bin .lss) (.cons (.inp 4) (.cons (.op .lenL (.cons (.inp 2) .nil)) .nil))))))) .skip (.exit 0)) h41_3)
@[simp] theorem h41_4_wp {P : Program} {F : PF P} {Q : EX → List Value → World → Prop} {env : List Value} {w : World} : h41_4.wp F Q env w = HC.wp F (.seq (.br (.chk none .lenL (.cons (.inp 2) .nil) (.chk none (.bin .lss) (.cons (.inp 4) (.cons (.op .lenL (.cons (.inp 2) .nil)) .nil)) (.done [] (some (.op (.bin .lss) (.cons (.inp 4) (.cons (.op .lenL (.cons (.inp 2) .nil)) .nil))))))) .skip (.exit 0)) h41_3) Q env w := rfl
def h41_5 : HC := (.loop h41_4)
@[simp] theorem h41_5_wp {P : Program} {F : PF P} {Q : EX → List Value → World → Prop} {env : List Value} {w : World} : h41_5.wp F Q env w = HC.wp F (.loop h41_4) Q env w := rfl
def h41_6 : HC := (.seq (.block 0 h41_5) h41_0)
@[simp] theorem h41_6_wp {P : Program} {F : PF P} {Q : EX → List Value → World → Prop} {env : List Value} {w : World} : h41_6.wp F Q env w = HC.wp F (.seq (.block 0 h41_5) h41_0) Q env w := rfl
def h41_7 : HC := (.seq (.reg (.done [(4, (.cst (.int .i64 0)))] none)) h41_6)
@[simp] theorem h41_7_wp {P : Program} {F : PF P} {Q : EX → List Value → World → Prop} {env : List Value} {w : World} : h41_7.wp F Q env w = HC.wp F (.seq (.reg (.done [(4, (.cst (.int .i64 0)))] none)) h41_6) Q env w := rfl
def h41_8 : HC := (.seq (.reg (.eff (.call 37) (.cons (.inp 0) .nil) (.done [(3, (.bv 0))] none))) h41_7)
@[simp] theorem h41_8_wp {P : Program} {F : PF P} {Q : EX → List Value → World → Prop} {env : List Value} {w : World} : h41_8.wp F Q env w = HC.wp F (.seq (.reg (.eff (.call 37) (.cons (.inp 0) .nil) (.done [(3, (.bv 0))] none))) h41_7) Q env w := rfl
def h41_9 : HC := (.seq (.reg (.eff (.call 29) (.cons (.inp 0) .nil) (.done [(2, (.bv 0))] none))) h41_8)
@[simp] theorem h41_9_wp {P : Program} {F : PF P} {Q : EX → List Value → World → Prop} {env : List Value} {w : World} : h41_9.wp F Q env w = HC.wp F (.seq (.reg (.eff (.call 29) (.cons (.inp 0) .nil) (.done [(2, (.bv 0))] none))) h41_8) Q env w := rfl
def l41 : Lifted := ⟨[0, 2, 3, 4, 5], 24, [.slot 1], (.seq (.reg (.done [(1, (.cst (.int .u64 0)))] none)) h41_9)⟩
theorem l41_ok : liftFn U1 41 400 = some l41 := by kernel_rfl

-- bazaar/bazaarlaw14.moved
def h42_0 : HC := (.seq (.reg (.done [(3, (.inp 6)), (4, (.inp 7)), (5, (.inp 8))] none)) .ret)
@[simp] theorem h42_0_wp {P : Program} {F : PF P} {Q : EX → List Value → World → Prop} {env : List Value} {w : World} : h42_0.wp F Q env w = HC.wp F (.seq (.reg (.done [(3, (.inp 6)), (4, (.inp 7)), (5, (.inp 8))] none)) .ret) Q env w := rfl
def h42_1 : HC := (.reg (.chk none (.fld 4) (.cons (.inp 2) .nil) (.eff (.ld false 1) (.cons (.op (.fld 4) (.cons (.inp 2) .nil)) .nil) (.done [(6, (.bv 0))] none))))
@[simp] theorem h42_1_wp {P : Program} {F : PF P} {Q : EX → List Value → World → Prop} {env : List Value} {w : World} : h42_1.wp F Q env w = HC.wp F (.reg (.chk none (.fld 4) (.cons (.inp 2) .nil) (.eff (.ld false 1) (.cons (.op (.fld 4) (.cons (.inp 2) .nil)) .nil) (.done [(6, (.bv 0))] none)))) Q env w := rfl
def h42_2 : HC := (.br (.chk none (.fld 2) (.cons (.inp 2) .nil) (.eff (.ld false 1) (.cons (.op (.fld 2) (.cons (.inp 2) .nil)) .nil) (.chk none (.bin .eql) (.cons (.inp 1) (.cons (.bv 0) .nil)) (.done [] (some (.op (.bin .eql) (.cons (.inp 1) (.cons (.bv 0) .nil)))))))) h42_1 .skip)
@[simp] theorem h42_2_wp {P : Program} {F : PF P} {Q : EX → List Value → World → Prop} {env : List Value} {w : World} : h42_2.wp F Q env w = HC.wp F (.br (.chk none (.fld 2) (.cons (.inp 2) .nil) (.eff (.ld false 1) (.cons (.op (.fld 2) (.cons (.inp 2) .nil)) .nil) (.chk none (.bin .eql) (.cons (.inp 1) (.cons (.bv 0) .nil)) (.done [] (some (.op (.bin .eql) (.cons (.inp 1) (.cons (.bv 0) .nil)))))))) h42_1 .skip) Q env w := rfl
def h42_3 : HC := (.seq (.reg (.chk none (.fld 4) (.cons (.inp 2) .nil) (.eff (.ld false 1) (.cons (.op (.fld 4) (.cons (.inp 2) .nil)) .nil) (.done [(8, (.bv 0))] none)))) h42_2)
@[simp] theorem h42_3_wp {P : Program} {F : PF P} {Q : EX → List Value → World → Prop} {env : List Value} {w : World} : h42_3.wp F Q env w = HC.wp F (.seq (.reg (.chk none (.fld 4) (.cons (.inp 2) .nil) (.eff (.ld false 1) (.cons (.op (.fld 4) (.cons (.inp 2) .nil)) .nil) (.done [(8, (.bv 0))] none)))) h42_2) Q env w := rfl
def h42_4 : HC := (.reg (.chk none (.fld 4) (.cons (.inp 2) .nil) (.eff (.ld false 1) (.cons (.op (.fld 4) (.cons (.inp 2) .nil)) .nil) (.chk none (.bin .add) (.cons (.inp 6) (.cons (.bv 0) .nil)) (.done [(6, (.op (.bin .add) (.cons (.inp 6) (.cons (.bv 0) .nil))))] none)))))
@[simp] theorem h42_4_wp {P : Program} {F : PF P} {Q : EX → List Value → World → Prop} {env : List Value} {w : World} : h42_4.wp F Q env w = HC.wp F (.reg (.chk none (.fld 4) (.cons (.inp 2) .nil) (.eff (.ld false 1) (.cons (.op (.fld 4) (.cons (.inp 2) .nil)) .nil) (.chk none (.bin .add) (.cons (.inp 6) (.cons (.bv 0) .nil)) (.done [(6, (.op (.bin .add) (.cons (.inp 6) (.cons (.bv 0) .nil))))] none))))) Q env w := rfl
def h42_5 : HC := (.br (.chk none (.fld 3) (.cons (.inp 2) .nil) (.eff (.ld false 1) (.cons (.op (.fld 3) (.cons (.inp 2) .nil)) .nil) (.chk none (.bin .eql) (.cons (.inp 1) (.cons (.bv 0) .nil)) (.done [] (some (.op (.bin .eql) (.cons (.inp 1) (.cons (.bv 0) .nil)))))))) h42_4 .skip)
@[simp] theorem h42_5_wp {P : Program} {F : PF P} {Q : EX → List Value → World → Prop} {env : List Value} {w : World} : h42_5.wp F Q env w = HC.wp F (.br (.chk none (.fld 3) (.cons (.inp 2) .nil) (.eff (.ld false 1) (.cons (.op (.fld 3) (.cons (.inp 2) .nil)) .nil) (.chk none (.bin .eql) (.cons (.inp 1) (.cons (.bv 0) .nil)) (.done [] (some (.op (.bin .eql) (.cons (.inp 1) (.cons (.bv 0) .nil)))))))) h42_4 .skip) Q env w := rfl
def h42_6 : HC := (.reg (.chk none (.fld 4) (.cons (.inp 2) .nil) (.eff (.ld false 1) (.cons (.op (.fld 4) (.cons (.inp 2) .nil)) .nil) (.chk none (.bin .sub) (.cons (.inp 6) (.cons (.bv 0) .nil)) (.done [(6, (.op (.bin .sub) (.cons (.inp 6) (.cons (.bv 0) .nil))))] none)))))
@[simp] theorem h42_6_wp {P : Program} {F : PF P} {Q : EX → List Value → World → Prop} {env : List Value} {w : World} : h42_6.wp F Q env w = HC.wp F (.reg (.chk none (.fld 4) (.cons (.inp 2) .nil) (.eff (.ld false 1) (.cons (.op (.fld 4) (.cons (.inp 2) .nil)) .nil) (.chk none (.bin .sub) (.cons (.inp 6) (.cons (.bv 0) .nil)) (.done [(6, (.op (.bin .sub) (.cons (.inp 6) (.cons (.bv 0) .nil))))] none))))) Q env w := rfl
def h42_7 : HC := (.seq (.br (.chk none (.fld 2) (.cons (.inp 2) .nil) (.eff (.ld false 1) (.cons (.op (.fld 2) (.cons (.inp 2) .nil)) .nil) (.chk none (.bin .eql) (.cons (.inp 1) (.cons (.bv 0) .nil)) (.done [] (some (.op (.bin .eql) (.cons (.inp 1) (.cons (.bv 0) .nil)))))))) h42_6 .skip) h42_5)
@[simp] theorem h42_7_wp {P : Program} {F : PF P} {Q : EX → List Value → World → Prop} {env : List Value} {w : World} : h42_7.wp F Q env w = HC.wp F (.seq (.br (.chk none (.fld 2) (.cons (.inp 2) .nil) (.eff (.ld false 1) (.cons (.op (.fld 2) (.cons (.inp 2) .nil)) .nil) (.chk none (.bin .eql) (.cons (.inp 1) (.cons (.bv 0) .nil)) (.done [] (some (.op (.bin .eql) (.cons (.inp 1) (.cons (.bv 0) .nil)))))))) h42_6 .skip) h42_5) Q env w := rfl
def h42_8 : HC := (.reg (.chk none (.fld 4) (.cons (.inp 2) .nil) (.eff (.ld false 1) (.cons (.op (.fld 4) (.cons (.inp 2) .nil)) .nil) (.chk none (.bin .sub) (.cons (.inp 6) (.cons (.bv 0) .nil)) (.done [(6, (.op (.bin .sub) (.cons (.inp 6) (.cons (.bv 0) .nil))))] none)))))
@[simp] theorem h42_8_wp {P : Program} {F : PF P} {Q : EX → List Value → World → Prop} {env : List Value} {w : World} : h42_8.wp F Q env w = HC.wp F (.reg (.chk none (.fld 4) (.cons (.inp 2) .nil) (.eff (.ld false 1) (.cons (.op (.fld 4) (.cons (.inp 2) .nil)) .nil) (.chk none (.bin .sub) (.cons (.inp 6) (.cons (.bv 0) .nil)) (.done [(6, (.op (.bin .sub) (.cons (.inp 6) (.cons (.bv 0) .nil))))] none))))) Q env w := rfl
def h42_9 : HC := (.br (.chk none (.fld 2) (.cons (.inp 2) .nil) (.eff (.ld false 1) (.cons (.op (.fld 2) (.cons (.inp 2) .nil)) .nil) (.chk none (.bin .eql) (.cons (.inp 1) (.cons (.bv 0) .nil)) (.done [] (some (.op (.bin .eql) (.cons (.inp 1) (.cons (.bv 0) .nil)))))))) h42_8 .skip)
@[simp] theorem h42_9_wp {P : Program} {F : PF P} {Q : EX → List Value → World → Prop} {env : List Value} {w : World} : h42_9.wp F Q env w = HC.wp F (.br (.chk none (.fld 2) (.cons (.inp 2) .nil) (.eff (.ld false 1) (.cons (.op (.fld 2) (.cons (.inp 2) .nil)) .nil) (.chk none (.bin .eql) (.cons (.inp 1) (.cons (.bv 0) .nil)) (.done [] (some (.op (.bin .eql) (.cons (.inp 1) (.cons (.bv 0) .nil)))))))) h42_8 .skip) Q env w := rfl
def h42_10 : HC := (.seq (.reg (.chk none (.fld 4) (.cons (.inp 2) .nil) (.eff (.ld false 1) (.cons (.op (.fld 4) (.cons (.inp 2) .nil)) .nil) (.done [(7, (.bv 0))] none)))) h42_9)
@[simp] theorem h42_10_wp {P : Program} {F : PF P} {Q : EX → List Value → World → Prop} {env : List Value} {w : World} : h42_10.wp F Q env w = HC.wp F (.seq (.reg (.chk none (.fld 4) (.cons (.inp 2) .nil) (.eff (.ld false 1) (.cons (.op (.fld 4) (.cons (.inp 2) .nil)) .nil) (.done [(7, (.bv 0))] none)))) h42_9) Q env w := rfl
def h42_11 : HC := (.reg (.chk none (.fld 4) (.cons (.inp 2) .nil) (.eff (.ld false 1) (.cons (.op (.fld 4) (.cons (.inp 2) .nil)) .nil) (.done [(6, (.bv 0))] none))))
@[simp] theorem h42_11_wp {P : Program} {F : PF P} {Q : EX → List Value → World → Prop} {env : List Value} {w : World} : h42_11.wp F Q env w = HC.wp F (.reg (.chk none (.fld 4) (.cons (.inp 2) .nil) (.eff (.ld false 1) (.cons (.op (.fld 4) (.cons (.inp 2) .nil)) .nil) (.done [(6, (.bv 0))] none)))) Q env w := rfl
def h42_12 : HC := (.br (.chk none (.fld 2) (.cons (.inp 2) .nil) (.eff (.ld false 1) (.cons (.op (.fld 2) (.cons (.inp 2) .nil)) .nil) (.chk none (.bin .eql) (.cons (.inp 1) (.cons (.bv 0) .nil)) (.done [] (some (.op (.bin .eql) (.cons (.inp 1) (.cons (.bv 0) .nil)))))))) h42_11 .skip)
@[simp] theorem h42_12_wp {P : Program} {F : PF P} {Q : EX → List Value → World → Prop} {env : List Value} {w : World} : h42_12.wp F Q env w = HC.wp F (.br (.chk none (.fld 2) (.cons (.inp 2) .nil) (.eff (.ld false 1) (.cons (.op (.fld 2) (.cons (.inp 2) .nil)) .nil) (.chk none (.bin .eql) (.cons (.inp 1) (.cons (.bv 0) .nil)) (.done [] (some (.op (.bin .eql) (.cons (.inp 1) (.cons (.bv 0) .nil)))))))) h42_11 .skip) Q env w := rfl
def h42_13 : HC := (.seq (.reg (.chk none (.fld 4) (.cons (.inp 2) .nil) (.eff (.ld false 1) (.cons (.op (.fld 4) (.cons (.inp 2) .nil)) .nil) (.chk none (.bin .sub) (.cons (.inp 7) (.cons (.bv 0) .nil)) (.done [(7, (.op (.bin .sub) (.cons (.inp 7) (.cons (.bv 0) .nil))))] none))))) h42_12)
@[simp] theorem h42_13_wp {P : Program} {F : PF P} {Q : EX → List Value → World → Prop} {env : List Value} {w : World} : h42_13.wp F Q env w = HC.wp F (.seq (.reg (.chk none (.fld 4) (.cons (.inp 2) .nil) (.eff (.ld false 1) (.cons (.op (.fld 4) (.cons (.inp 2) .nil)) .nil) (.chk none (.bin .sub) (.cons (.inp 7) (.cons (.bv 0) .nil)) (.done [(7, (.op (.bin .sub) (.cons (.inp 7) (.cons (.bv 0) .nil))))] none))))) h42_12) Q env w := rfl
def h42_14 : HC := (.br (.chk none (.bin .eql) (.cons (.inp 9) (.cons (.cst (.int .i64 5)) .nil)) (.done [] (some (.op (.bin .eql) (.cons (.inp 9) (.cons (.cst (.int .i64 5)) .nil)))))) h42_13 .skip)
@[simp] theorem h42_14_wp {P : Program} {F : PF P} {Q : EX → List Value → World → Prop} {env : List Value} {w : World} : h42_14.wp F Q env w = HC.wp F (.br (.chk none (.bin .eql) (.cons (.inp 9) (.cons (.cst (.int .i64 5)) .nil)) (.done [] (some (.op (.bin .eql) (.cons (.inp 9) (.cons (.cst (.int .i64 5)) .nil)))))) h42_13 .skip) Q env w := rfl
def h42_15 : HC := (.br (.chk none (.bin .eql) (.cons (.inp 9) (.cons (.cst (.int .i64 4)) .nil)) (.done [] (some (.op (.bin .eql) (.cons (.inp 9) (.cons (.cst (.int .i64 4)) .nil)))))) h42_10 h42_14)
@[simp] theorem h42_15_wp {P : Program} {F : PF P} {Q : EX → List Value → World → Prop} {env : List Value} {w : World} : h42_15.wp F Q env w = HC.wp F (.br (.chk none (.bin .eql) (.cons (.inp 9) (.cons (.cst (.int .i64 4)) .nil)) (.done [] (some (.op (.bin .eql) (.cons (.inp 9) (.cons (.cst (.int .i64 4)) .nil)))))) h42_10 h42_14) Q env w := rfl
def h42_16 : HC := (.br (.chk none (.bin .eql) (.cons (.inp 9) (.cons (.cst (.int .i64 3)) .nil)) (.done [] (some (.op (.bin .eql) (.cons (.inp 9) (.cons (.cst (.int .i64 3)) .nil)))))) h42_7 h42_15)
@[simp] theorem h42_16_wp {P : Program} {F : PF P} {Q : EX → List Value → World → Prop} {env : List Value} {w : World} : h42_16.wp F Q env w = HC.wp F (.br (.chk none (.bin .eql) (.cons (.inp 9) (.cons (.cst (.int .i64 3)) .nil)) (.done [] (some (.op (.bin .eql) (.cons (.inp 9) (.cons (.cst (.int .i64 3)) .nil)))))) h42_7 h42_15) Q env w := rfl
def h42_17 : HC := (.br (.chk none (.bin .eql) (.cons (.inp 9) (.cons (.cst (.int .i64 2)) .nil)) (.done [] (some (.op (.bin .eql) (.cons (.inp 9) (.cons (.cst (.int .i64 2)) .nil)))))) h42_3 h42_16)
@[simp] theorem h42_17_wp {P : Program} {F : PF P} {Q : EX → List Value → World → Prop} {env : List Value} {w : World} : h42_17.wp F Q env w = HC.wp F (.br (.chk none (.bin .eql) (.cons (.inp 9) (.cons (.cst (.int .i64 2)) .nil)) (.done [] (some (.op (.bin .eql) (.cons (.inp 9) (.cons (.cst (.int .i64 2)) .nil)))))) h42_3 h42_16) Q env w := rfl
def h42_18 : HC := (.seq (.block 0 h42_17) h42_0)
@[simp] theorem h42_18_wp {P : Program} {F : PF P} {Q : EX → List Value → World → Prop} {env : List Value} {w : World} : h42_18.wp F Q env w = HC.wp F (.seq (.block 0 h42_17) h42_0) Q env w := rfl
def h42_19 : HC := (.seq (.reg (.chk none (.fld 1) (.cons (.inp 2) .nil) (.eff (.ld false 1) (.cons (.op (.fld 1) (.cons (.inp 2) .nil)) .nil) (.done [(9, (.bv 0))] none)))) h42_18)
@[simp] theorem h42_19_wp {P : Program} {F : PF P} {Q : EX → List Value → World → Prop} {env : List Value} {w : World} : h42_19.wp F Q env w = HC.wp F (.seq (.reg (.chk none (.fld 1) (.cons (.inp 2) .nil) (.eff (.ld false 1) (.cons (.op (.fld 1) (.cons (.inp 2) .nil)) .nil) (.done [(9, (.bv 0))] none)))) h42_18) Q env w := rfl
def h42_20 : HC := (.seq (.reg (.done [(6, (.cst (.int .u64 0))), (7, (.cst (.int .u64 0))), (8, (.cst (.int .u64 0)))] none)) h42_19)
@[simp] theorem h42_20_wp {P : Program} {F : PF P} {Q : EX → List Value → World → Prop} {env : List Value} {w : World} : h42_20.wp F Q env w = HC.wp F (.seq (.reg (.done [(6, (.cst (.int .u64 0))), (7, (.cst (.int .u64 0))), (8, (.cst (.int .u64 0)))] none)) h42_19) Q env w := rfl
def l42 : Lifted := ⟨[0, 1, 2, 4, 5, 6, 7, 8, 9, 11], 67, [.slot 3, .slot 4, .slot 5], (.seq (.reg (.eff (.box 53) (.cons (.inp 0) .nil) (.done [(2, (.bv 0)), (3, (.cst (.int .u64 0))), (4, (.cst (.int .u64 0))), (5, (.cst (.int .u64 0)))] none))) h42_20)⟩
theorem l42_ok : liftFn U1 42 400 = some l42 := by kernel_rfl


theorem does_spec (p : Nat) (P : Ps) (o : Sp) (w0 w : World) (A : Asn) (hP : Bd P) (hn : ∀ i, (h : i < P.rows.length) → P.rows[i].name.length ≤ 1048576) (ho : o.ok) (s : St w0 (A * pur p P) w) :
    CallW Try.prog 40 [.pointer (some ⟨p, 0, none⟩), .agg o.cs.toArray] (fun r w' => r = .int .i64 (doesF P o).1 ∧ St w0 (A * pur p (doesF P o).2) w') w := by
  obtain ⟨hc, hx⟩ := ho
  have hlen := hP.len
  refine callW_of_lift l40_ok (by simp [l40]) ?_
  simp [l40]
  refine eff_box s ?_
  intro b w1 s1
  have s1 : St w0 (A * pur p P * pt b (.cells o.cs.toArray 53 (0, 0))) w1 := by simpa using s1
  have L : ∀ {w : World} {P' : Ps}, St w0 (A * pur p P' * pt b (.cells o.cs.toArray 53 (0, 0))) w → ∀ j u, o.cs[j]? = some u → w.cell? ⟨b, j, none⟩ = some u := fun h j u hu => by
    have := h.row_cells j u hu
    simpa using this
  simp
  refine eff_ldc (v := .int .i64 o.kind) (L s1 1 _ rfl) ?_
  simp
  refine cndI (fun k1 => ?_) (fun k1 => ?_)
  · simp at k1
    simp
    refine eff_ldc (v := .string (mk o.name)) (L s1 5 _ rfl) ?_
    simp
    refine eff_call ((Open_spec p P o.name w0 w1 _ hx (by omega) s1.swap).mono ?_)
    rintro r w2 ⟨rfl, s2⟩
    simp [doesF, k1]
    exact s2.to (by ac_rfl) |>.drop (A := pt b (.cells o.cs.toArray 53 (0, 0)))
  simp at k1
  simp
  refine cndI (fun k2 => ?_) (fun k2 => ?_)
  · simp at k2
    simp
    refine eff_ldc (v := .int .i64 o.a) (L s1 2 _ rfl) ?_
    simp
    refine eff_ldc (v := .int .u64 o.coins) (L s1 4 _ rfl) ?_
    simp
    refine eff_call ((Mint_spec p P o.a o.coins w0 w1 _ hP hc s1.swap).mono ?_)
    rintro r w2 ⟨rfl, s2⟩
    simp [doesF, k2]
    exact s2.swap.drop
  simp at k2
  simp
  refine cndI (fun k3 => ?_) (fun k3 => ?_)
  · simp at k3
    simp
    refine eff_ldc (v := .int .i64 o.a) (L s1 2 _ rfl) ?_
    simp
    refine eff_ldc (v := .int .i64 o.b) (L s1 3 _ rfl) ?_
    simp
    refine eff_ldc (v := .int .u64 o.coins) (L s1 4 _ rfl) ?_
    simp
    refine eff_call ((Pay_spec p P o.a o.b o.coins w0 w1 _ hP hc s1.swap).mono ?_)
    rintro r w2 ⟨rfl, s2⟩
    simp [doesF, k3]
    exact s2.swap.drop
  simp at k3
  simp
  refine cndI (fun k4 => ?_) (fun k4 => ?_)
  · simp at k4
    simp
    refine eff_ldc (v := .int .i64 o.a) (L s1 2 _ rfl) ?_
    simp
    refine eff_ldc (v := .int .u64 o.coins) (L s1 4 _ rfl) ?_
    simp
    refine eff_call ((Take_spec p P o.a o.coins w0 w1 _ hP hc s1.swap).mono ?_)
    rintro r w2 ⟨rfl, s2⟩
    simp [doesF, k4]
    exact s2.swap.drop
  simp at k4
  simp
  refine cndI (fun k5 => ?_) (fun k5 => ?_)
  · simp at k5
    simp
    refine eff_ldc (v := .int .i64 o.a) (L s1 2 _ rfl) ?_
    simp
    refine eff_ldc (v := .int .u64 o.coins) (L s1 4 _ rfl) ?_
    simp
    refine eff_call ((Put_spec p P o.a o.coins w0 w1 _ hP hc s1.swap).mono ?_)
    rintro r w2 ⟨rfl, s2⟩
    simp [doesF, k5]
    exact s2.swap.drop
  simp at k5
  simp
  refine cndI (fun k6 => ?_) (fun k6 => ?_)
  · simp at k6
    simp
    refine eff_ldc (v := .int .i64 o.a) (L s1 2 _ rfl) ?_
    simp
    refine eff_call ((Get_spec p P o.a w0 w1 _ hlen s1.swap).mono ?_)
    rintro r w2 ⟨rfl, s2⟩
    simp [doesF, k6]
    exact s2.swap.drop
  simp at k6
  simp
  have hd : doesF P o = (0, P) := by unfold doesF; rw [if_neg k1, if_neg k2, if_neg k3, if_neg k4, if_neg k5, if_neg k6]
  rw [hd]
  refine cndI (fun k7 => ?_) (fun k7 => ?_)
  · simp
    refine eff_ldc (v := .string (mk o.name)) (L s1 5 _ rfl) ?_
    simp
    refine eff_call ((Find_spec p P o.name w0 w1 _ hx s1.swap).mono ?_)
    rintro r w2 ⟨rfl, s2⟩
    simp
    refine eff_ldc (v := .string (mk o.name)) (L s2.swap 5 _ rfl) ?_
    simp
    refine eff_call ((Near_spec p P o.name w0 w2 _ hx hlen hn s2).mono ?_)
    intro r w3 s3
    simp
    exact s3.drop.swap.drop
  simp
  refine cndI (fun k8 => ?_) (fun k8 => ?_)
  · simp
    refine eff_call ((Copy_spec p P w0 w1 _ (by omega) s1.swap).mono ?_)
    rintro r w2 ⟨q, rfl, s2⟩
    simp
    exact s2.drop.swap.drop
  simp
  exact s1.drop
def total (l : List Ac) : Int := (l.map Ac.coins).sum
theorem total_nil : total [] = 0 := rfl
theorem total_snoc (l : List Ac) (a : Ac) : total (l ++ [a]) = total l + a.coins := by simp [total]
theorem total_pos : ∀ {l : List Ac}, (∀ x ∈ l, 0 ≤ x.coins) → 0 ≤ total l
  | [], _ => Int.le_refl _
  | a :: l, h => by
    have h1 := h a (List.mem_cons_self ..)
    have h2 := total_pos fun x hx => h x (List.mem_cons_of_mem _ hx)
    simp only [total, List.map_cons, List.sum_cons] at h2 ⊢
    omega
theorem total_take {l : List Ac} (h : ∀ x ∈ l, 0 ≤ x.coins) (i : Nat) : 0 ≤ total (l.take i) ∧ total (l.take i) ≤ total l := by
  have e : total l = total (l.take i) + total (l.drop i) := by
    unfold total
    rw [← List.sum_append, ← List.map_append, List.take_append_drop]
  have h1 := total_pos (l := l.take i) fun x hx => h x (List.mem_of_mem_take hx)
  have h2 := total_pos (l := l.drop i) fun x hx => h x (List.mem_of_mem_drop hx)
  omega
/-- what stands of a purse -/
structure PI (lim : Int) (P : Ps) : Prop where
  eqlim : P.lim = lim
  lims : 1 ≤ lim ∧ lim ≤ 64
  len : 1 ≤ P.rows.length ∧ (P.rows.length : Int) ≤ lim
  coins : ∀ x ∈ P.rows, 0 ≤ x.coins
  held : 0 ≤ P.held
  sum : P.held + total P.rows = P.sup
  sup : P.sup ≤ 4611686018427387904
  names : ∀ i, (h : i < P.rows.length) → P.rows[i].name.length ≤ 1048576
theorem coin_le {l : List Ac} (h : ∀ x ∈ l, 0 ≤ x.coins) {i : Nat} (hi : i < l.length) : 0 ≤ l[i].coins ∧ l[i].coins ≤ total l := by
  have h0 := h _ (List.getElem_mem hi)
  have h1 := total_take h (i + 1)
  have h2 := total_take h i
  rw [List.take_succ_eq_append_getElem hi, total_snoc] at h1
  omega
theorem PI.bd {lim : Int} {P : Ps} (h : PI lim P) : Bd P := by
  have ht := total_pos h.coins
  have h1 := h.held
  have h2 := h.sum
  have h3 := h.sup
  have h4 := h.len
  have h5 := h.lims
  refine ⟨fun i hi => ?_, by omega, by omega, by omega⟩
  have e : P.rows.getD i ⟨[], 0⟩ = P.rows[i] := by simp [hi]
  rw [e]
  have := coin_le h.coins hi
  omega
theorem all_spec (p : Nat) (lim : Int) (P : Ps) (w0 w : World) (A : Asn) (hP : PI lim P) (s : St w0 (A * pur p P) w) :
    CallW Try.prog 41 [.pointer (some ⟨p, 0, none⟩)] (fun r w' => r = .int .u64 P.sup ∧ St w0 (A * pur p P) w') w := by
  have hb := hP.bd
  have hlen := hb.len
  have h1 := hP.held
  have h2 := hP.sum
  have h3 := hP.sup
  refine callW_of_lift l41_ok (by simp [l41]) ?_
  simp [l41]
  refine eff_call ((Rows_spec p P w0 w A (by omega) s).mono ?_)
  intro v w1 s1
  simp
  obtain ⟨a, cap, rfl, _⟩ := s1.own_val
  refine eff_call ((Held_spec p P w0 w1 (A * own 66 2 (.slice a P.rows.length cap) P.rows.length (flat P.rows)) (s1.to (by ac_rfl))).mono ?_)
  rintro r w2 ⟨rfl, s2⟩
  simp
  have s3 := s2.swap
  refine loopI (fun env w' => ∃ (i : Nat), env = [.pointer (some ⟨p, 0, none⟩), .int .u64 0, .slice a P.rows.length cap, .int .u64 (P.held + total (P.rows.take i)), .int .i64 i] ∧ i ≤ P.rows.length ∧ St w0 (A * pur p P * own 66 2 (.slice a P.rows.length cap) P.rows.length (flat P.rows)) w')
    (fun env _ => P.rows.length - slotN env 4) ⟨0, by simp [total], by omega, s3⟩ ?_
  clear s s1 s2 s3
  rintro LQ env w' ⟨i, rfl, hi, s⟩ hN hE hR
  simp
  refine cndI (fun h => ?_) (fun h => ?_)
  · simp at h
    have h : i < P.rows.length := by omega
    obtain ⟨g, gcap, hv, _, hcell⟩ := s.own_at (by omega)
    cases hv
    simp [h]
    refine eff_ldc (v := .int .u64 P.rows[i].coins) (hcell _ _ (flat_coins h)) ?_
    simp
    have ht := total_take hP.coins (i + 1)
    rw [List.take_succ_eq_append_getElem h, total_snoc] at ht
    have ht0 := total_take hP.coins i
    have hc0 := hP.coins _ (List.getElem_mem h)
    try simp (disch := omega) only [wrap64, wrapu64]
    refine hN _ _ ⟨i + 1, ?_, by omega, s⟩ (by simp [slotN]; omega)
    rw [List.take_succ_eq_append_getElem h, total_snoc]
    simp [Int.add_assoc]
  simp at h
  simp
  refine hE _ _ _ ?_
  have hie : i = P.rows.length := by omega
  rw [hie, List.take_length, h2]
  simp
  exact s.drop
def movedF (o : Sp) (n : Int) : Int × Int × Int :=
  if o.kind = 2 then ((if n = o.a then o.coins else 0), 0, o.coins)
  else if o.kind = 3 then ((if n = o.b then IntKind.u64.wrap ((if n = o.a then IntKind.u64.wrap (0 - o.coins) else 0) + o.coins) else if n = o.a then IntKind.u64.wrap (0 - o.coins) else 0), 0, 0)
  else if o.kind = 4 then ((if n = o.a then IntKind.u64.wrap (0 - o.coins) else 0), o.coins, 0)
  else if o.kind = 5 then ((if n = o.a then o.coins else 0), IntKind.u64.wrap (0 - o.coins), 0)
  else (0, 0, 0)
theorem moved_spec (o : Sp) (n : Int) (w0 w : World) (A : Asn) (s : St w0 A w) :
    CallW Try.prog 42 [.agg o.cs.toArray, .int .i64 n] (fun r w' => r = .tuple #[.int .u64 (movedF o n).1, .int .u64 (movedF o n).2.1, .int .u64 (movedF o n).2.2] ∧ St w0 A w') w := by
  refine callW_of_lift l42_ok (by simp [l42]) ?_
  simp [l42]
  refine eff_box s ?_
  intro b w1 s1
  have s1 : St w0 (A * pt b (.cells o.cs.toArray 53 (0, 0))) w1 := by simpa using s1
  have L : ∀ j u, o.cs[j]? = some u → w1.cell? ⟨b, j, none⟩ = some u := fun j u hu => by
    have := s1.row_cells j u hu
    simpa using this
  have hk : ∀ {v : Value} {P : Prop}, v = v ∧ P ↔ P := by simp
  simp
  refine eff_ldc (v := .int .i64 o.kind) (L 1 _ rfl) ?_
  simp
  refine cndI (fun k2 => ?_) (fun k2 => ?_)
  · simp at k2
    simp
    refine eff_ldc (v := .int .u64 o.coins) (L 4 _ rfl) ?_
    simp
    refine eff_ldc (v := .int .i64 o.a) (L 2 _ rfl) ?_
    simp
    refine cndI (fun q => ?_) (fun q => ?_)
    · simp at q
      simp
      refine eff_ldc (v := .int .u64 o.coins) (L 4 _ rfl) ?_
      simp [movedF, k2, q]
      exact s1.drop
    · simp at q
      simp [movedF, k2, q]
      exact s1.drop
  simp at k2
  simp
  refine cndI (fun k3 => ?_) (fun k3 => ?_)
  · simp at k3
    simp
    refine eff_ldc (v := .int .i64 o.a) (L 2 _ rfl) ?_
    simp
    refine cndI (fun q => ?_) (fun q => ?_)
    · simp at q
      simp
      refine eff_ldc (v := .int .u64 o.coins) (L 4 _ rfl) ?_
      simp
      refine eff_ldc (v := .int .i64 o.b) (L 3 _ rfl) ?_
      simp
      refine cndI (fun q2 => ?_) (fun q2 => ?_)
      · simp at q2
        simp
        refine eff_ldc (v := .int .u64 o.coins) (L 4 _ rfl) ?_
        simp [movedF, k3, q, q2]
        first | exact s1.drop | (rw [← q, ← q2]; simp; exact s1.drop)
      · simp at q2
        simp [movedF, k3, q]
        exact ⟨fun e => absurd (q.trans e) q2, s1.drop⟩
    · simp at q
      simp
      refine eff_ldc (v := .int .i64 o.b) (L 3 _ rfl) ?_
      simp
      refine cndI (fun q2 => ?_) (fun q2 => ?_)
      · simp at q2
        simp
        refine eff_ldc (v := .int .u64 o.coins) (L 4 _ rfl) ?_
        have hba : ¬ o.b = o.a := fun e => q (q2.trans e)
        simp [movedF, k3, q2, hba]
        exact s1.drop
      · simp at q2
        simp [movedF, k3, q, q2]
        exact s1.drop
  simp at k3
  simp
  refine cndI (fun k4 => ?_) (fun k4 => ?_)
  · simp at k4
    simp
    refine eff_ldc (v := .int .u64 o.coins) (L 4 _ rfl) ?_
    simp
    refine eff_ldc (v := .int .i64 o.a) (L 2 _ rfl) ?_
    simp
    refine cndI (fun q => ?_) (fun q => ?_)
    · simp at q
      simp
      refine eff_ldc (v := .int .u64 o.coins) (L 4 _ rfl) ?_
      simp [movedF, k4, q]
      exact s1.drop
    · simp at q
      simp [movedF, k4, q]
      exact s1.drop
  simp at k4
  simp
  refine cndI (fun k5 => ?_) (fun k5 => ?_)
  · simp at k5
    simp
    refine eff_ldc (v := .int .u64 o.coins) (L 4 _ rfl) ?_
    simp
    refine eff_ldc (v := .int .i64 o.a) (L 2 _ rfl) ?_
    simp
    refine cndI (fun q => ?_) (fun q => ?_)
    · simp at q
      simp
      refine eff_ldc (v := .int .u64 o.coins) (L 4 _ rfl) ?_
      simp [movedF, k5, q]
      exact s1.drop
    · simp at q
      simp [movedF, k5, q]
      exact s1.drop
  simp at k5
  simp [movedF, k2, k3, k4, k5]
  exact s1.drop
end Go.HL.Pu
