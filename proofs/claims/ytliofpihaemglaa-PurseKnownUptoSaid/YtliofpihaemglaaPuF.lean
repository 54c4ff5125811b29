/-
  Purse: the law's small functions, the chapter's purse. No condition.
-/
import Derived.Test.YtliofpihaemglaaPuE
import Derived.Test.YtliofpihaemglaaEngG
import Derived.Test.YtliofpihaemglaaEngJ
namespace Go.HL.Pu
open Go.HL Go.HL.Nm Go.Proofs
set_option maxRecDepth 4000
set_option linter.unusedSimpArgs false
set_option linter.unusedVariables false
noncomputable def numS : PS Try.prog where
  f := 10
  val args := match args with
    | [.int _ u] => .int .i64 u
    | _ => undef
  ok args := match args with
    | [.int k _] => k = .i64
    | _ => False
  sound args w h := by
    split at h
    · rename_i k u
      subst h
      exact num_spec u w
    · exact h.elim
noncomputable abbrev U1 : PF Try.prog := PF.of [numS]
@[simp] theorem U1_num_val (args : List Value) : U1.val 10 args = numS.val args := rfl
@[simp] theorem U1_num_ok (args : List Value) : U1.ok 10 args = numS.ok args := rfl
@[simp] theorem num_val (u : Int) : numS.val [.int .i64 u] = .int .i64 u := rfl
@[simp] theorem num_ok (u : Int) : numS.ok [.int .i64 u] = (IntKind.i64 = .i64) := rfl
-- bazaar/bazaarlaw14.given
def h33_0 : HC := (.seq (.reg (.done [(0, (.inp 3)), (1, (.inp 2))] none)) .ret)
@[simp] theorem h33_0_wp {P : Program} {F : PF P} {Q : EX → List Value → World → Prop} {env : List Value} {w : World} : h33_0.wp F Q env w = HC.wp F (.seq (.reg (.done [(0, (.inp 3)), (1, (.inp 2))] none)) .ret) Q env w := rfl
def h33_1 : HC := (.seq (.reg (.chk none (.cal 10) (.cons (.inp 12) .nil) (.chk none (.cal 10) (.cons (.inp 13) .nil) (.chk none (.cal 10) (.cons (.inp 14) .nil) (.chk none (.cal 10) (.cons (.inp 15) .nil) (.chk none (.cal 10) (.cons (.inp 16) .nil) (.eff (.bsl 3 5 1 #[(.int .i64 0)] [0, 1, 2, 3, 4]) (.cons (.op (.cal 10) (.cons (.inp 12) .nil)) (.cons (.op (.cal 10) (.cons (.inp 13) .nil)) (.cons (.op (.cal 10) (.cons (.inp 14) .nil)) (.cons (.op (.cal 10) (.cons (.inp 15) .nil)) (.cons (.op (.cal 10) (.cons (.inp 16) .nil)) .nil))))) (.eff (.app 35 35 3 1 8 (.int .i64 0)) (.cons (.inp 2) (.cons (.bv 0) .nil)) (.done [(2, (.bv 1))] none))))))))) h33_0)
@[simp] theorem h33_1_wp {P : Program} {F : PF P} {Q : EX → List Value → World → Prop} {env : List Value} {w : World} : h33_1.wp F Q env w = HC.wp F (.seq (.reg (.chk none (.cal 10) (.cons (.inp 12) .nil) (.chk none (.cal 10) (.cons (.inp 13) .nil) (.chk none (.cal 10) (.cons (.inp 14) .nil) (.chk none (.cal 10) (.cons (.inp 15) .nil) (.chk none (.cal 10) (.cons (.inp 16) .nil) (.eff (.bsl 3 5 1 #[(.int .i64 0)] [0, 1, 2, 3, 4]) (.cons (.op (.cal 10) (.cons (.inp 12) .nil)) (.cons (.op (.cal 10) (.cons (.inp 13) .nil)) (.cons (.op (.cal 10) (.cons (.inp 14) .nil)) (.cons (.op (.cal 10) (.cons (.inp 15) .nil)) (.cons (.op (.cal 10) (.cons (.inp 16) .nil)) .nil))))) (.eff (.app 35 35 3 1 8 (.int .i64 0)) (.cons (.inp 2) (.cons (.bv 0) .nil)) (.done [(2, (.bv 1))] none))))))))) h33_0) Q env w := rfl
def h33_2 : HC := (.seq (.reg (.eff (.call 64) (.cons (.inp 3) (.cons (.cst (.int .i64 1)) (.cons (.cst (.int .i64 3)) (.cons (.cst (.int .u64 0)) .nil)))) (.done [(16, (.bv 0))] none))) h33_1)
@[simp] theorem h33_2_wp {P : Program} {F : PF P} {Q : EX → List Value → World → Prop} {env : List Value} {w : World} : h33_2.wp F Q env w = HC.wp F (.seq (.reg (.eff (.call 64) (.cons (.inp 3) (.cons (.cst (.int .i64 1)) (.cons (.cst (.int .i64 3)) (.cons (.cst (.int .u64 0)) .nil)))) (.done [(16, (.bv 0))] none))) h33_1) Q env w := rfl
def h33_3 : HC := (.seq (.reg (.eff (.call 64) (.cons (.inp 3) (.cons (.cst (.int .i64 1)) (.cons (.cst (.int .i64 2)) (.cons (.cst (.int .u64 71)) .nil)))) (.done [(15, (.bv 0))] none))) h33_2)
@[simp] theorem h33_3_wp {P : Program} {F : PF P} {Q : EX → List Value → World → Prop} {env : List Value} {w : World} : h33_3.wp F Q env w = HC.wp F (.seq (.reg (.eff (.call 64) (.cons (.inp 3) (.cons (.cst (.int .i64 1)) (.cons (.cst (.int .i64 2)) (.cons (.cst (.int .u64 71)) .nil)))) (.done [(15, (.bv 0))] none))) h33_2) Q env w := rfl
def h33_4 : HC := (.seq (.reg (.eff (.call 64) (.cons (.inp 3) (.cons (.cst (.int .i64 1)) (.cons (.cst (.int .i64 2)) (.cons (.cst (.int .u64 0)) .nil)))) (.done [(14, (.bv 0))] none))) h33_3)
@[simp] theorem h33_4_wp {P : Program} {F : PF P} {Q : EX → List Value → World → Prop} {env : List Value} {w : World} : h33_4.wp F Q env w = HC.wp F (.seq (.reg (.eff (.call 64) (.cons (.inp 3) (.cons (.cst (.int .i64 1)) (.cons (.cst (.int .i64 2)) (.cons (.cst (.int .u64 0)) .nil)))) (.done [(14, (.bv 0))] none))) h33_3) Q env w := rfl
def h33_5 : HC := (.seq (.reg (.eff (.call 64) (.cons (.inp 3) (.cons (.cst (.int .i64 1)) (.cons (.cst (.int .i64 1)) (.cons (.cst (.int .u64 1)) .nil)))) (.done [(13, (.bv 0))] none))) h33_4)
@[simp] theorem h33_5_wp {P : Program} {F : PF P} {Q : EX → List Value → World → Prop} {env : List Value} {w : World} : h33_5.wp F Q env w = HC.wp F (.seq (.reg (.eff (.call 64) (.cons (.inp 3) (.cons (.cst (.int .i64 1)) (.cons (.cst (.int .i64 1)) (.cons (.cst (.int .u64 1)) .nil)))) (.done [(13, (.bv 0))] none))) h33_4) Q env w := rfl
def h33_6 : HC := (.seq (.reg (.eff (.call 64) (.cons (.inp 3) (.cons (.cst (.int .i64 1)) (.cons (.cst (.int .i64 2)) (.cons (.cst (.int .u64 30)) .nil)))) (.done [(12, (.bv 0))] none))) h33_5)
@[simp] theorem h33_6_wp {P : Program} {F : PF P} {Q : EX → List Value → World → Prop} {env : List Value} {w : World} : h33_6.wp F Q env w = HC.wp F (.seq (.reg (.eff (.call 64) (.cons (.inp 3) (.cons (.cst (.int .i64 1)) (.cons (.cst (.int .i64 2)) (.cons (.cst (.int .u64 30)) .nil)))) (.done [(12, (.bv 0))] none))) h33_5) Q env w := rfl
def h33_7 : HC := (.seq (.reg (.chk none (.cal 10) (.cons (.inp 8) .nil) (.chk none (.cal 10) (.cons (.inp 9) .nil) (.chk none (.cal 10) (.cons (.inp 10) .nil) (.chk none (.cal 10) (.cons (.inp 11) .nil) (.eff (.bsl 3 4 1 #[(.int .i64 0)] [0, 1, 2, 3]) (.cons (.op (.cal 10) (.cons (.inp 8) .nil)) (.cons (.op (.cal 10) (.cons (.inp 9) .nil)) (.cons (.op (.cal 10) (.cons (.inp 10) .nil)) (.cons (.op (.cal 10) (.cons (.inp 11) .nil)) .nil)))) (.eff (.app 35 35 3 1 8 (.int .i64 0)) (.cons (.inp 2) (.cons (.bv 0) .nil)) (.done [(2, (.bv 1))] none)))))))) h33_6)
@[simp] theorem h33_7_wp {P : Program} {F : PF P} {Q : EX → List Value → World → Prop} {env : List Value} {w : World} : h33_7.wp F Q env w = HC.wp F (.seq (.reg (.chk none (.cal 10) (.cons (.inp 8) .nil) (.chk none (.cal 10) (.cons (.inp 9) .nil) (.chk none (.cal 10) (.cons (.inp 10) .nil) (.chk none (.cal 10) (.cons (.inp 11) .nil) (.eff (.bsl 3 4 1 #[(.int .i64 0)] [0, 1, 2, 3]) (.cons (.op (.cal 10) (.cons (.inp 8) .nil)) (.cons (.op (.cal 10) (.cons (.inp 9) .nil)) (.cons (.op (.cal 10) (.cons (.inp 10) .nil)) (.cons (.op (.cal 10) (.cons (.inp 11) .nil)) .nil)))) (.eff (.app 35 35 3 1 8 (.int .i64 0)) (.cons (.inp 2) (.cons (.bv 0) .nil)) (.done [(2, (.bv 1))] none)))))))) h33_6) Q env w := rfl
def h33_8 : HC := (.seq (.reg (.eff (.call 62) (.cons (.inp 3) (.cons (.cst (.int .i64 0)) (.cons (.cst (.int .u64 4611686018427387805)) .nil))) (.done [(11, (.bv 0))] none))) h33_7)
@[simp] theorem h33_8_wp {P : Program} {F : PF P} {Q : EX → List Value → World → Prop} {env : List Value} {w : World} : h33_8.wp F Q env w = HC.wp F (.seq (.reg (.eff (.call 62) (.cons (.inp 3) (.cons (.cst (.int .i64 0)) (.cons (.cst (.int .u64 4611686018427387805)) .nil))) (.done [(11, (.bv 0))] none))) h33_7) Q env w := rfl
def h33_9 : HC := (.seq (.reg (.eff (.call 62) (.cons (.inp 3) (.cons (.cst (.int .i64 3)) (.cons (.cst (.int .u64 1)) .nil))) (.done [(10, (.bv 0))] none))) h33_8)
@[simp] theorem h33_9_wp {P : Program} {F : PF P} {Q : EX → List Value → World → Prop} {env : List Value} {w : World} : h33_9.wp F Q env w = HC.wp F (.seq (.reg (.eff (.call 62) (.cons (.inp 3) (.cons (.cst (.int .i64 3)) (.cons (.cst (.int .u64 1)) .nil))) (.done [(10, (.bv 0))] none))) h33_8) Q env w := rfl
def h33_10 : HC := (.seq (.reg (.eff (.call 62) (.cons (.inp 3) (.cons (.cst (.int .i64 1)) (.cons (.cst (.int .u64 0)) .nil))) (.done [(9, (.bv 0))] none))) h33_9)
@[simp] theorem h33_10_wp {P : Program} {F : PF P} {Q : EX → List Value → World → Prop} {env : List Value} {w : World} : h33_10.wp F Q env w = HC.wp F (.seq (.reg (.eff (.call 62) (.cons (.inp 3) (.cons (.cst (.int .i64 1)) (.cons (.cst (.int .u64 0)) .nil))) (.done [(9, (.bv 0))] none))) h33_9) Q env w := rfl
def h33_11 : HC := (.seq (.reg (.eff (.call 62) (.cons (.inp 3) (.cons (.cst (.int .i64 1)) (.cons (.cst (.int .u64 100)) .nil))) (.done [(8, (.bv 0))] none))) h33_10)
@[simp] theorem h33_11_wp {P : Program} {F : PF P} {Q : EX → List Value → World → Prop} {env : List Value} {w : World} : h33_11.wp F Q env w = HC.wp F (.seq (.reg (.eff (.call 62) (.cons (.inp 3) (.cons (.cst (.int .i64 1)) (.cons (.cst (.int .u64 100)) .nil))) (.done [(8, (.bv 0))] none))) h33_10) Q env w := rfl
def h33_12 : HC := (.reg (.chk none (.bin .add) (.cons (.inp 19) (.cons (.cst (.int .i64 1)) .nil)) (.done [(19, (.op (.bin .add) (.cons (.inp 19) (.cons (.cst (.int .i64 1)) .nil))))] none)))
@[simp] theorem h33_12_wp {P : Program} {F : PF P} {Q : EX → List Value → World → Prop} {env : List Value} {w : World} : h33_12.wp F Q env w = HC.wp F (.reg (.chk none (.bin .add) (.cons (.inp 19) (.cons (.cst (.int .i64 1)) .nil)) (.done [(19, (.op (.bin .add) (.cons (.inp 19) (.cons (.cst (.int .i64 1)) .nil))))] none))) Q env w := rfl
def h33_13 : HC := (.reg (.chk none (.cal 10) (.cons (.inp 7) .nil) (.eff (.bsl 3 2 1 #[(.int .i64 0)] [0, 1]) (.cons (.inp 6) (.cons (.op (.cal 10) (.cons (.inp 7) .nil)) .nil)) (.eff (.app 35 35 3 1 8 (.int .i64 0)) (.cons (.inp 2) (.cons (.bv 0) .nil)) (.done [(2, (.bv 1))] none)))))
@[simp] theorem h33_13_wp {P : Program} {F : PF P} {Q : EX → List Value → World → Prop} {env : List Value} {w : World} : h33_13.wp F Q env w = HC.wp F (.reg (.chk none (.cal 10) (.cons (.inp 7) .nil) (.eff (.bsl 3 2 1 #[(.int .i64 0)] [0, 1]) (.cons (.inp 6) (.cons (.op (.cal 10) (.cons (.inp 7) .nil)) .nil)) (.eff (.app 35 35 3 1 8 (.int .i64 0)) (.cons (.inp 2) (.cons (.bv 0) .nil)) (.done [(2, (.bv 1))] none))))) Q env w := rfl
def h33_14 : HC := (.seq (.reg (.eff (.call 13) (.cons (.inp 3) (.cons (.inp 5) .nil)) (.chk none (.ext 0) (.cons (.bv 0) .nil) (.chk none (.ext 1) (.cons (.bv 0) .nil) (.done [(6, (.op (.ext 0) (.cons (.bv 0) .nil))), (7, (.op (.ext 1) (.cons (.bv 0) .nil)))] none))))) h33_13)
@[simp] theorem h33_14_wp {P : Program} {F : PF P} {Q : EX → List Value → World → Prop} {env : List Value} {w : World} : h33_14.wp F Q env w = HC.wp F (.seq (.reg (.eff (.call 13) (.cons (.inp 3) (.cons (.inp 5) .nil)) (.chk none (.ext 0) (.cons (.bv 0) .nil) (.chk none (.ext 1) (.cons (.bv 0) .nil) (.done [(6, (.op (.ext 0) (.cons (.bv 0) .nil))), (7, (.op (.ext 1) (.cons (.bv 0) .nil)))] none))))) h33_13) Q env w := rfl
def h33_15 : HC := (.seq (.reg (.chk none (.idxL 1) (.cons (.inp 17) (.cons (.inp 19) .nil)) (.eff (.ld false 1) (.cons (.op (.idxL 1) (.cons (.inp 17) (.cons (.inp 19) .nil))) .nil) (.done [(5, (.bv 0))] none)))) h33_14)
@[simp] theorem h33_15_wp {P : Program} {F : PF P} {Q : EX → List Value → World → Prop} {env : List Value} {w : World} : h33_15.wp F Q env w = HC.wp F (.seq (.reg (.chk none (.idxL 1) (.cons (.inp 17) (.cons (.inp 19) .nil)) (.eff (.ld false 1) (.cons (.op (.idxL 1) (.cons (.inp 17) (.cons (.inp 19) .nil))) .nil) (.done [(5, (.bv 0))] none)))) h33_14) Q env w := rfl
def h33_16 : HC := (.seq (.block 1 h33_15) h33_12)
@[simp] theorem h33_16_wp {P : Program} {F : PF P} {Q : EX → List Value → World → Prop} {env : List Value} {w : World} : h33_16.wp F Q env w = HC.wp F (.seq (.block 1 h33_15) h33_12) Q env w := rfl
def h33_17 : HC := (.seq (.br (.chk none (.bin .lss) (.cons (.inp 19) (.cons (.inp 18) .nil)) (.done [] (some (.op (.bin .lss) (.cons (.inp 19) (.cons (.inp 18) .nil)))))) .skip (.exit 0)) h33_16)
@[simp] theorem h33_17_wp {P : Program} {F : PF P} {Q : EX → List Value → World → Prop} {env : List Value} {w : World} : h33_17.wp F Q env w = HC.wp F (.seq (.br (.chk none (.bin .lss) (.cons (.inp 19) (.cons (.inp 18) .nil)) (.done [] (some (.op (.bin .lss) (.cons (.inp 19) (.cons (.inp 18) .nil)))))) .skip (.exit 0)) h33_16) Q env w := rfl
def h33_18 : HC := (.loop h33_17)
@[simp] theorem h33_18_wp {P : Program} {F : PF P} {Q : EX → List Value → World → Prop} {env : List Value} {w : World} : h33_18.wp F Q env w = HC.wp F (.loop h33_17) Q env w := rfl
def h33_19 : HC := (.seq (.block 0 h33_18) h33_11)
@[simp] theorem h33_19_wp {P : Program} {F : PF P} {Q : EX → List Value → World → Prop} {env : List Value} {w : World} : h33_19.wp F Q env w = HC.wp F (.seq (.block 0 h33_18) h33_11) Q env w := rfl
def h33_20 : HC := (.seq (.reg (.eff (.bsl 9 5 1 #[(.string ⟨#[]⟩)] [0, 1, 2, 3, 4]) (.cons (.cst (.string ⟨#[65, 110, 110]⟩)) (.cons (.cst (.string ⟨#[65, 78, 78]⟩)) (.cons (.cst (.string ⟨#[97, 32]⟩)) (.cons (.cst (.string ⟨#[66, 111, 98]⟩)) (.cons (.cst (.string ⟨#[67, 105, 100]⟩)) .nil))))) (.chk none .lenL (.cons (.bv 0) .nil) (.done [(17, (.bv 0)), (18, (.op .lenL (.cons (.bv 0) .nil))), (19, (.cst (.int .i64 0)))] none)))) h33_19)
@[simp] theorem h33_20_wp {P : Program} {F : PF P} {Q : EX → List Value → World → Prop} {env : List Value} {w : World} : h33_20.wp F Q env w = HC.wp F (.seq (.reg (.eff (.bsl 9 5 1 #[(.string ⟨#[]⟩)] [0, 1, 2, 3, 4]) (.cons (.cst (.string ⟨#[65, 110, 110]⟩)) (.cons (.cst (.string ⟨#[65, 78, 78]⟩)) (.cons (.cst (.string ⟨#[97, 32]⟩)) (.cons (.cst (.string ⟨#[66, 111, 98]⟩)) (.cons (.cst (.string ⟨#[67, 105, 100]⟩)) .nil))))) (.chk none .lenL (.cons (.bv 0) .nil) (.done [(17, (.bv 0)), (18, (.op .lenL (.cons (.bv 0) .nil))), (19, (.cst (.int .i64 0)))] none)))) h33_19) Q env w := rfl
def h33_21 : HC := (.seq (.reg (.chk none (.cal 10) (.cons (.inp 4) .nil) (.eff (.bsl 3 1 1 #[(.int .i64 0)] [0]) (.cons (.op (.cal 10) (.cons (.inp 4) .nil)) .nil) (.eff (.app 35 35 3 1 8 (.int .i64 0)) (.cons (.inp 2) (.cons (.bv 0) .nil)) (.done [(2, (.bv 1))] none))))) h33_20)
@[simp] theorem h33_21_wp {P : Program} {F : PF P} {Q : EX → List Value → World → Prop} {env : List Value} {w : World} : h33_21.wp F Q env w = HC.wp F (.seq (.reg (.chk none (.cal 10) (.cons (.inp 4) .nil) (.eff (.bsl 3 1 1 #[(.int .i64 0)] [0]) (.cons (.op (.cal 10) (.cons (.inp 4) .nil)) .nil) (.eff (.app 35 35 3 1 8 (.int .i64 0)) (.cons (.inp 2) (.cons (.bv 0) .nil)) (.done [(2, (.bv 1))] none))))) h33_20) Q env w := rfl
def h33_22 : HC := (.seq (.reg (.done [(0, (.cst (.pointer none))), (1, (.cst (.slice none 0 0)))] none)) .ret)
@[simp] theorem h33_22_wp {P : Program} {F : PF P} {Q : EX → List Value → World → Prop} {env : List Value} {w : World} : h33_22.wp F Q env w = HC.wp F (.seq (.reg (.done [(0, (.cst (.pointer none))), (1, (.cst (.slice none 0 0)))] none)) .ret) Q env w := rfl
def h33_23 : HC := (.seq (.br (.chk none (.eqNil false (.pointer 81) (.pointer none)) (.cons (.inp 3) .nil) (.done [] (some (.op (.eqNil false (.pointer 81) (.pointer none)) (.cons (.inp 3) .nil))))) h33_22 .skip) h33_21)
@[simp] theorem h33_23_wp {P : Program} {F : PF P} {Q : EX → List Value → World → Prop} {env : List Value} {w : World} : h33_23.wp F Q env w = HC.wp F (.seq (.br (.chk none (.eqNil false (.pointer 81) (.pointer none)) (.cons (.inp 3) .nil) (.done [] (some (.op (.eqNil false (.pointer 81) (.pointer none)) (.cons (.inp 3) .nil))))) h33_22 .skip) h33_21) Q env w := rfl
def h33_24 : HC := (.seq (.reg (.eff (.call 9) (.cons (.cst (.int .i64 3)) .nil) (.chk none (.ext 0) (.cons (.bv 0) .nil) (.chk none (.ext 1) (.cons (.bv 0) .nil) (.done [(3, (.op (.ext 0) (.cons (.bv 0) .nil))), (4, (.op (.ext 1) (.cons (.bv 0) .nil)))] none))))) h33_23)
@[simp] theorem h33_24_wp {P : Program} {F : PF P} {Q : EX → List Value → World → Prop} {env : List Value} {w : World} : h33_24.wp F Q env w = HC.wp F (.seq (.reg (.eff (.call 9) (.cons (.cst (.int .i64 3)) .nil) (.chk none (.ext 0) (.cons (.bv 0) .nil) (.chk none (.ext 1) (.cons (.bv 0) .nil) (.done [(3, (.op (.ext 0) (.cons (.bv 0) .nil))), (4, (.op (.ext 1) (.cons (.bv 0) .nil)))] none))))) h33_23) Q env w := rfl
def h33_25 : HC := (.seq (.reg (.done [(2, (.cst (.slice none 0 0)))] none)) h33_24)
@[simp] theorem h33_25_wp {P : Program} {F : PF P} {Q : EX → List Value → World → Prop} {env : List Value} {w : World} : h33_25.wp F Q env w = HC.wp F (.seq (.reg (.done [(2, (.cst (.slice none 0 0)))] none)) h33_24) Q env w := rfl
def l33 : Lifted := ⟨[0, 1, 2, 3, 4, 6, 7, 8, 9, 10, 11, 12, 13, 14, 15, 16, 17, 29, 30, 31], 92, [.slot 0, .slot 1], (.seq (.reg (.done [(0, (.cst (.pointer none))), (1, (.cst (.slice none 0 0)))] none)) h33_25)⟩
theorem l33_ok : liftFn U1 33 400 = some l33 := by kernel_rfl

-- bazaar/bazaarlaw14.awake
def h8_0 : HC := (.seq (.reg (.chk none (.eqNil true (.pointer 81) (.pointer none)) (.cons (.inp 1) .nil) (.bnd (.op (.eqNil true (.pointer 81) (.pointer none)) (.cons (.inp 1) .nil)) (.ite (.bv 0) true (.eff (.bsl 3 20 1 #[(.int .i64 0)] [0, 1, 2, 3, 4, 5, 6, 7, 8, 9, 10, 11, 12, 13, 14, 15, 16, 17, 18, 19]) (.cons (.cst (.int .i64 0)) (.cons (.cst (.int .i64 1)) (.cons (.cst (.int .i64 0)) (.cons (.cst (.int .i64 0)) (.cons (.cst (.int .i64 140)) (.cons (.cst (.int .i64 0)) (.cons (.cst (.int .i64 40)) (.cons (.cst (.int .i64 2)) (.cons (.cst (.int .i64 0)) (.cons (.cst (.int .i64 0)) (.cons (.cst (.int .i64 141)) (.cons (.cst (.int .i64 0)) (.cons (.cst (.int .i64 2)) (.cons (.cst (.int .i64 142)) (.cons (.cst (.int .i64 144)) (.cons (.cst (.int .i64 0)) (.cons (.cst (.int .i64 234)) (.cons (.cst (.int .i64 2)) (.cons (.cst (.int .i64 143)) (.cons (.cst (.int .i64 142)) .nil)))))))))))))))))))) (.eff (.call 38) (.cons (.ite (.bv 0) true (.inp 2) (.cst (.tuple #[]))) (.cons (.bv 1) .nil)) (.isb none (.bv 0) (.ite (.bv 2) true (.eff (.call 30) (.cons (.ite (.bv 2) true (.inp 1) (.cst (.tuple #[]))) .nil) (.chk none (.bin .eql) (.cons (.bv 3) (.cons (.cst (.int .u64 100)) .nil)) (.isb none (.bv 2) (.bnd (.op (.bin .eql) (.cons (.bv 3) (.cons (.cst (.int .u64 100)) .nil))) (.ite (.bv 4) true (.eff (.call 18) (.cons (.ite (.bv 4) true (.inp 1) (.cst (.tuple #[]))) .nil) (.chk none (.bin .eql) (.cons (.bv 5) (.cons (.cst (.int .i64 3)) .nil)) (.isb none (.bv 4) (.done [(0, (.op (.bin .eql) (.cons (.bv 5) (.cons (.cst (.int .i64 3)) .nil))))] none)))) (.isb none (.bv 4) (.done [(0, (.cst (.bool false)))] none))))))) (.isb none (.bv 2) (.isb none (.cst (.bool false)) (.done [(0, (.cst (.bool false)))] none))))))) (.isb none (.bv 0) (.isb none (.cst (.bool false)) (.isb none (.cst (.bool false)) (.done [(0, (.cst (.bool false)))] none)))))))) .ret)
@[simp] theorem h8_0_wp {P : Program} {F : PF P} {Q : EX → List Value → World → Prop} {env : List Value} {w : World} : h8_0.wp F Q env w = HC.wp F (.seq (.reg (.chk none (.eqNil true (.pointer 81) (.pointer none)) (.cons (.inp 1) .nil) (.bnd (.op (.eqNil true (.pointer 81) (.pointer none)) (.cons (.inp 1) .nil)) (.ite (.bv 0) true (.eff (.bsl 3 20 1 #[(.int .i64 0)] [0, 1, 2, 3, 4, 5, 6, 7, 8, 9, 10, 11, 12, 13, 14, 15, 16, 17, 18, 19]) (.cons (.cst (.int .i64 0)) (.cons (.cst (.int .i64 1)) (.cons (.cst (.int .i64 0)) (.cons (.cst (.int .i64 0)) (.cons (.cst (.int .i64 140)) (.cons (.cst (.int .i64 0)) (.cons (.cst (.int .i64 40)) (.cons (.cst (.int .i64 2)) (.cons (.cst (.int .i64 0)) (.cons (.cst (.int .i64 0)) (.cons (.cst (.int .i64 141)) (.cons (.cst (.int .i64 0)) (.cons (.cst (.int .i64 2)) (.cons (.cst (.int .i64 142)) (.cons (.cst (.int .i64 144)) (.cons (.cst (.int .i64 0)) (.cons (.cst (.int .i64 234)) (.cons (.cst (.int .i64 2)) (.cons (.cst (.int .i64 143)) (.cons (.cst (.int .i64 142)) .nil)))))))))))))))))))) (.eff (.call 38) (.cons (.ite (.bv 0) true (.inp 2) (.cst (.tuple #[]))) (.cons (.bv 1) .nil)) (.isb none (.bv 0) (.ite (.bv 2) true (.eff (.call 30) (.cons (.ite (.bv 2) true (.inp 1) (.cst (.tuple #[]))) .nil) (.chk none (.bin .eql) (.cons (.bv 3) (.cons (.cst (.int .u64 100)) .nil)) (.isb none (.bv 2) (.bnd (.op (.bin .eql) (.cons (.bv 3) (.cons (.cst (.int .u64 100)) .nil))) (.ite (.bv 4) true (.eff (.call 18) (.cons (.ite (.bv 4) true (.inp 1) (.cst (.tuple #[]))) .nil) (.chk none (.bin .eql) (.cons (.bv 5) (.cons (.cst (.int .i64 3)) .nil)) (.isb none (.bv 4) (.done [(0, (.op (.bin .eql) (.cons (.bv 5) (.cons (.cst (.int .i64 3)) .nil))))] none)))) (.isb none (.bv 4) (.done [(0, (.cst (.bool false)))] none))))))) (.isb none (.bv 2) (.isb none (.cst (.bool false)) (.done [(0, (.cst (.bool false)))] none))))))) (.isb none (.bv 0) (.isb none (.cst (.bool false)) (.isb none (.cst (.bool false)) (.done [(0, (.cst (.bool false)))] none)))))))) .ret) Q env w := rfl
def h8_1 : HC := (.seq (.reg (.eff (.call 33) .nil (.chk none (.ext 0) (.cons (.bv 0) .nil) (.chk none (.ext 1) (.cons (.bv 0) .nil) (.done [(1, (.op (.ext 0) (.cons (.bv 0) .nil))), (2, (.op (.ext 1) (.cons (.bv 0) .nil)))] none))))) h8_0)
@[simp] theorem h8_1_wp {P : Program} {F : PF P} {Q : EX → List Value → World → Prop} {env : List Value} {w : World} : h8_1.wp F Q env w = HC.wp F (.seq (.reg (.eff (.call 33) .nil (.chk none (.ext 0) (.cons (.bv 0) .nil) (.chk none (.ext 1) (.cons (.bv 0) .nil) (.done [(1, (.op (.ext 0) (.cons (.bv 0) .nil))), (2, (.op (.ext 1) (.cons (.bv 0) .nil)))] none))))) h8_0) Q env w := rfl
def l8 : Lifted := ⟨[0, 1, 2], 24, [.slot 0], (.seq (.reg (.done [(0, (.cst (.bool false)))] none)) h8_1)⟩
theorem l8_ok : liftFn U1 8 400 = some l8 := by kernel_rfl

-- bazaar/bazaarlaw14.ints
def h38_0 : HC := (.seq (.reg (.done [(2, (.cst (.bool true)))] none)) .ret)
@[simp] theorem h38_0_wp {P : Program} {F : PF P} {Q : EX → List Value → World → Prop} {env : List Value} {w : World} : h38_0.wp F Q env w = HC.wp F (.seq (.reg (.done [(2, (.cst (.bool true)))] none)) .ret) Q env w := rfl
def h38_1 : HC := (.reg (.chk none (.bin .add) (.cons (.inp 3) (.cons (.cst (.int .i64 1)) .nil)) (.done [(3, (.op (.bin .add) (.cons (.inp 3) (.cons (.cst (.int .i64 1)) .nil))))] none)))
@[simp] theorem h38_1_wp {P : Program} {F : PF P} {Q : EX → List Value → World → Prop} {env : List Value} {w : World} : h38_1.wp F Q env w = HC.wp F (.reg (.chk none (.bin .add) (.cons (.inp 3) (.cons (.cst (.int .i64 1)) .nil)) (.done [(3, (.op (.bin .add) (.cons (.inp 3) (.cons (.cst (.int .i64 1)) .nil))))] none))) Q env w := rfl
def h38_2 : HC := (.seq (.reg (.done [(2, (.cst (.bool false)))] none)) .ret)
@[simp] theorem h38_2_wp {P : Program} {F : PF P} {Q : EX → List Value → World → Prop} {env : List Value} {w : World} : h38_2.wp F Q env w = HC.wp F (.seq (.reg (.done [(2, (.cst (.bool false)))] none)) .ret) Q env w := rfl
def h38_3 : HC := (.brq (some 0) (.chk none (.idxL 1) (.cons (.inp 0) (.cons (.inp 3) .nil)) (.eff (.ld false 1) (.cons (.op (.idxL 1) (.cons (.inp 0) (.cons (.inp 3) .nil))) .nil) (.chk none (.idxL 1) (.cons (.inp 1) (.cons (.inp 3) .nil)) (.eff (.ld false 1) (.cons (.op (.idxL 1) (.cons (.inp 1) (.cons (.inp 3) .nil))) .nil) (.chk none (.bin .neq) (.cons (.bv 0) (.cons (.bv 1) .nil)) (.done [] (some (.op (.bin .neq) (.cons (.bv 0) (.cons (.bv 1) .nil)))))))))) h38_2 .skip)
@[simp] theorem h38_3_wp {P : Program} {F : PF P} {Q : EX → List Value → World → Prop} {env : List Value} {w : World} : h38_3.wp F Q env w = HC.wp F (.brq (some 0) (.chk none (.idxL 1) (.cons (.inp 0) (.cons (.inp 3) .nil)) (.eff (.ld false 1) (.cons (.op (.idxL 1) (.cons (.inp 0) (.cons (.inp 3) .nil))) .nil) (.chk none (.idxL 1) (.cons (.inp 1) (.cons (.inp 3) .nil)) (.eff (.ld false 1) (.cons (.op (.idxL 1) (.cons (.inp 1) (.cons (.inp 3) .nil))) .nil) (.chk none (.bin .neq) (.cons (.bv 0) (.cons (.bv 1) .nil)) (.done [] (some (.op (.bin .neq) (.cons (.bv 0) (.cons (.bv 1) .nil)))))))))) h38_2 .skip) Q env w := rfl
def h38_4 : HC := (.seq (.block 1 h38_3) h38_1)
@[simp] theorem h38_4_wp {P : Program} {F : PF P} {Q : EX → List Value → World → Prop} {env : List Value} {w : World} : h38_4.wp F Q env w = HC.wp F (.seq (.block 1 h38_3) h38_1) Q env w := rfl
def h38_5 : HC := (.seq (.br (.chk none .lenL (.cons (.inp 0) .nil) (.chk none (.bin .lss) (.cons (.inp 3) (.cons (.op .lenL (.cons (.inp 0) .nil)) .nil)) (.done [] (some (.op (.bin .lss) (.cons (.inp 3) (.cons (.op .lenL (.cons (.inp 0) .nil)) .nil))))))) .skip (.exit 0)) h38_4)
@[simp] theorem h38_5_wp {P : Program} {F : PF P} {Q : EX → List Value → World → Prop} {env : List Value} {w : World} : h38_5.wp F Q env w = HC.wp F (.seq (.br (.chk none .lenL (.cons (.inp 0) .nil) (.chk none (.bin .lss) (.cons (.inp 3) (.cons (.op .lenL (.cons (.inp 0) .nil)) .nil)) (.done [] (some (.op (.bin .lss) (.cons (.inp 3) (.cons (.op .lenL (.cons (.inp 0) .nil)) .nil))))))) .skip (.exit 0)) h38_4) Q env w := rfl
def h38_6 : HC := (.loop h38_5)
@[simp] theorem h38_6_wp {P : Program} {F : PF P} {Q : EX → List Value → World → Prop} {env : List Value} {w : World} : h38_6.wp F Q env w = HC.wp F (.loop h38_5) Q env w := rfl
def h38_7 : HC := (.seq (.block 0 h38_6) h38_0)
@[simp] theorem h38_7_wp {P : Program} {F : PF P} {Q : EX → List Value → World → Prop} {env : List Value} {w : World} : h38_7.wp F Q env w = HC.wp F (.seq (.block 0 h38_6) h38_0) Q env w := rfl
def h38_8 : HC := (.seq (.reg (.done [(3, (.cst (.int .i64 0)))] none)) h38_7)
@[simp] theorem h38_8_wp {P : Program} {F : PF P} {Q : EX → List Value → World → Prop} {env : List Value} {w : World} : h38_8.wp F Q env w = HC.wp F (.seq (.reg (.done [(3, (.cst (.int .i64 0)))] none)) h38_7) Q env w := rfl
def h38_9 : HC := (.seq (.reg (.done [(2, (.cst (.bool false)))] none)) .ret)
@[simp] theorem h38_9_wp {P : Program} {F : PF P} {Q : EX → List Value → World → Prop} {env : List Value} {w : World} : h38_9.wp F Q env w = HC.wp F (.seq (.reg (.done [(2, (.cst (.bool false)))] none)) .ret) Q env w := rfl
def h38_10 : HC := (.seq (.br (.chk none .lenL (.cons (.inp 0) .nil) (.chk none .lenL (.cons (.inp 1) .nil) (.chk none (.bin .neq) (.cons (.op .lenL (.cons (.inp 0) .nil)) (.cons (.op .lenL (.cons (.inp 1) .nil)) .nil)) (.done [] (some (.op (.bin .neq) (.cons (.op .lenL (.cons (.inp 0) .nil)) (.cons (.op .lenL (.cons (.inp 1) .nil)) .nil)))))))) h38_9 .skip) h38_8)
@[simp] theorem h38_10_wp {P : Program} {F : PF P} {Q : EX → List Value → World → Prop} {env : List Value} {w : World} : h38_10.wp F Q env w = HC.wp F (.seq (.br (.chk none .lenL (.cons (.inp 0) .nil) (.chk none .lenL (.cons (.inp 1) .nil) (.chk none (.bin .neq) (.cons (.op .lenL (.cons (.inp 0) .nil)) (.cons (.op .lenL (.cons (.inp 1) .nil)) .nil)) (.done [] (some (.op (.bin .neq) (.cons (.op .lenL (.cons (.inp 0) .nil)) (.cons (.op .lenL (.cons (.inp 1) .nil)) .nil)))))))) h38_9 .skip) h38_8) Q env w := rfl
def l38 : Lifted := ⟨[0, 1, 4, 5], 26, [.slot 2], (.seq (.reg (.done [(2, (.cst (.bool false)))] none)) h38_10)⟩
theorem l38_ok : liftFn U1 38 400 = some l38 := by kernel_rfl

-- bazaar/bazaarlaw14.rows
def h43_0 : HC := (.seq (.reg (.done [(2, (.cst (.bool true)))] none)) .ret)
@[simp] theorem h43_0_wp {P : Program} {F : PF P} {Q : EX → List Value → World → Prop} {env : List Value} {w : World} : h43_0.wp F Q env w = HC.wp F (.seq (.reg (.done [(2, (.cst (.bool true)))] none)) .ret) Q env w := rfl
def h43_1 : HC := (.reg (.chk none (.bin .add) (.cons (.inp 3) (.cons (.cst (.int .i64 1)) .nil)) (.done [(3, (.op (.bin .add) (.cons (.inp 3) (.cons (.cst (.int .i64 1)) .nil))))] none)))
@[simp] theorem h43_1_wp {P : Program} {F : PF P} {Q : EX → List Value → World → Prop} {env : List Value} {w : World} : h43_1.wp F Q env w = HC.wp F (.reg (.chk none (.bin .add) (.cons (.inp 3) (.cons (.cst (.int .i64 1)) .nil)) (.done [(3, (.op (.bin .add) (.cons (.inp 3) (.cons (.cst (.int .i64 1)) .nil))))] none))) Q env w := rfl
def h43_2 : HC := (.seq (.reg (.done [(2, (.cst (.bool false)))] none)) .ret)
@[simp] theorem h43_2_wp {P : Program} {F : PF P} {Q : EX → List Value → World → Prop} {env : List Value} {w : World} : h43_2.wp F Q env w = HC.wp F (.seq (.reg (.done [(2, (.cst (.bool false)))] none)) .ret) Q env w := rfl
def h43_3 : HC := (.brq (some 0) (.chk none (.idxL 2) (.cons (.inp 0) (.cons (.inp 3) .nil)) (.eff (.ld true 2) (.cons (.op (.idxL 2) (.cons (.inp 0) (.cons (.inp 3) .nil))) .nil) (.chk none (.idxL 2) (.cons (.inp 1) (.cons (.inp 3) .nil)) (.eff (.ld true 2) (.cons (.op (.idxL 2) (.cons (.inp 1) (.cons (.inp 3) .nil))) .nil) (.eff (.bin .neq 66 (.tmp 20) (.tmp 24)) (.cons (.bv 0) (.cons (.bv 1) .nil)) (.done [] (some (.bv 2)))))))) h43_2 .skip)
@[simp] theorem h43_3_wp {P : Program} {F : PF P} {Q : EX → List Value → World → Prop} {env : List Value} {w : World} : h43_3.wp F Q env w = HC.wp F (.brq (some 0) (.chk none (.idxL 2) (.cons (.inp 0) (.cons (.inp 3) .nil)) (.eff (.ld true 2) (.cons (.op (.idxL 2) (.cons (.inp 0) (.cons (.inp 3) .nil))) .nil) (.chk none (.idxL 2) (.cons (.inp 1) (.cons (.inp 3) .nil)) (.eff (.ld true 2) (.cons (.op (.idxL 2) (.cons (.inp 1) (.cons (.inp 3) .nil))) .nil) (.eff (.bin .neq 66 (.tmp 20) (.tmp 24)) (.cons (.bv 0) (.cons (.bv 1) .nil)) (.done [] (some (.bv 2)))))))) h43_2 .skip) Q env w := rfl
def h43_4 : HC := (.seq (.block 1 h43_3) h43_1)
@[simp] theorem h43_4_wp {P : Program} {F : PF P} {Q : EX → List Value → World → Prop} {env : List Value} {w : World} : h43_4.wp F Q env w = HC.wp F (.seq (.block 1 h43_3) h43_1) Q env w := rfl
def h43_5 : HC := (.seq (.br (.chk none .lenL (.cons (.inp 0) .nil) (.chk none (.bin .lss) (.cons (.inp 3) (.cons (.op .lenL (.cons (.inp 0) .nil)) .nil)) (.done [] (some (.op (.bin .lss) (.cons (.inp 3) (.cons (.op .lenL (.cons (.inp 0) .nil)) .nil))))))) .skip (.exit 0)) h43_4)
@[simp] theorem h43_5_wp {P : Program} {F : PF P} {Q : EX → List Value → World → Prop} {env : List Value} {w : World} : h43_5.wp F Q env w = HC.wp F (.seq (.br (.chk none .lenL (.cons (.inp 0) .nil) (.chk none (.bin .lss) (.cons (.inp 3) (.cons (.op .lenL (.cons (.inp 0) .nil)) .nil)) (.done [] (some (.op (.bin .lss) (.cons (.inp 3) (.cons (.op .lenL (.cons (.inp 0) .nil)) .nil))))))) .skip (.exit 0)) h43_4) Q env w := rfl
def h43_6 : HC := (.loop h43_5)
@[simp] theorem h43_6_wp {P : Program} {F : PF P} {Q : EX → List Value → World → Prop} {env : List Value} {w : World} : h43_6.wp F Q env w = HC.wp F (.loop h43_5) Q env w := rfl
def h43_7 : HC := (.seq (.block 0 h43_6) h43_0)
@[simp] theorem h43_7_wp {P : Program} {F : PF P} {Q : EX → List Value → World → Prop} {env : List Value} {w : World} : h43_7.wp F Q env w = HC.wp F (.seq (.block 0 h43_6) h43_0) Q env w := rfl
def h43_8 : HC := (.seq (.reg (.done [(3, (.cst (.int .i64 0)))] none)) h43_7)
@[simp] theorem h43_8_wp {P : Program} {F : PF P} {Q : EX → List Value → World → Prop} {env : List Value} {w : World} : h43_8.wp F Q env w = HC.wp F (.seq (.reg (.done [(3, (.cst (.int .i64 0)))] none)) h43_7) Q env w := rfl
def h43_9 : HC := (.seq (.reg (.done [(2, (.cst (.bool false)))] none)) .ret)
@[simp] theorem h43_9_wp {P : Program} {F : PF P} {Q : EX → List Value → World → Prop} {env : List Value} {w : World} : h43_9.wp F Q env w = HC.wp F (.seq (.reg (.done [(2, (.cst (.bool false)))] none)) .ret) Q env w := rfl
def h43_10 : HC := (.seq (.br (.chk none .lenL (.cons (.inp 0) .nil) (.chk none .lenL (.cons (.inp 1) .nil) (.chk none (.bin .neq) (.cons (.op .lenL (.cons (.inp 0) .nil)) (.cons (.op .lenL (.cons (.inp 1) .nil)) .nil)) (.done [] (some (.op (.bin .neq) (.cons (.op .lenL (.cons (.inp 0) .nil)) (.cons (.op .lenL (.cons (.inp 1) .nil)) .nil)))))))) h43_9 .skip) h43_8)
@[simp] theorem h43_10_wp {P : Program} {F : PF P} {Q : EX → List Value → World → Prop} {env : List Value} {w : World} : h43_10.wp F Q env w = HC.wp F (.seq (.br (.chk none .lenL (.cons (.inp 0) .nil) (.chk none .lenL (.cons (.inp 1) .nil) (.chk none (.bin .neq) (.cons (.op .lenL (.cons (.inp 0) .nil)) (.cons (.op .lenL (.cons (.inp 1) .nil)) .nil)) (.done [] (some (.op (.bin .neq) (.cons (.op .lenL (.cons (.inp 0) .nil)) (.cons (.op .lenL (.cons (.inp 1) .nil)) .nil)))))))) h43_9 .skip) h43_8) Q env w := rfl
def l43 : Lifted := ⟨[0, 1, 4, 5], 26, [.slot 2], (.seq (.reg (.done [(2, (.cst (.bool false)))] none)) h43_10)⟩
theorem l43_ok : liftFn U1 43 400 = some l43 := by kernel_rfl


def bdB (P : Ps) : Bool := decide (∀ x ∈ P.rows, 0 ≤ x.coins ∧ x.coins ≤ 4611686018427387904) && decide (0 ≤ P.held ∧ P.held ≤ 4611686018427387904) && decide (0 ≤ P.sup ∧ P.sup ≤ 4611686018427387904) && decide (P.rows.length ≤ 64)
theorem bd_of {P : Ps} (h : bdB P = true) : Bd P := by
  simp only [bdB, Bool.and_eq_true, decide_eq_true_eq] at h
  obtain ⟨⟨⟨h1, h2⟩, h3⟩, h4⟩ := h
  refine ⟨fun i hi => ?_, h2, h3, h4⟩
  have e : P.rows.getD i ⟨[], 0⟩ = P.rows[i] := by simp [hi]
  rw [e]
  exact h1 _ (List.getElem_mem hi)
def givN : List (List UInt8) := [[65, 110, 110], [65, 78, 78], [97, 32], [66, 111, 98], [67, 105, 100]]
def givS (x : List UInt8) (r : Ps × List Int) : Ps × List Int := ((openF r.1 x).2.2, r.2 ++ [(openF r.1 x).1, (openF r.1 x).2.1])
def giv : Nat → Ps × List Int
  | 0 => (⟨3, [⟨bankB, 0⟩], 0, 0⟩, [0])
  | n + 1 => givS (givN.getD n []) (giv n)
def G5 : Ps := ⟨3, [⟨bankB, 0⟩, ⟨[65, 110, 110], 0⟩, ⟨[66, 111, 98], 0⟩], 0, 0⟩
def G6 : Ps := ⟨3, [⟨bankB, 0⟩, ⟨[65, 110, 110], 100⟩, ⟨[66, 111, 98], 0⟩], 100, 0⟩
def G7 : Ps := ⟨3, [⟨bankB, 0⟩, ⟨[65, 110, 110], 70⟩, ⟨[66, 111, 98], 30⟩], 100, 0⟩
def givL : List Int := [0, 1, 0, 0, 140, 0, 40, 2, 0, 0, 141, 0, 2, 142, 144, 0, 234, 2, 143, 142]
theorem giv5 : giv 5 = (G5, [0, 1, 0, 0, 140, 0, 40, 2, 0, 0, 141]) := by decide +kernel
theorem giv_len : ∀ i, i < 6 → (giv i).1.rows.length ≤ 64 ∧ (giv i).2.length ≤ 64 := by decide +kernel
theorem givN_len : ∀ i, i < 5 → (givN.getD i []).length ≤ 1048576 := by decide +kernel
set_option maxHeartbeats 2000000 in
theorem given_spec (w0 w : World) (A : Asn) (s : St w0 A w) :
    CallW Try.prog 33 [] (fun r w' => ∃ p v, r = .tuple #[.pointer (some ⟨p, 0, none⟩), v] ∧ St w0 (A * pur p G7 * own 3 1 v 20 (ints givL)) w') w := by
  refine callW_of_lift l33_ok (by simp [l33]) ?_
  simp [l33]
  refine eff_call ((New_spec 3 w0 w A s).mono ?_)
  intro r w1 h1
  rw [if_pos (by decide)] at h1
  obtain ⟨p, rfl, s1⟩ := h1
  simp
  refine eff_bsl1 s1 rfl ?_
  intro b w2 s2
  simp
  refine eff_app (m := 1) (news := [.int .i64 0]) (s2.own_nil 3 1) rfl s2.cells_look (by simp [Value.oneCell']) (by decide) rfl (by decide) (by decide) ?_
  intro lv w3 s3
  have s3 : St w0 (A * pur p (giv 0).1 * own 3 1 lv (giv 0).2.length (ints (giv 0).2)) w3 := St.cut (pt b (.cells #[.int .i64 0] 3 (0, 0))) s3 (by show _ = A * pur p ⟨3, [⟨bankB, 0⟩], 0, 0⟩ * own 3 1 lv (0 + 1) ([] ++ [.int .i64 0]) * _; ac_rfl)
  clear s1 s2
  simp
  refine eff_bslO s3 (vs := [.string (mk [65, 110, 110]), .string (mk [65, 78, 78]), .string (mk [97, 32]), .string (mk [66, 111, 98]), .string (mk [67, 105, 100])]) (by simp [Value.oneCell']) rfl rfl (by decide) ?_
  intro nv w4 s4
  obtain ⟨ng, ncap, rfl, _, _⟩ := s4.own_at (by decide)
  simp
  have hgl : givN.length = 5 := rfl
  have e5 : [Value.string (mk [65, 110, 110]), .string (mk [65, 78, 78]), .string (mk [97, 32]), .string (mk [66, 111, 98]), .string (mk [67, 105, 100])] = givN.map (fun x => Value.string (mk x)) := rfl
  rw [e5] at s4
  refine loopI (fun env w' => ∃ (i : Nat) (lv o5 o6 o7 : Value), env = [.pointer none, .slice none 0 0, lv, .pointer (some ⟨p, 0, none⟩), .int .i64 0, o5, o6, o7, undef, undef, undef, undef, undef, undef, undef, undef, undef, .slice (some ⟨ng, 0, none⟩) 5 ncap, .int .i64 5, .int .i64 i] ∧ i ≤ 5 ∧
      St w0 (A * pur p (giv i).1 * own 3 1 lv (giv i).2.length (ints (giv i).2) * own 9 1 (.slice (some ⟨ng, 0, none⟩) 5 ncap) 5 (givN.map (fun x => Value.string (mk x)))) w')
    (fun env _ => 5 - slotN env 19) ⟨0, _, _, _, _, rfl, by omega, s4⟩ ?_
  clear s4 s3 s
  rintro LQ env w' ⟨i, lv, o5, o6, o7, rfl, hi, s⟩ hN hE hR
  simp
  refine cndI (fun h => ?_) (fun h => ?_)
  · have h0 := h
    simp at h0
    simp at h
    have h : i < 5 := by omega
    obtain ⟨_, _, hv, _, hcell⟩ := s.own_at (by decide)
    cases hv
    obtain ⟨hln, hll⟩ := giv_len i (by omega)
    have hxl := givN_len i h
    have hlk : (givN.map (fun x => Value.string (mk x)))[i]? = some (.string (mk (givN.getD i []))) := by
      rw [List.getElem?_map, List.getElem?_eq_getElem (by omega)]
      simp [hgl, h]
    obtain ⟨x, hx⟩ : ∃ x, givN.getD i [] = x := ⟨_, rfl⟩
    rw [hx] at hxl hlk
    simp [h0]
    refine eff_ldc (hcell i _ hlk) ?_
    simp
    refine eff_call ((Open_spec p (giv i).1 x w0 w' (A * own 3 1 lv (giv i).2.length (ints (giv i).2) * own 9 1 (.slice (some ⟨ng, 0, none⟩) 5 ncap) 5 (givN.map (fun x => Value.string (mk x)))) hxl (by omega) (s.to (by ac_rfl))).mono ?_)
    rintro r w2 ⟨rfl, s2⟩
    simp
    refine eff_bslO s2 (vs := [.int .i64 (openF (giv i).1 x).1, .int .i64 (openF (giv i).1 x).2.1]) (by simp [Value.oneCell']) rfl rfl (by decide) ?_
    intro pv w3 s3
    simp
    refine eff_appR (s3.to (B := A * own 9 1 (.slice (some ⟨ng, 0, none⟩) 5 ncap) 5 (givN.map (fun x => Value.string (mk x))) * pur p (openF (giv i).1 x).2.2 * own 3 1 pv 2 [.int .i64 (openF (giv i).1 x).1, .int .i64 (openF (giv i).1 x).2.1] * own 3 1 lv (giv i).2.length (ints (giv i).2)) (by ac_rfl)) (row_in (e := 3) (B := A * own 9 1 (.slice (some ⟨ng, 0, none⟩) 5 ncap) 5 (givN.map (fun x => Value.string (mk x))) * pur p (openF (giv i).1 x).2.2 * own 3 1 lv (giv i).2.length (ints (giv i).2)) (s3.to (by ac_rfl)) (by ac_rfl)) (by simp [Value.oneCell']) (by decide) rfl (by unfold maxLen; omega) (by omega) ?_
    intro lv2 w4 s4
    simp
    try simp (disch := omega) only [wrap64]
    refine hN _ _ ⟨i + 1, lv2, _, _, _, by simp; exact ⟨rfl, rfl, rfl⟩, by omega, ?_⟩ (by simp [slotN]; omega)
    have e1 : giv (i + 1) = ((openF (giv i).1 x).2.2, (giv i).2 ++ [(openF (giv i).1 x).1, (openF (giv i).1 x).2.1]) := by rw [giv, hx]; rfl
    rw [e1]
    refine St.cut (own 3 1 pv 2 [.int .i64 (openF (giv i).1 x).1, .int .i64 (openF (giv i).1 x).2.1]) s4 ?_
    simp only [List.length_append, ints, List.map_append, List.map_cons, List.map_nil, List.length_cons, List.length_nil]
    ac_rfl
  simp at h
  simp
  refine hE _ _ _ ?_
  simp
  have hie : i = 5 := by omega
  subst hie
  rw [giv5] at s
  have s1 := s.drop
  clear s
  generalize hL0 : ([0, 1, 0, 0, 140, 0, 40, 2, 0, 0, 141] : List Int) = L0 at s1
  have hl0 : L0.length = 11 := by rw [← hL0]; rfl
  rw [hl0] at s1
  obtain ⟨x0, hx0⟩ : ∃ x, w' = x := ⟨_, rfl⟩
  rw [hx0] at s1 ⊢
  have t0 := s1.swap
  clear s1
  refine eff_call ((Mint_spec p G5 1 100 w0 x0 (A * own 3 1 lv 11 (ints L0)) (bd_of (by decide +kernel)) (by decide) t0).mono ?_)
  rintro r x1 ⟨rfl, t1⟩
  rw [show mintF G5 1 100 = (0, G6) by decide +kernel] at t1 ⊢
  simp
  refine eff_call ((Mint_spec p G6 1 0 w0 x1 (A * own 3 1 lv 11 (ints L0)) (bd_of (by decide +kernel)) (by decide) t1).mono ?_)
  rintro r x2 ⟨rfl, t2⟩
  rw [show mintF G6 1 0 = (2, G6) by decide +kernel] at t2 ⊢
  simp
  refine eff_call ((Mint_spec p G6 3 1 w0 x2 (A * own 3 1 lv 11 (ints L0)) (bd_of (by decide +kernel)) (by decide) t2).mono ?_)
  rintro r x3 ⟨rfl, t3⟩
  rw [show mintF G6 3 1 = (142, G6) by decide +kernel] at t3 ⊢
  simp
  refine eff_call ((Mint_spec p G6 0 4611686018427387805 w0 x3 (A * own 3 1 lv 11 (ints L0)) (bd_of (by decide +kernel)) (by decide) t3).mono ?_)
  rintro r x4 ⟨rfl, t4⟩
  rw [show mintF G6 0 4611686018427387805 = (144, G6) by decide +kernel] at t4 ⊢
  simp
  refine eff_bslO t4 (vs := [.int .i64 0, .int .i64 2, .int .i64 142, .int .i64 144]) (by simp [Value.oneCell']) rfl rfl (by decide) ?_
  intro pv y1 u1
  simp
  refine eff_appR (u1.to (B := A * pur p G6 * own 3 1 pv 4 [.int .i64 0, .int .i64 2, .int .i64 142, .int .i64 144] * own 3 1 lv 11 (ints L0)) (by ac_rfl)) (row_in (e := 3) (B := A * pur p G6 * own 3 1 lv 11 (ints L0)) (u1.to (by ac_rfl)) (by ac_rfl)) (by simp [Value.oneCell']) (by decide) rfl (by decide) (by decide) ?_
  intro lv2 y2 u2
  simp
  obtain ⟨L1, hL1⟩ : ∃ L1, L1 = L0 ++ [0, 2, 142, 144] := ⟨_, rfl⟩
  have v0 : St w0 (A * own 3 1 lv2 15 (ints L1) * pur p G6) y2 := St.cut (own 3 1 pv 4 [.int .i64 0, .int .i64 2, .int .i64 142, .int .i64 144]) u2 (by rw [hL1]; simp only [ints, List.map_append, List.map_cons, List.map_nil]; ac_rfl)
  clear u1 u2 t0 t1 t2 t3 t4
  refine eff_call ((Pay_spec p G6 1 2 30 w0 y2 (A * own 3 1 lv2 15 (ints L1)) (bd_of (by decide +kernel)) (by decide) v0).mono ?_)
  rintro r z1 ⟨rfl, v1⟩
  rw [show payF G6 1 2 30 = (0, G7) by decide +kernel] at v1 ⊢
  simp
  refine eff_call ((Pay_spec p G7 1 1 1 w0 z1 (A * own 3 1 lv2 15 (ints L1)) (bd_of (by decide +kernel)) (by decide) v1).mono ?_)
  rintro r z2 ⟨rfl, v2⟩
  rw [show payF G7 1 1 1 = (234, G7) by decide +kernel] at v2 ⊢
  simp
  refine eff_call ((Pay_spec p G7 1 2 0 w0 z2 (A * own 3 1 lv2 15 (ints L1)) (bd_of (by decide +kernel)) (by decide) v2).mono ?_)
  rintro r z3 ⟨rfl, v3⟩
  rw [show payF G7 1 2 0 = (2, G7) by decide +kernel] at v3 ⊢
  simp
  refine eff_call ((Pay_spec p G7 1 2 71 w0 z3 (A * own 3 1 lv2 15 (ints L1)) (bd_of (by decide +kernel)) (by decide) v3).mono ?_)
  rintro r z4 ⟨rfl, v4⟩
  rw [show payF G7 1 2 71 = (143, G7) by decide +kernel] at v4 ⊢
  simp
  refine eff_call ((Pay_spec p G7 1 3 0 w0 z4 (A * own 3 1 lv2 15 (ints L1)) (bd_of (by decide +kernel)) (by decide) v4).mono ?_)
  rintro r z5 ⟨rfl, v5⟩
  rw [show payF G7 1 3 0 = (142, G7) by decide +kernel] at v5 ⊢
  simp
  refine eff_bslO v5 (vs := [.int .i64 0, .int .i64 234, .int .i64 2, .int .i64 143, .int .i64 142]) (by simp [Value.oneCell']) rfl rfl (by decide) ?_
  intro pv2 y3 u3
  simp
  refine eff_appR (u3.to (B := A * pur p G7 * own 3 1 pv2 5 [.int .i64 0, .int .i64 234, .int .i64 2, .int .i64 143, .int .i64 142] * own 3 1 lv2 15 (ints L1)) (by ac_rfl)) (row_in (e := 3) (B := A * pur p G7 * own 3 1 lv2 15 (ints L1)) (u3.to (by ac_rfl)) (by ac_rfl)) (by simp [Value.oneCell']) (by decide) rfl (by decide) (by decide) ?_
  intro lv3 y4 u4
  simp
  have e : givL = L1 ++ [0, 234, 2, 143, 142] := by rw [hL1, ← hL0]; rfl
  refine ⟨p, lv3, ⟨rfl, rfl⟩, St.cut (own 3 1 pv2 5 [.int .i64 0, .int .i64 234, .int .i64 2, .int .i64 143, .int .i64 142]) u4 ?_⟩
  rw [e]
  simp only [ints, List.map_append, List.map_cons, List.map_nil]
  ac_rfl
end Go.HL.Pu
