/-
  More functions that only compute: HasPrefix, Letter, at, looks: each answers what its plain law says. Conditions: the place lies in the text, the text within the bound, the rune the decoder's own.
-/
import Derived.Test.YtliofpihaemglaaNmD
namespace Go.HL.Nm
open Go.HL Go.Proofs
set_option maxRecDepth 4000
set_option linter.unusedSimpArgs false
set_option linter.unusedVariables false
noncomputable def inS : PS Try.prog where
  f := 90
  val args := match args with
    | [.int _ u, .int _ lo, .int _ hi] => .bool (inF u lo hi)
    | _ => undef
  ok args := match args with
    | [.int k _, .int k' _, .int k'' _] => k = .i64 ∧ k' = .i64 ∧ k'' = .i64
    | _ => False
  sound args w h := by
    split at h
    · obtain ⟨rfl, rfl, rfl⟩ := h; exact in_spec _ _ _ w
    · exact h.elim
noncomputable def rjoinerS : PS Try.prog := PS.ib 81 .i64 joinerF rjoiner_spec
noncomputable def joinerS : PS Try.prog := PS.ib 46 .i32 joinerF joiner_spec
noncomputable def letterS : PS Try.prog := PS.ib 45 .i32 letterF letter_spec
noncomputable def slhpS : PS Try.prog where
  f := 87
  val args := match args with
    | [.string s, .string p] => .bool (p.data.toList.isPrefixOf s.data.toList)
    | _ => undef
  ok args := match args with
    | [.string s, .string _] => s.data.toList.length ≤ 1048576
    | _ => False
  sound args w h := by
    split at h
    · rename_i s p
      have := slhp_spec s.data.toList p.data.toList w h
      rw [← mk_eta, ← mk_eta] at this
      exact this
    · exact h.elim
noncomputable abbrev F2 : PF Try.prog := PF.of [oneS, inS, rjoinerS, joinerS, letterS, slhpS]
@[simp] theorem F2_in_val (args : List Value) : F2.val 90 args = inS.val args := rfl
@[simp] theorem F2_in_ok (args : List Value) : F2.ok 90 args = inS.ok args := rfl
@[simp] theorem F2_hp_val (args : List Value) : F2.val 87 args = slhpS.val args := rfl
@[simp] theorem F2_hp_ok (args : List Value) : F2.ok 87 args = slhpS.ok args := rfl
-- bazaar/bazaarref04.Letter
def h82_0 : HC := (.seq (.reg (.chk none (.cal 90) (.cons (.inp 0) (.cons (.cst (.int .i64 48)) (.cons (.cst (.int .i64 57)) .nil))) (.bnd (.op (.cal 90) (.cons (.inp 0) (.cons (.cst (.int .i64 48)) (.cons (.cst (.int .i64 57)) .nil)))) (.chk (some ((.bv 0), false)) (.cal 90) (.cons (.inp 0) (.cons (.cst (.int .i64 65)) (.cons (.cst (.int .i64 90)) .nil))) (.isb none (.bv 0) (.bnd (.ite (.bv 0) true (.cst (.bool true)) (.op (.cal 90) (.cons (.inp 0) (.cons (.cst (.int .i64 65)) (.cons (.cst (.int .i64 90)) .nil))))) (.chk (some ((.bv 1), false)) (.cal 90) (.cons (.inp 0) (.cons (.cst (.int .i64 97)) (.cons (.cst (.int .i64 122)) .nil))) (.isb none (.bv 1) (.bnd (.ite (.bv 1) true (.cst (.bool true)) (.op (.cal 90) (.cons (.inp 0) (.cons (.cst (.int .i64 97)) (.cons (.cst (.int .i64 122)) .nil))))) (.chk (some ((.bv 2), false)) (.cal 90) (.cons (.inp 0) (.cons (.cst (.int .i64 192)) (.cons (.cst (.int .i64 255)) .nil))) (.isb none (.bv 2) (.bnd (.ite (.bv 2) true (.cst (.bool true)) (.op (.cal 90) (.cons (.inp 0) (.cons (.cst (.int .i64 192)) (.cons (.cst (.int .i64 255)) .nil))))) (.chk (some ((.bv 3), false)) (.cal 90) (.cons (.inp 0) (.cons (.cst (.int .i64 913)) (.cons (.cst (.int .i64 937)) .nil))) (.isb none (.bv 3) (.bnd (.ite (.bv 3) true (.cst (.bool true)) (.op (.cal 90) (.cons (.inp 0) (.cons (.cst (.int .i64 913)) (.cons (.cst (.int .i64 937)) .nil))))) (.chk (some ((.bv 4), false)) (.cal 90) (.cons (.inp 0) (.cons (.cst (.int .i64 945)) (.cons (.cst (.int .i64 969)) .nil))) (.isb none (.bv 4) (.bnd (.ite (.bv 4) true (.cst (.bool true)) (.op (.cal 90) (.cons (.inp 0) (.cons (.cst (.int .i64 945)) (.cons (.cst (.int .i64 969)) .nil))))) (.chk (some ((.bv 5), false)) (.bin .eql) (.cons (.inp 0) (.cons (.cst (.int .i64 1025)) .nil)) (.isb none (.bv 5) (.bnd (.ite (.bv 5) true (.cst (.bool true)) (.op (.bin .eql) (.cons (.inp 0) (.cons (.cst (.int .i64 1025)) .nil)))) (.chk (some ((.bv 6), false)) (.cal 90) (.cons (.inp 0) (.cons (.cst (.int .i64 1040)) (.cons (.cst (.int .i64 1103)) .nil))) (.isb none (.bv 6) (.bnd (.ite (.bv 6) true (.cst (.bool true)) (.op (.cal 90) (.cons (.inp 0) (.cons (.cst (.int .i64 1040)) (.cons (.cst (.int .i64 1103)) .nil))))) (.chk (some ((.bv 7), false)) (.bin .eql) (.cons (.inp 0) (.cons (.cst (.int .i64 1105)) .nil)) (.isb none (.bv 7) (.done [(1, (.ite (.bv 7) true (.cst (.bool true)) (.op (.bin .eql) (.cons (.inp 0) (.cons (.cst (.int .i64 1105)) .nil)))))] none))))))))))))))))))))))))))) .ret)
@[simp] theorem h82_0_wp {P : Program} {F : PF P} {Q : EX → List Value → World → Prop} {env : List Value} {w : World} : h82_0.wp F Q env w = HC.wp F (.seq (.reg (.chk none (.cal 90) (.cons (.inp 0) (.cons (.cst (.int .i64 48)) (.cons (.cst (.int .i64 57)) .nil))) (.bnd (.op (.cal 90) (.cons (.inp 0) (.cons (.cst (.int .i64 48)) (.cons (.cst (.int .i64 57)) .nil)))) (.chk (some ((.bv 0), false)) (.cal 90) (.cons (.inp 0) (.cons (.cst (.int .i64 65)) (.cons (.cst (.int .i64 90)) .nil))) (.isb none (.bv 0) (.bnd (.ite (.bv 0) true (.cst (.bool true)) (.op (.cal 90) (.cons (.inp 0) (.cons (.cst (.int .i64 65)) (.cons (.cst (.int .i64 90)) .nil))))) (.chk (some ((.bv 1), false)) (.cal 90) (.cons (.inp 0) (.cons (.cst (.int .i64 97)) (.cons (.cst (.int .i64 122)) .nil))) (.isb none (.bv 1) (.bnd (.ite (.bv 1) true (.cst (.bool true)) (.op (.cal 90) (.cons (.inp 0) (.cons (.cst (.int .i64 97)) (.cons (.cst (.int .i64 122)) .nil))))) (.chk (some ((.bv 2), false)) (.cal 90) (.cons (.inp 0) (.cons (.cst (.int .i64 192)) (.cons (.cst (.int .i64 255)) .nil))) (.isb none (.bv 2) (.bnd (.ite (.bv 2) true (.cst (.bool true)) (.op (.cal 90) (.cons (.inp 0) (.cons (.cst (.int .i64 192)) (.cons (.cst (.int .i64 255)) .nil))))) (.chk (some ((.bv 3), false)) (.cal 90) (.cons (.inp 0) (.cons (.cst (.int .i64 913)) (.cons (.cst (.int .i64 937)) .nil))) (.isb none (.bv 3) (.bnd (.ite (.bv 3) true (.cst (.bool true)) (.op (.cal 90) (.cons (.inp 0) (.cons (.cst (.int .i64 913)) (.cons (.cst (.int .i64 937)) .nil))))) (.chk (some ((.bv 4), false)) (.cal 90) (.cons (.inp 0) (.cons (.cst (.int .i64 945)) (.cons (.cst (.int .i64 969)) .nil))) (.isb none (.bv 4) (.bnd (.ite (.bv 4) true (.cst (.bool true)) (.op (.cal 90) (.cons (.inp 0) (.cons (.cst (.int .i64 945)) (.cons (.cst (.int .i64 969)) .nil))))) (.chk (some ((.bv 5), false)) (.bin .eql) (.cons (.inp 0) (.cons (.cst (.int .i64 1025)) .nil)) (.isb none (.bv 5) (.bnd (.ite (.bv 5) true (.cst (.bool true)) (.op (.bin .eql) (.cons (.inp 0) (.cons (.cst (.int .i64 1025)) .nil)))) (.chk (some ((.bv 6), false)) (.cal 90) (.cons (.inp 0) (.cons (.cst (.int .i64 1040)) (.cons (.cst (.int .i64 1103)) .nil))) (.isb none (.bv 6) (.bnd (.ite (.bv 6) true (.cst (.bool true)) (.op (.cal 90) (.cons (.inp 0) (.cons (.cst (.int .i64 1040)) (.cons (.cst (.int .i64 1103)) .nil))))) (.chk (some ((.bv 7), false)) (.bin .eql) (.cons (.inp 0) (.cons (.cst (.int .i64 1105)) .nil)) (.isb none (.bv 7) (.done [(1, (.ite (.bv 7) true (.cst (.bool true)) (.op (.bin .eql) (.cons (.inp 0) (.cons (.cst (.int .i64 1105)) .nil)))))] none))))))))))))))))))))))))))) .ret) Q env w := rfl
def h82_1 : HC := (.seq (.reg (.done [(1, (.cst (.bool false)))] none)) .ret)
@[simp] theorem h82_1_wp {P : Program} {F : PF P} {Q : EX → List Value → World → Prop} {env : List Value} {w : World} : h82_1.wp F Q env w = HC.wp F (.seq (.reg (.done [(1, (.cst (.bool false)))] none)) .ret) Q env w := rfl
def h82_2 : HC := (.seq (.br (.chk none (.bin .eql) (.cons (.inp 0) (.cons (.cst (.int .i64 215)) .nil)) (.bnd (.op (.bin .eql) (.cons (.inp 0) (.cons (.cst (.int .i64 215)) .nil))) (.chk (some ((.bv 0), false)) (.bin .eql) (.cons (.inp 0) (.cons (.cst (.int .i64 247)) .nil)) (.isb none (.bv 0) (.bnd (.ite (.bv 0) true (.cst (.bool true)) (.op (.bin .eql) (.cons (.inp 0) (.cons (.cst (.int .i64 247)) .nil)))) (.chk (some ((.bv 1), false)) (.bin .eql) (.cons (.inp 0) (.cons (.cst (.int .i64 930)) .nil)) (.isb none (.bv 1) (.done [] (some (.ite (.bv 1) true (.cst (.bool true)) (.op (.bin .eql) (.cons (.inp 0) (.cons (.cst (.int .i64 930)) .nil))))))))))))) h82_1 .skip) h82_0)
@[simp] theorem h82_2_wp {P : Program} {F : PF P} {Q : EX → List Value → World → Prop} {env : List Value} {w : World} : h82_2.wp F Q env w = HC.wp F (.seq (.br (.chk none (.bin .eql) (.cons (.inp 0) (.cons (.cst (.int .i64 215)) .nil)) (.bnd (.op (.bin .eql) (.cons (.inp 0) (.cons (.cst (.int .i64 215)) .nil))) (.chk (some ((.bv 0), false)) (.bin .eql) (.cons (.inp 0) (.cons (.cst (.int .i64 247)) .nil)) (.isb none (.bv 0) (.bnd (.ite (.bv 0) true (.cst (.bool true)) (.op (.bin .eql) (.cons (.inp 0) (.cons (.cst (.int .i64 247)) .nil)))) (.chk (some ((.bv 1), false)) (.bin .eql) (.cons (.inp 0) (.cons (.cst (.int .i64 930)) .nil)) (.isb none (.bv 1) (.done [] (some (.ite (.bv 1) true (.cst (.bool true)) (.op (.bin .eql) (.cons (.inp 0) (.cons (.cst (.int .i64 930)) .nil))))))))))))) h82_1 .skip) h82_0) Q env w := rfl
def l82 : Lifted := ⟨[0, 2], 47, [.slot 1], (.seq (.reg (.done [(1, (.cst (.bool false)))] none)) h82_2)⟩
theorem l82_ok : liftFn F2 82 400 = some l82 := by kernel_rfl

-- strings.HasPrefix
def h76_0 : HC := (.seq (.reg (.chk none (.cal 87) (.cons (.inp 0) (.cons (.inp 1) .nil)) (.done [(2, (.op (.cal 87) (.cons (.inp 0) (.cons (.inp 1) .nil))))] none))) .ret)
@[simp] theorem h76_0_wp {P : Program} {F : PF P} {Q : EX → List Value → World → Prop} {env : List Value} {w : World} : h76_0.wp F Q env w = HC.wp F (.seq (.reg (.chk none (.cal 87) (.cons (.inp 0) (.cons (.inp 1) .nil)) (.done [(2, (.op (.cal 87) (.cons (.inp 0) (.cons (.inp 1) .nil))))] none))) .ret) Q env w := rfl
def l76 : Lifted := ⟨[0, 1, 4], 8, [.slot 2], (.seq (.reg (.done [(2, (.cst (.bool false)))] none)) h76_0)⟩
theorem l76_ok : liftFn F2 76 400 = some l76 := by kernel_rfl

-- bazaar/bazaarref04.looks
def h93_0 : HC := (.seq (.reg (.done [(1, (.inp 0))] none)) .ret)
@[simp] theorem h93_0_wp {P : Program} {F : PF P} {Q : EX → List Value → World → Prop} {env : List Value} {w : World} : h93_0.wp F Q env w = HC.wp F (.seq (.reg (.done [(1, (.inp 0))] none)) .ret) Q env w := rfl
def h93_1 : HC := (.seq (.reg (.done [(1, (.cst (.int .i64 111)))] none)) .ret)
@[simp] theorem h93_1_wp {P : Program} {F : PF P} {Q : EX → List Value → World → Prop} {env : List Value} {w : World} : h93_1.wp F Q env w = HC.wp F (.seq (.reg (.done [(1, (.cst (.int .i64 111)))] none)) .ret) Q env w := rfl
def h93_2 : HC := (.seq (.reg (.done [(1, (.cst (.int .i64 108)))] none)) .ret)
@[simp] theorem h93_2_wp {P : Program} {F : PF P} {Q : EX → List Value → World → Prop} {env : List Value} {w : World} : h93_2.wp F Q env w = HC.wp F (.seq (.reg (.done [(1, (.cst (.int .i64 108)))] none)) .ret) Q env w := rfl
def h93_3 : HC := (.seq (.reg (.done [(1, (.cst (.int .i64 97)))] none)) .ret)
@[simp] theorem h93_3_wp {P : Program} {F : PF P} {Q : EX → List Value → World → Prop} {env : List Value} {w : World} : h93_3.wp F Q env w = HC.wp F (.seq (.reg (.done [(1, (.cst (.int .i64 97)))] none)) .ret) Q env w := rfl
def h93_4 : HC := (.seq (.reg (.done [(1, (.cst (.int .i64 99)))] none)) .ret)
@[simp] theorem h93_4_wp {P : Program} {F : PF P} {Q : EX → List Value → World → Prop} {env : List Value} {w : World} : h93_4.wp F Q env w = HC.wp F (.seq (.reg (.done [(1, (.cst (.int .i64 99)))] none)) .ret) Q env w := rfl
def h93_5 : HC := (.seq (.reg (.done [(1, (.cst (.int .i64 101)))] none)) .ret)
@[simp] theorem h93_5_wp {P : Program} {F : PF P} {Q : EX → List Value → World → Prop} {env : List Value} {w : World} : h93_5.wp F Q env w = HC.wp F (.seq (.reg (.done [(1, (.cst (.int .i64 101)))] none)) .ret) Q env w := rfl
def h93_6 : HC := (.seq (.reg (.done [(1, (.cst (.int .i64 105)))] none)) .ret)
@[simp] theorem h93_6_wp {P : Program} {F : PF P} {Q : EX → List Value → World → Prop} {env : List Value} {w : World} : h93_6.wp F Q env w = HC.wp F (.seq (.reg (.done [(1, (.cst (.int .i64 105)))] none)) .ret) Q env w := rfl
def h93_7 : HC := (.seq (.reg (.done [(1, (.cst (.int .i64 107)))] none)) .ret)
@[simp] theorem h93_7_wp {P : Program} {F : PF P} {Q : EX → List Value → World → Prop} {env : List Value} {w : World} : h93_7.wp F Q env w = HC.wp F (.seq (.reg (.done [(1, (.cst (.int .i64 107)))] none)) .ret) Q env w := rfl
def h93_8 : HC := (.seq (.reg (.done [(1, (.cst (.int .i64 110)))] none)) .ret)
@[simp] theorem h93_8_wp {P : Program} {F : PF P} {Q : EX → List Value → World → Prop} {env : List Value} {w : World} : h93_8.wp F Q env w = HC.wp F (.seq (.reg (.done [(1, (.cst (.int .i64 110)))] none)) .ret) Q env w := rfl
def h93_9 : HC := (.seq (.reg (.done [(1, (.cst (.int .i64 112)))] none)) .ret)
@[simp] theorem h93_9_wp {P : Program} {F : PF P} {Q : EX → List Value → World → Prop} {env : List Value} {w : World} : h93_9.wp F Q env w = HC.wp F (.seq (.reg (.done [(1, (.cst (.int .i64 112)))] none)) .ret) Q env w := rfl
def h93_10 : HC := (.seq (.reg (.done [(1, (.cst (.int .i64 116)))] none)) .ret)
@[simp] theorem h93_10_wp {P : Program} {F : PF P} {Q : EX → List Value → World → Prop} {env : List Value} {w : World} : h93_10.wp F Q env w = HC.wp F (.seq (.reg (.done [(1, (.cst (.int .i64 116)))] none)) .ret) Q env w := rfl
def h93_11 : HC := (.seq (.reg (.done [(1, (.cst (.int .i64 117)))] none)) .ret)
@[simp] theorem h93_11_wp {P : Program} {F : PF P} {Q : EX → List Value → World → Prop} {env : List Value} {w : World} : h93_11.wp F Q env w = HC.wp F (.seq (.reg (.done [(1, (.cst (.int .i64 117)))] none)) .ret) Q env w := rfl
def h93_12 : HC := (.seq (.reg (.done [(1, (.cst (.int .i64 118)))] none)) .ret)
@[simp] theorem h93_12_wp {P : Program} {F : PF P} {Q : EX → List Value → World → Prop} {env : List Value} {w : World} : h93_12.wp F Q env w = HC.wp F (.seq (.reg (.done [(1, (.cst (.int .i64 118)))] none)) .ret) Q env w := rfl
def h93_13 : HC := (.seq (.reg (.done [(1, (.cst (.int .i64 120)))] none)) .ret)
@[simp] theorem h93_13_wp {P : Program} {F : PF P} {Q : EX → List Value → World → Prop} {env : List Value} {w : World} : h93_13.wp F Q env w = HC.wp F (.seq (.reg (.done [(1, (.cst (.int .i64 120)))] none)) .ret) Q env w := rfl
def h93_14 : HC := (.seq (.reg (.done [(1, (.cst (.int .i64 121)))] none)) .ret)
@[simp] theorem h93_14_wp {P : Program} {F : PF P} {Q : EX → List Value → World → Prop} {env : List Value} {w : World} : h93_14.wp F Q env w = HC.wp F (.seq (.reg (.done [(1, (.cst (.int .i64 121)))] none)) .ret) Q env w := rfl
def h93_15 : HC := (.seq (.reg (.done [(1, (.cst (.int .i64 45)))] none)) .ret)
@[simp] theorem h93_15_wp {P : Program} {F : PF P} {Q : EX → List Value → World → Prop} {env : List Value} {w : World} : h93_15.wp F Q env w = HC.wp F (.seq (.reg (.done [(1, (.cst (.int .i64 45)))] none)) .ret) Q env w := rfl
def h93_16 : HC := (.br (.chk none (.bin .eql) (.cons (.inp 0) (.cons (.cst (.int .i64 32)) .nil)) (.bnd (.op (.bin .eql) (.cons (.inp 0) (.cons (.cst (.int .i64 32)) .nil))) (.chk (some ((.bv 0), false)) (.bin .eql) (.cons (.inp 0) (.cons (.cst (.int .i64 95)) .nil)) (.isb none (.bv 0) (.done [] (some (.ite (.bv 0) true (.cst (.bool true)) (.op (.bin .eql) (.cons (.inp 0) (.cons (.cst (.int .i64 95)) .nil)))))))))) h93_15 .skip)
@[simp] theorem h93_16_wp {P : Program} {F : PF P} {Q : EX → List Value → World → Prop} {env : List Value} {w : World} : h93_16.wp F Q env w = HC.wp F (.br (.chk none (.bin .eql) (.cons (.inp 0) (.cons (.cst (.int .i64 32)) .nil)) (.bnd (.op (.bin .eql) (.cons (.inp 0) (.cons (.cst (.int .i64 32)) .nil))) (.chk (some ((.bv 0), false)) (.bin .eql) (.cons (.inp 0) (.cons (.cst (.int .i64 95)) .nil)) (.isb none (.bv 0) (.done [] (some (.ite (.bv 0) true (.cst (.bool true)) (.op (.bin .eql) (.cons (.inp 0) (.cons (.cst (.int .i64 95)) .nil)))))))))) h93_15 .skip) Q env w := rfl
def h93_17 : HC := (.br (.chk none (.bin .eql) (.cons (.inp 0) (.cons (.cst (.int .i64 253)) .nil)) (.bnd (.op (.bin .eql) (.cons (.inp 0) (.cons (.cst (.int .i64 253)) .nil))) (.chk (some ((.bv 0), false)) (.bin .eql) (.cons (.inp 0) (.cons (.cst (.int .i64 255)) .nil)) (.isb none (.bv 0) (.bnd (.ite (.bv 0) true (.cst (.bool true)) (.op (.bin .eql) (.cons (.inp 0) (.cons (.cst (.int .i64 255)) .nil)))) (.chk (some ((.bv 1), false)) (.bin .eql) (.cons (.inp 0) (.cons (.cst (.int .i64 947)) .nil)) (.isb none (.bv 1) (.bnd (.ite (.bv 1) true (.cst (.bool true)) (.op (.bin .eql) (.cons (.inp 0) (.cons (.cst (.int .i64 947)) .nil)))) (.chk (some ((.bv 2), false)) (.bin .eql) (.cons (.inp 0) (.cons (.cst (.int .i64 1091)) .nil)) (.isb none (.bv 2) (.done [] (some (.ite (.bv 2) true (.cst (.bool true)) (.op (.bin .eql) (.cons (.inp 0) (.cons (.cst (.int .i64 1091)) .nil)))))))))))))))) h93_14 h93_16)
@[simp] theorem h93_17_wp {P : Program} {F : PF P} {Q : EX → List Value → World → Prop} {env : List Value} {w : World} : h93_17.wp F Q env w = HC.wp F (.br (.chk none (.bin .eql) (.cons (.inp 0) (.cons (.cst (.int .i64 253)) .nil)) (.bnd (.op (.bin .eql) (.cons (.inp 0) (.cons (.cst (.int .i64 253)) .nil))) (.chk (some ((.bv 0), false)) (.bin .eql) (.cons (.inp 0) (.cons (.cst (.int .i64 255)) .nil)) (.isb none (.bv 0) (.bnd (.ite (.bv 0) true (.cst (.bool true)) (.op (.bin .eql) (.cons (.inp 0) (.cons (.cst (.int .i64 255)) .nil)))) (.chk (some ((.bv 1), false)) (.bin .eql) (.cons (.inp 0) (.cons (.cst (.int .i64 947)) .nil)) (.isb none (.bv 1) (.bnd (.ite (.bv 1) true (.cst (.bool true)) (.op (.bin .eql) (.cons (.inp 0) (.cons (.cst (.int .i64 947)) .nil)))) (.chk (some ((.bv 2), false)) (.bin .eql) (.cons (.inp 0) (.cons (.cst (.int .i64 1091)) .nil)) (.isb none (.bv 2) (.done [] (some (.ite (.bv 2) true (.cst (.bool true)) (.op (.bin .eql) (.cons (.inp 0) (.cons (.cst (.int .i64 1091)) .nil)))))))))))))))) h93_14 h93_16) Q env w := rfl
def h93_18 : HC := (.br (.chk none (.bin .eql) (.cons (.inp 0) (.cons (.cst (.int .i64 967)) .nil)) (.bnd (.op (.bin .eql) (.cons (.inp 0) (.cons (.cst (.int .i64 967)) .nil))) (.chk (some ((.bv 0), false)) (.bin .eql) (.cons (.inp 0) (.cons (.cst (.int .i64 1093)) .nil)) (.isb none (.bv 0) (.done [] (some (.ite (.bv 0) true (.cst (.bool true)) (.op (.bin .eql) (.cons (.inp 0) (.cons (.cst (.int .i64 1093)) .nil)))))))))) h93_13 h93_17)
@[simp] theorem h93_18_wp {P : Program} {F : PF P} {Q : EX → List Value → World → Prop} {env : List Value} {w : World} : h93_18.wp F Q env w = HC.wp F (.br (.chk none (.bin .eql) (.cons (.inp 0) (.cons (.cst (.int .i64 967)) .nil)) (.bnd (.op (.bin .eql) (.cons (.inp 0) (.cons (.cst (.int .i64 967)) .nil))) (.chk (some ((.bv 0), false)) (.bin .eql) (.cons (.inp 0) (.cons (.cst (.int .i64 1093)) .nil)) (.isb none (.bv 0) (.done [] (some (.ite (.bv 0) true (.cst (.bool true)) (.op (.bin .eql) (.cons (.inp 0) (.cons (.cst (.int .i64 1093)) .nil)))))))))) h93_13 h93_17) Q env w := rfl
def h93_19 : HC := (.br (.chk none (.bin .eql) (.cons (.inp 0) (.cons (.cst (.int .i64 957)) .nil)) (.done [] (some (.op (.bin .eql) (.cons (.inp 0) (.cons (.cst (.int .i64 957)) .nil)))))) h93_12 h93_18)
@[simp] theorem h93_19_wp {P : Program} {F : PF P} {Q : EX → List Value → World → Prop} {env : List Value} {w : World} : h93_19.wp F Q env w = HC.wp F (.br (.chk none (.bin .eql) (.cons (.inp 0) (.cons (.cst (.int .i64 957)) .nil)) (.done [] (some (.op (.bin .eql) (.cons (.inp 0) (.cons (.cst (.int .i64 957)) .nil)))))) h93_12 h93_18) Q env w := rfl
def h93_20 : HC := (.br (.chk none (.cal 90) (.cons (.inp 0) (.cons (.cst (.int .i64 249)) (.cons (.cst (.int .i64 252)) .nil))) (.bnd (.op (.cal 90) (.cons (.inp 0) (.cons (.cst (.int .i64 249)) (.cons (.cst (.int .i64 252)) .nil)))) (.chk (some ((.bv 0), false)) (.bin .eql) (.cons (.inp 0) (.cons (.cst (.int .i64 965)) .nil)) (.isb none (.bv 0) (.done [] (some (.ite (.bv 0) true (.cst (.bool true)) (.op (.bin .eql) (.cons (.inp 0) (.cons (.cst (.int .i64 965)) .nil)))))))))) h93_11 h93_19)
@[simp] theorem h93_20_wp {P : Program} {F : PF P} {Q : EX → List Value → World → Prop} {env : List Value} {w : World} : h93_20.wp F Q env w = HC.wp F (.br (.chk none (.cal 90) (.cons (.inp 0) (.cons (.cst (.int .i64 249)) (.cons (.cst (.int .i64 252)) .nil))) (.bnd (.op (.cal 90) (.cons (.inp 0) (.cons (.cst (.int .i64 249)) (.cons (.cst (.int .i64 252)) .nil)))) (.chk (some ((.bv 0), false)) (.bin .eql) (.cons (.inp 0) (.cons (.cst (.int .i64 965)) .nil)) (.isb none (.bv 0) (.done [] (some (.ite (.bv 0) true (.cst (.bool true)) (.op (.bin .eql) (.cons (.inp 0) (.cons (.cst (.int .i64 965)) .nil)))))))))) h93_11 h93_19) Q env w := rfl
def h93_21 : HC := (.br (.chk none (.bin .eql) (.cons (.inp 0) (.cons (.cst (.int .i64 964)) .nil)) (.bnd (.op (.bin .eql) (.cons (.inp 0) (.cons (.cst (.int .i64 964)) .nil))) (.chk (some ((.bv 0), false)) (.bin .eql) (.cons (.inp 0) (.cons (.cst (.int .i64 1090)) .nil)) (.isb none (.bv 0) (.done [] (some (.ite (.bv 0) true (.cst (.bool true)) (.op (.bin .eql) (.cons (.inp 0) (.cons (.cst (.int .i64 1090)) .nil)))))))))) h93_10 h93_20)
@[simp] theorem h93_21_wp {P : Program} {F : PF P} {Q : EX → List Value → World → Prop} {env : List Value} {w : World} : h93_21.wp F Q env w = HC.wp F (.br (.chk none (.bin .eql) (.cons (.inp 0) (.cons (.cst (.int .i64 964)) .nil)) (.bnd (.op (.bin .eql) (.cons (.inp 0) (.cons (.cst (.int .i64 964)) .nil))) (.chk (some ((.bv 0), false)) (.bin .eql) (.cons (.inp 0) (.cons (.cst (.int .i64 1090)) .nil)) (.isb none (.bv 0) (.done [] (some (.ite (.bv 0) true (.cst (.bool true)) (.op (.bin .eql) (.cons (.inp 0) (.cons (.cst (.int .i64 1090)) .nil)))))))))) h93_10 h93_20) Q env w := rfl
def h93_22 : HC := (.br (.chk none (.bin .eql) (.cons (.inp 0) (.cons (.cst (.int .i64 961)) .nil)) (.bnd (.op (.bin .eql) (.cons (.inp 0) (.cons (.cst (.int .i64 961)) .nil))) (.chk (some ((.bv 0), false)) (.bin .eql) (.cons (.inp 0) (.cons (.cst (.int .i64 1088)) .nil)) (.isb none (.bv 0) (.done [] (some (.ite (.bv 0) true (.cst (.bool true)) (.op (.bin .eql) (.cons (.inp 0) (.cons (.cst (.int .i64 1088)) .nil)))))))))) h93_9 h93_21)
@[simp] theorem h93_22_wp {P : Program} {F : PF P} {Q : EX → List Value → World → Prop} {env : List Value} {w : World} : h93_22.wp F Q env w = HC.wp F (.br (.chk none (.bin .eql) (.cons (.inp 0) (.cons (.cst (.int .i64 961)) .nil)) (.bnd (.op (.bin .eql) (.cons (.inp 0) (.cons (.cst (.int .i64 961)) .nil))) (.chk (some ((.bv 0), false)) (.bin .eql) (.cons (.inp 0) (.cons (.cst (.int .i64 1088)) .nil)) (.isb none (.bv 0) (.done [] (some (.ite (.bv 0) true (.cst (.bool true)) (.op (.bin .eql) (.cons (.inp 0) (.cons (.cst (.int .i64 1088)) .nil)))))))))) h93_9 h93_21) Q env w := rfl
def h93_23 : HC := (.br (.chk none (.bin .eql) (.cons (.inp 0) (.cons (.cst (.int .i64 241)) .nil)) (.done [] (some (.op (.bin .eql) (.cons (.inp 0) (.cons (.cst (.int .i64 241)) .nil)))))) h93_8 h93_22)
@[simp] theorem h93_23_wp {P : Program} {F : PF P} {Q : EX → List Value → World → Prop} {env : List Value} {w : World} : h93_23.wp F Q env w = HC.wp F (.br (.chk none (.bin .eql) (.cons (.inp 0) (.cons (.cst (.int .i64 241)) .nil)) (.done [] (some (.op (.bin .eql) (.cons (.inp 0) (.cons (.cst (.int .i64 241)) .nil)))))) h93_8 h93_22) Q env w := rfl
def h93_24 : HC := (.br (.chk none (.bin .eql) (.cons (.inp 0) (.cons (.cst (.int .i64 954)) .nil)) (.bnd (.op (.bin .eql) (.cons (.inp 0) (.cons (.cst (.int .i64 954)) .nil))) (.chk (some ((.bv 0), false)) (.bin .eql) (.cons (.inp 0) (.cons (.cst (.int .i64 1082)) .nil)) (.isb none (.bv 0) (.done [] (some (.ite (.bv 0) true (.cst (.bool true)) (.op (.bin .eql) (.cons (.inp 0) (.cons (.cst (.int .i64 1082)) .nil)))))))))) h93_7 h93_23)
@[simp] theorem h93_24_wp {P : Program} {F : PF P} {Q : EX → List Value → World → Prop} {env : List Value} {w : World} : h93_24.wp F Q env w = HC.wp F (.br (.chk none (.bin .eql) (.cons (.inp 0) (.cons (.cst (.int .i64 954)) .nil)) (.bnd (.op (.bin .eql) (.cons (.inp 0) (.cons (.cst (.int .i64 954)) .nil))) (.chk (some ((.bv 0), false)) (.bin .eql) (.cons (.inp 0) (.cons (.cst (.int .i64 1082)) .nil)) (.isb none (.bv 0) (.done [] (some (.ite (.bv 0) true (.cst (.bool true)) (.op (.bin .eql) (.cons (.inp 0) (.cons (.cst (.int .i64 1082)) .nil)))))))))) h93_7 h93_23) Q env w := rfl
def h93_25 : HC := (.br (.chk none (.cal 90) (.cons (.inp 0) (.cons (.cst (.int .i64 236)) (.cons (.cst (.int .i64 239)) .nil))) (.bnd (.op (.cal 90) (.cons (.inp 0) (.cons (.cst (.int .i64 236)) (.cons (.cst (.int .i64 239)) .nil)))) (.chk (some ((.bv 0), false)) (.bin .eql) (.cons (.inp 0) (.cons (.cst (.int .i64 953)) .nil)) (.isb none (.bv 0) (.done [] (some (.ite (.bv 0) true (.cst (.bool true)) (.op (.bin .eql) (.cons (.inp 0) (.cons (.cst (.int .i64 953)) .nil)))))))))) h93_6 h93_24)
@[simp] theorem h93_25_wp {P : Program} {F : PF P} {Q : EX → List Value → World → Prop} {env : List Value} {w : World} : h93_25.wp F Q env w = HC.wp F (.br (.chk none (.cal 90) (.cons (.inp 0) (.cons (.cst (.int .i64 236)) (.cons (.cst (.int .i64 239)) .nil))) (.bnd (.op (.cal 90) (.cons (.inp 0) (.cons (.cst (.int .i64 236)) (.cons (.cst (.int .i64 239)) .nil)))) (.chk (some ((.bv 0), false)) (.bin .eql) (.cons (.inp 0) (.cons (.cst (.int .i64 953)) .nil)) (.isb none (.bv 0) (.done [] (some (.ite (.bv 0) true (.cst (.bool true)) (.op (.bin .eql) (.cons (.inp 0) (.cons (.cst (.int .i64 953)) .nil)))))))))) h93_6 h93_24) Q env w := rfl
def h93_26 : HC := (.br (.chk none (.cal 90) (.cons (.inp 0) (.cons (.cst (.int .i64 232)) (.cons (.cst (.int .i64 235)) .nil))) (.bnd (.op (.cal 90) (.cons (.inp 0) (.cons (.cst (.int .i64 232)) (.cons (.cst (.int .i64 235)) .nil)))) (.chk (some ((.bv 0), false)) (.bin .eql) (.cons (.inp 0) (.cons (.cst (.int .i64 1077)) .nil)) (.isb none (.bv 0) (.bnd (.ite (.bv 0) true (.cst (.bool true)) (.op (.bin .eql) (.cons (.inp 0) (.cons (.cst (.int .i64 1077)) .nil)))) (.chk (some ((.bv 1), false)) (.bin .eql) (.cons (.inp 0) (.cons (.cst (.int .i64 1105)) .nil)) (.isb none (.bv 1) (.done [] (some (.ite (.bv 1) true (.cst (.bool true)) (.op (.bin .eql) (.cons (.inp 0) (.cons (.cst (.int .i64 1105)) .nil))))))))))))) h93_5 h93_25)
@[simp] theorem h93_26_wp {P : Program} {F : PF P} {Q : EX → List Value → World → Prop} {env : List Value} {w : World} : h93_26.wp F Q env w = HC.wp F (.br (.chk none (.cal 90) (.cons (.inp 0) (.cons (.cst (.int .i64 232)) (.cons (.cst (.int .i64 235)) .nil))) (.bnd (.op (.cal 90) (.cons (.inp 0) (.cons (.cst (.int .i64 232)) (.cons (.cst (.int .i64 235)) .nil)))) (.chk (some ((.bv 0), false)) (.bin .eql) (.cons (.inp 0) (.cons (.cst (.int .i64 1077)) .nil)) (.isb none (.bv 0) (.bnd (.ite (.bv 0) true (.cst (.bool true)) (.op (.bin .eql) (.cons (.inp 0) (.cons (.cst (.int .i64 1077)) .nil)))) (.chk (some ((.bv 1), false)) (.bin .eql) (.cons (.inp 0) (.cons (.cst (.int .i64 1105)) .nil)) (.isb none (.bv 1) (.done [] (some (.ite (.bv 1) true (.cst (.bool true)) (.op (.bin .eql) (.cons (.inp 0) (.cons (.cst (.int .i64 1105)) .nil))))))))))))) h93_5 h93_25) Q env w := rfl
def h93_27 : HC := (.br (.chk none (.bin .eql) (.cons (.inp 0) (.cons (.cst (.int .i64 231)) .nil)) (.bnd (.op (.bin .eql) (.cons (.inp 0) (.cons (.cst (.int .i64 231)) .nil))) (.chk (some ((.bv 0), false)) (.bin .eql) (.cons (.inp 0) (.cons (.cst (.int .i64 1089)) .nil)) (.isb none (.bv 0) (.done [] (some (.ite (.bv 0) true (.cst (.bool true)) (.op (.bin .eql) (.cons (.inp 0) (.cons (.cst (.int .i64 1089)) .nil)))))))))) h93_4 h93_26)
@[simp] theorem h93_27_wp {P : Program} {F : PF P} {Q : EX → List Value → World → Prop} {env : List Value} {w : World} : h93_27.wp F Q env w = HC.wp F (.br (.chk none (.bin .eql) (.cons (.inp 0) (.cons (.cst (.int .i64 231)) .nil)) (.bnd (.op (.bin .eql) (.cons (.inp 0) (.cons (.cst (.int .i64 231)) .nil))) (.chk (some ((.bv 0), false)) (.bin .eql) (.cons (.inp 0) (.cons (.cst (.int .i64 1089)) .nil)) (.isb none (.bv 0) (.done [] (some (.ite (.bv 0) true (.cst (.bool true)) (.op (.bin .eql) (.cons (.inp 0) (.cons (.cst (.int .i64 1089)) .nil)))))))))) h93_4 h93_26) Q env w := rfl
def h93_28 : HC := (.br (.chk none (.cal 90) (.cons (.inp 0) (.cons (.cst (.int .i64 224)) (.cons (.cst (.int .i64 229)) .nil))) (.bnd (.op (.cal 90) (.cons (.inp 0) (.cons (.cst (.int .i64 224)) (.cons (.cst (.int .i64 229)) .nil)))) (.chk (some ((.bv 0), false)) (.bin .eql) (.cons (.inp 0) (.cons (.cst (.int .i64 945)) .nil)) (.isb none (.bv 0) (.bnd (.ite (.bv 0) true (.cst (.bool true)) (.op (.bin .eql) (.cons (.inp 0) (.cons (.cst (.int .i64 945)) .nil)))) (.chk (some ((.bv 1), false)) (.bin .eql) (.cons (.inp 0) (.cons (.cst (.int .i64 1072)) .nil)) (.isb none (.bv 1) (.done [] (some (.ite (.bv 1) true (.cst (.bool true)) (.op (.bin .eql) (.cons (.inp 0) (.cons (.cst (.int .i64 1072)) .nil))))))))))))) h93_3 h93_27)
@[simp] theorem h93_28_wp {P : Program} {F : PF P} {Q : EX → List Value → World → Prop} {env : List Value} {w : World} : h93_28.wp F Q env w = HC.wp F (.br (.chk none (.cal 90) (.cons (.inp 0) (.cons (.cst (.int .i64 224)) (.cons (.cst (.int .i64 229)) .nil))) (.bnd (.op (.cal 90) (.cons (.inp 0) (.cons (.cst (.int .i64 224)) (.cons (.cst (.int .i64 229)) .nil)))) (.chk (some ((.bv 0), false)) (.bin .eql) (.cons (.inp 0) (.cons (.cst (.int .i64 945)) .nil)) (.isb none (.bv 0) (.bnd (.ite (.bv 0) true (.cst (.bool true)) (.op (.bin .eql) (.cons (.inp 0) (.cons (.cst (.int .i64 945)) .nil)))) (.chk (some ((.bv 1), false)) (.bin .eql) (.cons (.inp 0) (.cons (.cst (.int .i64 1072)) .nil)) (.isb none (.bv 1) (.done [] (some (.ite (.bv 1) true (.cst (.bool true)) (.op (.bin .eql) (.cons (.inp 0) (.cons (.cst (.int .i64 1072)) .nil))))))))))))) h93_3 h93_27) Q env w := rfl
def h93_29 : HC := (.br (.chk none (.bin .eql) (.cons (.inp 0) (.cons (.cst (.int .i64 49)) .nil)) (.done [] (some (.op (.bin .eql) (.cons (.inp 0) (.cons (.cst (.int .i64 49)) .nil)))))) h93_2 h93_28)
@[simp] theorem h93_29_wp {P : Program} {F : PF P} {Q : EX → List Value → World → Prop} {env : List Value} {w : World} : h93_29.wp F Q env w = HC.wp F (.br (.chk none (.bin .eql) (.cons (.inp 0) (.cons (.cst (.int .i64 49)) .nil)) (.done [] (some (.op (.bin .eql) (.cons (.inp 0) (.cons (.cst (.int .i64 49)) .nil)))))) h93_2 h93_28) Q env w := rfl
def h93_30 : HC := (.br (.chk none (.bin .eql) (.cons (.inp 0) (.cons (.cst (.int .i64 48)) .nil)) (.bnd (.op (.bin .eql) (.cons (.inp 0) (.cons (.cst (.int .i64 48)) .nil))) (.chk (some ((.bv 0), false)) (.bin .eql) (.cons (.inp 0) (.cons (.cst (.int .i64 959)) .nil)) (.isb none (.bv 0) (.bnd (.ite (.bv 0) true (.cst (.bool true)) (.op (.bin .eql) (.cons (.inp 0) (.cons (.cst (.int .i64 959)) .nil)))) (.chk (some ((.bv 1), false)) (.bin .eql) (.cons (.inp 0) (.cons (.cst (.int .i64 1086)) .nil)) (.isb none (.bv 1) (.bnd (.ite (.bv 1) true (.cst (.bool true)) (.op (.bin .eql) (.cons (.inp 0) (.cons (.cst (.int .i64 1086)) .nil)))) (.chk (some ((.bv 2), false)) (.cal 90) (.cons (.inp 0) (.cons (.cst (.int .i64 242)) (.cons (.cst (.int .i64 246)) .nil))) (.isb none (.bv 2) (.bnd (.ite (.bv 2) true (.cst (.bool true)) (.op (.cal 90) (.cons (.inp 0) (.cons (.cst (.int .i64 242)) (.cons (.cst (.int .i64 246)) .nil))))) (.chk (some ((.bv 3), false)) (.bin .eql) (.cons (.inp 0) (.cons (.cst (.int .i64 248)) .nil)) (.isb none (.bv 3) (.done [] (some (.ite (.bv 3) true (.cst (.bool true)) (.op (.bin .eql) (.cons (.inp 0) (.cons (.cst (.int .i64 248)) .nil))))))))))))))))))) h93_1 h93_29)
@[simp] theorem h93_30_wp {P : Program} {F : PF P} {Q : EX → List Value → World → Prop} {env : List Value} {w : World} : h93_30.wp F Q env w = HC.wp F (.br (.chk none (.bin .eql) (.cons (.inp 0) (.cons (.cst (.int .i64 48)) .nil)) (.bnd (.op (.bin .eql) (.cons (.inp 0) (.cons (.cst (.int .i64 48)) .nil))) (.chk (some ((.bv 0), false)) (.bin .eql) (.cons (.inp 0) (.cons (.cst (.int .i64 959)) .nil)) (.isb none (.bv 0) (.bnd (.ite (.bv 0) true (.cst (.bool true)) (.op (.bin .eql) (.cons (.inp 0) (.cons (.cst (.int .i64 959)) .nil)))) (.chk (some ((.bv 1), false)) (.bin .eql) (.cons (.inp 0) (.cons (.cst (.int .i64 1086)) .nil)) (.isb none (.bv 1) (.bnd (.ite (.bv 1) true (.cst (.bool true)) (.op (.bin .eql) (.cons (.inp 0) (.cons (.cst (.int .i64 1086)) .nil)))) (.chk (some ((.bv 2), false)) (.cal 90) (.cons (.inp 0) (.cons (.cst (.int .i64 242)) (.cons (.cst (.int .i64 246)) .nil))) (.isb none (.bv 2) (.bnd (.ite (.bv 2) true (.cst (.bool true)) (.op (.cal 90) (.cons (.inp 0) (.cons (.cst (.int .i64 242)) (.cons (.cst (.int .i64 246)) .nil))))) (.chk (some ((.bv 3), false)) (.bin .eql) (.cons (.inp 0) (.cons (.cst (.int .i64 248)) .nil)) (.isb none (.bv 3) (.done [] (some (.ite (.bv 3) true (.cst (.bool true)) (.op (.bin .eql) (.cons (.inp 0) (.cons (.cst (.int .i64 248)) .nil))))))))))))))))))) h93_1 h93_29) Q env w := rfl
def h93_31 : HC := (.seq (.block 0 h93_30) h93_0)
@[simp] theorem h93_31_wp {P : Program} {F : PF P} {Q : EX → List Value → World → Prop} {env : List Value} {w : World} : h93_31.wp F Q env w = HC.wp F (.seq (.block 0 h93_30) h93_0) Q env w := rfl
def l93 : Lifted := ⟨[0, 2], 125, [.slot 1], (.seq (.reg (.done [(1, (.cst (.int .i64 0)))] none)) h93_31)⟩
theorem l93_ok : liftFn F2 93 400 = some l93 := by kernel_rfl


theorem rletter_spec (u : Int) (w : World) : CallW Try.prog 82 [.int .i64 u] (fun r w' => r = .bool (letterF u) ∧ w' = w) w := by
  refine callW_of_lift l82_ok (by simp [l82]) ?_
  simp [l82, inS, condC_ite, letterF]
  grind
theorem hp_spec (s p : List UInt8) (w : World) (hs : s.length ≤ 1048576) : CallW Try.prog 76 [.string (mk s), .string (mk p)] (fun r w' => r = .bool (p.isPrefixOf s) ∧ w' = w) w := by
  refine callW_of_lift l76_ok (by simp [l76]) ?_
  simp [l76, slhpS]
  exact hs
/-- how a folded unit looks -/
def looksF (u : Int) : Int :=
  if u = 48 ∨ u = 959 ∨ u = 1086 ∨ (242 ≤ u ∧ u ≤ 246) ∨ u = 248 then 111
  else if u = 49 then 108
  else if (224 ≤ u ∧ u ≤ 229) ∨ u = 945 ∨ u = 1072 then 97
  else if u = 231 ∨ u = 1089 then 99
  else if (232 ≤ u ∧ u ≤ 235) ∨ u = 1077 ∨ u = 1105 then 101
  else if (236 ≤ u ∧ u ≤ 239) ∨ u = 953 then 105
  else if u = 954 ∨ u = 1082 then 107
  else if u = 241 then 110
  else if u = 961 ∨ u = 1088 then 112
  else if u = 964 ∨ u = 1090 then 116
  else if (249 ≤ u ∧ u ≤ 252) ∨ u = 965 then 117
  else if u = 957 then 118
  else if u = 967 ∨ u = 1093 then 120
  else if u = 253 ∨ u = 255 ∨ u = 947 ∨ u = 1091 then 121
  else if u = 32 ∨ u = 95 then 45
  else u
theorem looks_spec (u : Int) (w : World) : CallW Try.prog 93 [.int .i64 u] (fun r w' => r = .int .i64 (looksF u) ∧ w' = w) w := by
  refine callW_of_lift l93_ok (by simp [l93]) ?_
  simp [l93, inS, condC_ite, inF]
  unfold looksF
  grind (splits := 80)

noncomputable def rletterS : PS Try.prog := PS.ib 82 .i64 letterF rletter_spec
noncomputable def hpS : PS Try.prog where
  f := 76
  val args := match args with
    | [.string s, .string p] => .bool (p.data.toList.isPrefixOf s.data.toList)
    | _ => undef
  ok args := match args with
    | [.string s, .string _] => s.data.toList.length ≤ 1048576
    | _ => False
  sound args w h := by
    split at h
    · rename_i s p
      have := hp_spec s.data.toList p.data.toList w h
      rw [← mk_eta, ← mk_eta] at this
      exact this
    · exact h.elim
noncomputable def looksS : PS Try.prog where
  f := 93
  val args := match args with
    | [.int _ u] => .int .i64 (looksF u)
    | _ => undef
  ok args := match args with
    | [.int k _] => k = .i64
    | _ => False
  sound args w h := by
    split at h
    · subst h; exact looks_spec _ w
    · exact h.elim
noncomputable def foldS : PS Try.prog where
  f := 78
  val args := match args with
    | [.int _ u] => .int .i32 (foldF u)
    | _ => undef
  ok args := match args with
    | [.int k u] => k = .i32 ∧ 0 ≤ u ∧ u < 2097408
    | _ => False
  sound args w h := by
    split at h
    · obtain ⟨rfl, h1, h2⟩ := h; exact fold_spec _ w h1 h2
    · exact h.elim
noncomputable abbrev F3 : PF Try.prog := PF.of [oneS, inS, rjoinerS, joinerS, letterS, slhpS, rletterS, hpS, looksS, foldS]
@[simp] theorem F3_hp_val (args : List Value) : F3.val 76 args = hpS.val args := rfl
@[simp] theorem F3_hp_ok (args : List Value) : F3.ok 76 args = hpS.ok args := rfl
-- bazaar/name.at
def h44_0 : HC := (.seq (.reg (.done [(3, (.inp 2))] none)) .ret)
@[simp] theorem h44_0_wp {P : Program} {F : PF P} {Q : EX → List Value → World → Prop} {env : List Value} {w : World} : h44_0.wp F Q env w = HC.wp F (.seq (.reg (.done [(3, (.inp 2))] none)) .ret) Q env w := rfl
def h44_1 : HC := (.seq (.reg (.chk none .chS (.cons (.inp 0) (.cons (.inp 1) .nil)) (.chk none (.convI .i32) (.cons (.op .chS (.cons (.inp 0) (.cons (.inp 1) .nil))) .nil) (.chk none (.bin .add) (.cons (.cst (.int .i32 2097152)) (.cons (.op (.convI .i32) (.cons (.op .chS (.cons (.inp 0) (.cons (.inp 1) .nil))) .nil)) .nil)) (.done [(3, (.op (.bin .add) (.cons (.cst (.int .i32 2097152)) (.cons (.op (.convI .i32) (.cons (.op .chS (.cons (.inp 0) (.cons (.inp 1) .nil))) .nil)) .nil))))] none))))) .ret)
@[simp] theorem h44_1_wp {P : Program} {F : PF P} {Q : EX → List Value → World → Prop} {env : List Value} {w : World} : h44_1.wp F Q env w = HC.wp F (.seq (.reg (.chk none .chS (.cons (.inp 0) (.cons (.inp 1) .nil)) (.chk none (.convI .i32) (.cons (.op .chS (.cons (.inp 0) (.cons (.inp 1) .nil))) .nil) (.chk none (.bin .add) (.cons (.cst (.int .i32 2097152)) (.cons (.op (.convI .i32) (.cons (.op .chS (.cons (.inp 0) (.cons (.inp 1) .nil))) .nil)) .nil)) (.done [(3, (.op (.bin .add) (.cons (.cst (.int .i32 2097152)) (.cons (.op (.convI .i32) (.cons (.op .chS (.cons (.inp 0) (.cons (.inp 1) .nil))) .nil)) .nil))))] none))))) .ret) Q env w := rfl
def h44_2 : HC := (.seq (.br (.chk none (.bin .eql) (.cons (.inp 2) (.cons (.cst (.int .i32 65533)) .nil)) (.bnd (.op (.bin .eql) (.cons (.inp 2) (.cons (.cst (.int .i32 65533)) .nil))) (.chk (some ((.bv 0), true)) (.slS true false) (.cons (.inp 0) (.cons (.inp 1) .nil)) (.chk (some ((.bv 0), true)) (.cal 76) (.cons (.op (.slS true false) (.cons (.inp 0) (.cons (.inp 1) .nil))) (.cons (.cst (.string ⟨#[239, 191, 189]⟩)) .nil)) (.chk (some ((.bv 0), true)) (.un .not) (.cons (.op (.cal 76) (.cons (.op (.slS true false) (.cons (.inp 0) (.cons (.inp 1) .nil))) (.cons (.cst (.string ⟨#[239, 191, 189]⟩)) .nil))) .nil) (.isb none (.bv 0) (.done [] (some (.ite (.bv 0) true (.op (.un .not) (.cons (.op (.cal 76) (.cons (.op (.slS true false) (.cons (.inp 0) (.cons (.inp 1) .nil))) (.cons (.cst (.string ⟨#[239, 191, 189]⟩)) .nil))) .nil)) (.cst (.bool false))))))))))) h44_1 .skip) h44_0)
@[simp] theorem h44_2_wp {P : Program} {F : PF P} {Q : EX → List Value → World → Prop} {env : List Value} {w : World} : h44_2.wp F Q env w = HC.wp F (.seq (.br (.chk none (.bin .eql) (.cons (.inp 2) (.cons (.cst (.int .i32 65533)) .nil)) (.bnd (.op (.bin .eql) (.cons (.inp 2) (.cons (.cst (.int .i32 65533)) .nil))) (.chk (some ((.bv 0), true)) (.slS true false) (.cons (.inp 0) (.cons (.inp 1) .nil)) (.chk (some ((.bv 0), true)) (.cal 76) (.cons (.op (.slS true false) (.cons (.inp 0) (.cons (.inp 1) .nil))) (.cons (.cst (.string ⟨#[239, 191, 189]⟩)) .nil)) (.chk (some ((.bv 0), true)) (.un .not) (.cons (.op (.cal 76) (.cons (.op (.slS true false) (.cons (.inp 0) (.cons (.inp 1) .nil))) (.cons (.cst (.string ⟨#[239, 191, 189]⟩)) .nil))) .nil) (.isb none (.bv 0) (.done [] (some (.ite (.bv 0) true (.op (.un .not) (.cons (.op (.cal 76) (.cons (.op (.slS true false) (.cons (.inp 0) (.cons (.inp 1) .nil))) (.cons (.cst (.string ⟨#[239, 191, 189]⟩)) .nil))) .nil)) (.cst (.bool false))))))))))) h44_1 .skip) h44_0) Q env w := rfl
def l44 : Lifted := ⟨[0, 1, 2, 6], 22, [.slot 3], (.seq (.reg (.done [(3, (.cst (.int .i32 0)))] none)) h44_2)⟩
theorem l44_ok : liftFn F3 44 400 = some l44 := by kernel_rfl


theorem at_spec (l : List UInt8) (i : Nat) (w : World) (hi : i < l.length) (hl : l.length ≤ 1048576) :
    CallW Try.prog 44 [.string (mk l), .int .i64 i, .int .i32 (runeOf (oneF (l.drop i)).1)] (fun r w' => r = .int .i32 (oneF (l.drop i)).1 ∧ w' = w) w := by
  have hne : l.drop i ≠ [] := by simp; omega
  have hu := unit_of hne
  have hb := oneF_bd hne
  have hd : (l.drop i).headD 0 = l[i]?.getD 0 := by simp [List.headD_eq_head?_getD, List.head?_drop]
  have hc := (l[i]?.getD 0).toNat_lt
  rw [hd] at hu
  refine callW_of_lift l44_ok (by simp [l44]) ?_
  simp [l44, hpS]
  refine ⟨fun _ => by omega, fun _ => by omega, ?_⟩
  refine cndI (fun h => ?_) (fun h => ?_)
  · simp at h
    rw [if_pos ⟨by omega, h.2⟩] at hu
    simp
    try simp (disch := omega) only [wrap32]
    exact ⟨hi, hu⟩
  · simp at h
    rw [if_neg (by rintro ⟨h1, h2⟩; rw [List.isPrefixOf_iff_prefix.2 (h (by omega))] at h2; cases h2)] at hu
    simp
    exact hu
noncomputable def atS : PS Try.prog where
  f := 44
  val args := match args with
    | [.string s, .int _ i, .int _ _] => .int .i32 (oneF (s.data.toList.drop i.toNat)).1
    | _ => undef
  ok args := match args with
    | [.string s, .int k i, .int k' r] => k = .i64 ∧ k' = .i32 ∧ s.data.toList.length ≤ 1048576 ∧ 0 ≤ i ∧ i < s.data.toList.length ∧ r = runeOf (oneF (s.data.toList.drop i.toNat)).1
    | _ => False
  sound args w h := by
    split at h
    · rename_i s k i k' r
      obtain ⟨rfl, rfl, h1, h2, h3, rfl⟩ := h
      obtain ⟨n, rfl⟩ := Int.eq_ofNat_of_zero_le h2
      have := at_spec s.data.toList n w (by omega) h1
      rw [← mk_eta] at this
      simpa using this
    · exact h.elim
noncomputable abbrev F4 : PF Try.prog := PF.of [oneS, inS, rjoinerS, joinerS, letterS, slhpS, rletterS, hpS, looksS, foldS, atS]
@[simp] theorem F4_one_val (args : List Value) : F4.val 89 args = oneS.val args := rfl
@[simp] theorem F4_one_ok (args : List Value) : F4.ok 89 args = oneS.ok args := rfl
@[simp] theorem F4_rj_val (args : List Value) : F4.val 81 args = rjoinerS.val args := rfl
@[simp] theorem F4_rj_ok (args : List Value) : F4.ok 81 args = rjoinerS.ok args := rfl
@[simp] theorem F4_j_val (args : List Value) : F4.val 46 args = joinerS.val args := rfl
@[simp] theorem F4_j_ok (args : List Value) : F4.ok 46 args = joinerS.ok args := rfl
@[simp] theorem F4_l_val (args : List Value) : F4.val 45 args = letterS.val args := rfl
@[simp] theorem F4_l_ok (args : List Value) : F4.ok 45 args = letterS.ok args := rfl
@[simp] theorem F4_rl_val (args : List Value) : F4.val 82 args = rletterS.val args := rfl
@[simp] theorem F4_rl_ok (args : List Value) : F4.ok 82 args = rletterS.ok args := rfl
@[simp] theorem F4_lk_val (args : List Value) : F4.val 93 args = looksS.val args := rfl
@[simp] theorem F4_lk_ok (args : List Value) : F4.ok 93 args = looksS.ok args := rfl
@[simp] theorem F4_f_val (args : List Value) : F4.val 78 args = foldS.val args := rfl
@[simp] theorem F4_f_ok (args : List Value) : F4.ok 78 args = foldS.ok args := rfl
@[simp] theorem F4_at_val (args : List Value) : F4.val 44 args = atS.val args := rfl
@[simp] theorem F4_at_ok (args : List Value) : F4.ok 44 args = atS.ok args := rfl
@[simp] theorem rj_val (u : Int) (k : IntKind) : rjoinerS.val [.int k u] = .bool (joinerF u) := rfl
@[simp] theorem rj_ok (u : Int) (k : IntKind) : rjoinerS.ok [.int k u] = (k = .i64) := rfl
@[simp] theorem j_val (u : Int) (k : IntKind) : joinerS.val [.int k u] = .bool (joinerF u) := rfl
@[simp] theorem j_ok (u : Int) (k : IntKind) : joinerS.ok [.int k u] = (k = .i32) := rfl
@[simp] theorem l_val (u : Int) (k : IntKind) : letterS.val [.int k u] = .bool (letterF u) := rfl
@[simp] theorem l_ok (u : Int) (k : IntKind) : letterS.ok [.int k u] = (k = .i32) := rfl
@[simp] theorem rl_val (u : Int) (k : IntKind) : rletterS.val [.int k u] = .bool (letterF u) := rfl
@[simp] theorem rl_ok (u : Int) (k : IntKind) : rletterS.ok [.int k u] = (k = .i64) := rfl
@[simp] theorem lk_val (u : Int) (k : IntKind) : looksS.val [.int k u] = .int .i64 (looksF u) := rfl
@[simp] theorem lk_ok (u : Int) (k : IntKind) : looksS.ok [.int k u] = (k = .i64) := rfl
@[simp] theorem f_val (u : Int) (k : IntKind) : foldS.val [.int k u] = .int .i32 (foldF u) := rfl
@[simp] theorem f_ok (u : Int) (k : IntKind) : foldS.ok [.int k u] = (k = .i32 ∧ 0 ≤ u ∧ u < 2097408) := rfl
@[simp] theorem at_val (l : List UInt8) (i r : Int) (k k' : IntKind) : atS.val [.string (mk l), .int k i, .int k' r] = .int .i32 (oneF (l.drop i.toNat)).1 := by simp [atS]
@[simp] theorem at_ok (l : List UInt8) (i r : Int) (k k' : IntKind) : atS.ok [.string (mk l), .int k i, .int k' r] = (k = .i64 ∧ k' = .i32 ∧ l.length ≤ 1048576 ∧ 0 ≤ i ∧ i < l.length ∧ r = runeOf (oneF (l.drop i.toNat)).1) := by simp [atS]
end Go.HL.Nm
