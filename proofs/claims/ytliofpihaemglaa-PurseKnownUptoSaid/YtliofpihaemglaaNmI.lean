/-
  Folding: fold and Folded of bazaarref04, folded of name: the units of a text, folded. Conditions: texts within the bound.
-/
import Derived.Test.YtliofpihaemglaaNmF
import Derived.Test.YtliofpihaemglaaEngD
namespace Go.HL.Nm
open Go.HL Go.Proofs
set_option maxRecDepth 4000
set_option linter.unusedSimpArgs false
set_option linter.unusedVariables false
@[simp] theorem F4_in_val (args : List Value) : F4.val 90 args = inS.val args := rfl
@[simp] theorem F4_in_ok (args : List Value) : F4.ok 90 args = inS.ok args := rfl
@[simp] theorem in_val (u lo hi : Int) (k k' k'' : IntKind) : inS.val [.int k u, .int k' lo, .int k'' hi] = .bool (inF u lo hi) := rfl
@[simp] theorem in_ok (u lo hi : Int) (k k' k'' : IntKind) : inS.ok [.int k u, .int k' lo, .int k'' hi] = (k = .i64 ∧ k' = .i64 ∧ k'' = .i64) := rfl
/-- a unit, folded -/
def foldU (u : Int) : List Int := if u = 223 then [115, 115] else [foldF u]
/-- a text's units, folded -/
def foldAll (us : List (Int × Nat)) : List Int := us.flatMap fun u => foldU u.1
def foldedF (l : List UInt8) : List Int := foldAll (units l)
theorem units_bd : ∀ (n : Nat) (l : List UInt8), l.length ≤ n → ∀ u ∈ units l, 0 ≤ u.1 ∧ u.1 < 2097408
  | 0, l, h => by
    have : l = [] := List.eq_nil_of_length_eq_zero (by omega)
    subst this
    simp [units_nil]
  | n + 1, l, h => by
    by_cases he : l = []
    · subst he; simp [units_nil]
    · have hb := oneF_bd he
      rw [units_cons he]
      intro u hu
      rcases List.mem_cons.1 hu with rfl | hu
      · exact ⟨hb.1, hb.2.1⟩
      · exact units_bd n _ (by simp; omega) u hu
theorem units_at (l : List UInt8) {i : Nat} (h : i < (units l).length) : 0 ≤ (units l)[i].1 ∧ (units l)[i].1 < 2097408 := units_bd _ l (Nat.le_refl _) _ (List.getElem_mem h)
theorem foldU_len (u : Int) : (foldU u).length ≤ 2 ∧ 1 ≤ (foldU u).length := by unfold foldU; split <;> simp
theorem foldAll_len : ∀ us : List (Int × Nat), (foldAll us).length ≤ 2 * us.length
  | [] => by simp [foldAll]
  | u :: us => by
    have := foldAll_len us
    have h1 := (foldU_len u.1).1
    simp only [foldAll, List.flatMap_cons, List.length_append, List.length_cons] at this ⊢
    omega
theorem foldAll_snoc (us : List (Int × Nat)) (u : Int × Nat) : foldAll (us ++ [u]) = foldAll us ++ foldU u.1 := by simp [foldAll]
def ints32 (l : List Int) : List Value := l.map (Value.int .i32)
theorem ints_one (l : List Int) : ∀ u ∈ ints l, u.oneCell' = true := by intro u h; simp only [ints, List.mem_map] at h; obtain ⟨x, _, rfl⟩ := h; rfl
theorem ints32_one (l : List Int) : ∀ u ∈ ints32 l, u.oneCell' = true := by intro u h; simp only [ints32, List.mem_map] at h; obtain ⟨x, _, rfl⟩ := h; rfl
-- bazaar/bazaarref04.fold
def h97_0 : HC := (.seq (.reg (.eff (.bsl 3 1 1 #[(.int .i64 0)] [0]) (.cons (.inp 0) .nil) (.done [(1, (.bv 0))] none))) .ret)
@[simp] theorem h97_0_wp {P : Program} {F : PF P} {Q : EX → List Value → World → Prop} {env : List Value} {w : World} : h97_0.wp F Q env w = HC.wp F (.seq (.reg (.eff (.bsl 3 1 1 #[(.int .i64 0)] [0]) (.cons (.inp 0) .nil) (.done [(1, (.bv 0))] none))) .ret) Q env w := rfl
def h97_1 : HC := (.seq (.reg (.eff (.bsl 3 2 1 #[(.int .i64 0)] [0, 1]) (.cons (.cst (.int .i64 115)) (.cons (.cst (.int .i64 115)) .nil)) (.done [(1, (.bv 0))] none))) .ret)
@[simp] theorem h97_1_wp {P : Program} {F : PF P} {Q : EX → List Value → World → Prop} {env : List Value} {w : World} : h97_1.wp F Q env w = HC.wp F (.seq (.reg (.eff (.bsl 3 2 1 #[(.int .i64 0)] [0, 1]) (.cons (.cst (.int .i64 115)) (.cons (.cst (.int .i64 115)) .nil)) (.done [(1, (.bv 0))] none))) .ret) Q env w := rfl
def h97_2 : HC := (.seq (.reg (.eff (.bsl 3 1 1 #[(.int .i64 0)] [0]) (.cons (.cst (.int .i64 1105)) .nil) (.done [(1, (.bv 0))] none))) .ret)
@[simp] theorem h97_2_wp {P : Program} {F : PF P} {Q : EX → List Value → World → Prop} {env : List Value} {w : World} : h97_2.wp F Q env w = HC.wp F (.seq (.reg (.eff (.bsl 3 1 1 #[(.int .i64 0)] [0]) (.cons (.cst (.int .i64 1105)) .nil) (.done [(1, (.bv 0))] none))) .ret) Q env w := rfl
def h97_3 : HC := (.seq (.reg (.eff (.bsl 3 1 1 #[(.int .i64 0)] [0]) (.cons (.cst (.int .i64 963)) .nil) (.done [(1, (.bv 0))] none))) .ret)
@[simp] theorem h97_3_wp {P : Program} {F : PF P} {Q : EX → List Value → World → Prop} {env : List Value} {w : World} : h97_3.wp F Q env w = HC.wp F (.seq (.reg (.eff (.bsl 3 1 1 #[(.int .i64 0)] [0]) (.cons (.cst (.int .i64 963)) .nil) (.done [(1, (.bv 0))] none))) .ret) Q env w := rfl
def h97_4 : HC := (.seq (.reg (.eff (.bsl 3 1 1 #[(.int .i64 0)] [0]) (.cons (.inp 0) .nil) (.done [(1, (.bv 0))] none))) .ret)
@[simp] theorem h97_4_wp {P : Program} {F : PF P} {Q : EX → List Value → World → Prop} {env : List Value} {w : World} : h97_4.wp F Q env w = HC.wp F (.seq (.reg (.eff (.bsl 3 1 1 #[(.int .i64 0)] [0]) (.cons (.inp 0) .nil) (.done [(1, (.bv 0))] none))) .ret) Q env w := rfl
def h97_5 : HC := (.seq (.reg (.chk none (.bin .add) (.cons (.inp 0) (.cons (.cst (.int .i64 32)) .nil)) (.eff (.bsl 3 1 1 #[(.int .i64 0)] [0]) (.cons (.op (.bin .add) (.cons (.inp 0) (.cons (.cst (.int .i64 32)) .nil))) .nil) (.done [(1, (.bv 0))] none)))) .ret)
@[simp] theorem h97_5_wp {P : Program} {F : PF P} {Q : EX → List Value → World → Prop} {env : List Value} {w : World} : h97_5.wp F Q env w = HC.wp F (.seq (.reg (.chk none (.bin .add) (.cons (.inp 0) (.cons (.cst (.int .i64 32)) .nil)) (.eff (.bsl 3 1 1 #[(.int .i64 0)] [0]) (.cons (.op (.bin .add) (.cons (.inp 0) (.cons (.cst (.int .i64 32)) .nil))) .nil) (.done [(1, (.bv 0))] none)))) .ret) Q env w := rfl
def h97_6 : HC := (.br (.chk none (.cal 90) (.cons (.inp 0) (.cons (.cst (.int .i64 65)) (.cons (.cst (.int .i64 90)) .nil))) (.bnd (.op (.cal 90) (.cons (.inp 0) (.cons (.cst (.int .i64 65)) (.cons (.cst (.int .i64 90)) .nil)))) (.chk (some ((.bv 0), false)) (.cal 90) (.cons (.inp 0) (.cons (.cst (.int .i64 192)) (.cons (.cst (.int .i64 222)) .nil))) (.isb none (.bv 0) (.bnd (.ite (.bv 0) true (.cst (.bool true)) (.op (.cal 90) (.cons (.inp 0) (.cons (.cst (.int .i64 192)) (.cons (.cst (.int .i64 222)) .nil))))) (.chk (some ((.bv 1), false)) (.cal 90) (.cons (.inp 0) (.cons (.cst (.int .i64 913)) (.cons (.cst (.int .i64 937)) .nil))) (.isb none (.bv 1) (.bnd (.ite (.bv 1) true (.cst (.bool true)) (.op (.cal 90) (.cons (.inp 0) (.cons (.cst (.int .i64 913)) (.cons (.cst (.int .i64 937)) .nil))))) (.chk (some ((.bv 2), false)) (.cal 90) (.cons (.inp 0) (.cons (.cst (.int .i64 1040)) (.cons (.cst (.int .i64 1071)) .nil))) (.isb none (.bv 2) (.done [] (some (.ite (.bv 2) true (.cst (.bool true)) (.op (.cal 90) (.cons (.inp 0) (.cons (.cst (.int .i64 1040)) (.cons (.cst (.int .i64 1071)) .nil))))))))))))))))) h97_5 .skip)
@[simp] theorem h97_6_wp {P : Program} {F : PF P} {Q : EX → List Value → World → Prop} {env : List Value} {w : World} : h97_6.wp F Q env w = HC.wp F (.br (.chk none (.cal 90) (.cons (.inp 0) (.cons (.cst (.int .i64 65)) (.cons (.cst (.int .i64 90)) .nil))) (.bnd (.op (.cal 90) (.cons (.inp 0) (.cons (.cst (.int .i64 65)) (.cons (.cst (.int .i64 90)) .nil)))) (.chk (some ((.bv 0), false)) (.cal 90) (.cons (.inp 0) (.cons (.cst (.int .i64 192)) (.cons (.cst (.int .i64 222)) .nil))) (.isb none (.bv 0) (.bnd (.ite (.bv 0) true (.cst (.bool true)) (.op (.cal 90) (.cons (.inp 0) (.cons (.cst (.int .i64 192)) (.cons (.cst (.int .i64 222)) .nil))))) (.chk (some ((.bv 1), false)) (.cal 90) (.cons (.inp 0) (.cons (.cst (.int .i64 913)) (.cons (.cst (.int .i64 937)) .nil))) (.isb none (.bv 1) (.bnd (.ite (.bv 1) true (.cst (.bool true)) (.op (.cal 90) (.cons (.inp 0) (.cons (.cst (.int .i64 913)) (.cons (.cst (.int .i64 937)) .nil))))) (.chk (some ((.bv 2), false)) (.cal 90) (.cons (.inp 0) (.cons (.cst (.int .i64 1040)) (.cons (.cst (.int .i64 1071)) .nil))) (.isb none (.bv 2) (.done [] (some (.ite (.bv 2) true (.cst (.bool true)) (.op (.cal 90) (.cons (.inp 0) (.cons (.cst (.int .i64 1040)) (.cons (.cst (.int .i64 1071)) .nil))))))))))))))))) h97_5 .skip) Q env w := rfl
def h97_7 : HC := (.br (.chk none (.bin .eql) (.cons (.inp 0) (.cons (.cst (.int .i64 215)) .nil)) (.bnd (.op (.bin .eql) (.cons (.inp 0) (.cons (.cst (.int .i64 215)) .nil))) (.chk (some ((.bv 0), false)) (.bin .eql) (.cons (.inp 0) (.cons (.cst (.int .i64 930)) .nil)) (.isb none (.bv 0) (.done [] (some (.ite (.bv 0) true (.cst (.bool true)) (.op (.bin .eql) (.cons (.inp 0) (.cons (.cst (.int .i64 930)) .nil)))))))))) h97_4 h97_6)
@[simp] theorem h97_7_wp {P : Program} {F : PF P} {Q : EX → List Value → World → Prop} {env : List Value} {w : World} : h97_7.wp F Q env w = HC.wp F (.br (.chk none (.bin .eql) (.cons (.inp 0) (.cons (.cst (.int .i64 215)) .nil)) (.bnd (.op (.bin .eql) (.cons (.inp 0) (.cons (.cst (.int .i64 215)) .nil))) (.chk (some ((.bv 0), false)) (.bin .eql) (.cons (.inp 0) (.cons (.cst (.int .i64 930)) .nil)) (.isb none (.bv 0) (.done [] (some (.ite (.bv 0) true (.cst (.bool true)) (.op (.bin .eql) (.cons (.inp 0) (.cons (.cst (.int .i64 930)) .nil)))))))))) h97_4 h97_6) Q env w := rfl
def h97_8 : HC := (.br (.chk none (.bin .eql) (.cons (.inp 0) (.cons (.cst (.int .i64 962)) .nil)) (.done [] (some (.op (.bin .eql) (.cons (.inp 0) (.cons (.cst (.int .i64 962)) .nil)))))) h97_3 h97_7)
@[simp] theorem h97_8_wp {P : Program} {F : PF P} {Q : EX → List Value → World → Prop} {env : List Value} {w : World} : h97_8.wp F Q env w = HC.wp F (.br (.chk none (.bin .eql) (.cons (.inp 0) (.cons (.cst (.int .i64 962)) .nil)) (.done [] (some (.op (.bin .eql) (.cons (.inp 0) (.cons (.cst (.int .i64 962)) .nil)))))) h97_3 h97_7) Q env w := rfl
def h97_9 : HC := (.br (.chk none (.bin .eql) (.cons (.inp 0) (.cons (.cst (.int .i64 1025)) .nil)) (.done [] (some (.op (.bin .eql) (.cons (.inp 0) (.cons (.cst (.int .i64 1025)) .nil)))))) h97_2 h97_8)
@[simp] theorem h97_9_wp {P : Program} {F : PF P} {Q : EX → List Value → World → Prop} {env : List Value} {w : World} : h97_9.wp F Q env w = HC.wp F (.br (.chk none (.bin .eql) (.cons (.inp 0) (.cons (.cst (.int .i64 1025)) .nil)) (.done [] (some (.op (.bin .eql) (.cons (.inp 0) (.cons (.cst (.int .i64 1025)) .nil)))))) h97_2 h97_8) Q env w := rfl
def h97_10 : HC := (.br (.chk none (.bin .eql) (.cons (.inp 0) (.cons (.cst (.int .i64 223)) .nil)) (.done [] (some (.op (.bin .eql) (.cons (.inp 0) (.cons (.cst (.int .i64 223)) .nil)))))) h97_1 h97_9)
@[simp] theorem h97_10_wp {P : Program} {F : PF P} {Q : EX → List Value → World → Prop} {env : List Value} {w : World} : h97_10.wp F Q env w = HC.wp F (.br (.chk none (.bin .eql) (.cons (.inp 0) (.cons (.cst (.int .i64 223)) .nil)) (.done [] (some (.op (.bin .eql) (.cons (.inp 0) (.cons (.cst (.int .i64 223)) .nil)))))) h97_1 h97_9) Q env w := rfl
def h97_11 : HC := (.seq (.block 0 h97_10) h97_0)
@[simp] theorem h97_11_wp {P : Program} {F : PF P} {Q : EX → List Value → World → Prop} {env : List Value} {w : World} : h97_11.wp F Q env w = HC.wp F (.seq (.block 0 h97_10) h97_0) Q env w := rfl
def l97 : Lifted := ⟨[0, 2], 44, [.slot 1], (.seq (.reg (.done [(1, (.cst (.slice none 0 0)))] none)) h97_11)⟩
theorem l97_ok : liftFn F4 97 400 = some l97 := by kernel_rfl

-- bazaar/bazaarref04.Folded
def h92_0 : HC := (.seq (.reg (.done [(1, (.inp 3))] none)) .ret)
@[simp] theorem h92_0_wp {P : Program} {F : PF P} {Q : EX → List Value → World → Prop} {env : List Value} {w : World} : h92_0.wp F Q env w = HC.wp F (.seq (.reg (.done [(1, (.inp 3))] none)) .ret) Q env w := rfl
def h92_1 : HC := (.reg (.chk none (.bin .add) (.cons (.inp 4) (.cons (.cst (.int .i64 1)) .nil)) (.done [(4, (.op (.bin .add) (.cons (.inp 4) (.cons (.cst (.int .i64 1)) .nil))))] none)))
@[simp] theorem h92_1_wp {P : Program} {F : PF P} {Q : EX → List Value → World → Prop} {env : List Value} {w : World} : h92_1.wp F Q env w = HC.wp F (.reg (.chk none (.bin .add) (.cons (.inp 4) (.cons (.cst (.int .i64 1)) .nil)) (.done [(4, (.op (.bin .add) (.cons (.inp 4) (.cons (.cst (.int .i64 1)) .nil))))] none))) Q env w := rfl
def h92_2 : HC := (.reg (.chk none (.idxL 1) (.cons (.inp 2) (.cons (.inp 4) .nil)) (.eff (.ld false 1) (.cons (.op (.idxL 1) (.cons (.inp 2) (.cons (.inp 4) .nil))) .nil) (.eff (.call 97) (.cons (.bv 0) .nil) (.eff (.app 35 35 3 1 8 (.int .i64 0)) (.cons (.inp 3) (.cons (.bv 1) .nil)) (.done [(3, (.bv 2))] none))))))
@[simp] theorem h92_2_wp {P : Program} {F : PF P} {Q : EX → List Value → World → Prop} {env : List Value} {w : World} : h92_2.wp F Q env w = HC.wp F (.reg (.chk none (.idxL 1) (.cons (.inp 2) (.cons (.inp 4) .nil)) (.eff (.ld false 1) (.cons (.op (.idxL 1) (.cons (.inp 2) (.cons (.inp 4) .nil))) .nil) (.eff (.call 97) (.cons (.bv 0) .nil) (.eff (.app 35 35 3 1 8 (.int .i64 0)) (.cons (.inp 3) (.cons (.bv 1) .nil)) (.done [(3, (.bv 2))] none)))))) Q env w := rfl
def h92_3 : HC := (.seq (.block 1 h92_2) h92_1)
@[simp] theorem h92_3_wp {P : Program} {F : PF P} {Q : EX → List Value → World → Prop} {env : List Value} {w : World} : h92_3.wp F Q env w = HC.wp F (.seq (.block 1 h92_2) h92_1) Q env w := rfl
def h92_4 : HC := (.seq (.br (.chk none .lenL (.cons (.inp 2) .nil) (.chk none (.bin .lss) (.cons (.inp 4) (.cons (.op .lenL (.cons (.inp 2) .nil)) .nil)) (.done [] (some (.op (.bin .lss) (.cons (.inp 4) (.cons (.op .lenL (.cons (.inp 2) .nil)) .nil))))))) .skip (.exit 0)) h92_3)
@[simp] theorem h92_4_wp {P : Program} {F : PF P} {Q : EX → List Value → World → Prop} {env : List Value} {w : World} : h92_4.wp F Q env w = HC.wp F (.seq (.br (.chk none .lenL (.cons (.inp 2) .nil) (.chk none (.bin .lss) (.cons (.inp 4) (.cons (.op .lenL (.cons (.inp 2) .nil)) .nil)) (.done [] (some (.op (.bin .lss) (.cons (.inp 4) (.cons (.op .lenL (.cons (.inp 2) .nil)) .nil))))))) .skip (.exit 0)) h92_3) Q env w := rfl
def h92_5 : HC := (.loop h92_4)
@[simp] theorem h92_5_wp {P : Program} {F : PF P} {Q : EX → List Value → World → Prop} {env : List Value} {w : World} : h92_5.wp F Q env w = HC.wp F (.loop h92_4) Q env w := rfl
def h92_6 : HC := (.seq (.block 0 h92_5) h92_0)
@[simp] theorem h92_6_wp {P : Program} {F : PF P} {Q : EX → List Value → World → Prop} {env : List Value} {w : World} : h92_6.wp F Q env w = HC.wp F (.seq (.block 0 h92_5) h92_0) Q env w := rfl
def h92_7 : HC := (.seq (.reg (.done [(4, (.cst (.int .i64 0)))] none)) h92_6)
@[simp] theorem h92_7_wp {P : Program} {F : PF P} {Q : EX → List Value → World → Prop} {env : List Value} {w : World} : h92_7.wp F Q env w = HC.wp F (.seq (.reg (.done [(4, (.cst (.int .i64 0)))] none)) h92_6) Q env w := rfl
def h92_8 : HC := (.seq (.reg (.done [(3, (.cst (.slice none 0 0)))] none)) h92_7)
@[simp] theorem h92_8_wp {P : Program} {F : PF P} {Q : EX → List Value → World → Prop} {env : List Value} {w : World} : h92_8.wp F Q env w = HC.wp F (.seq (.reg (.done [(3, (.cst (.slice none 0 0)))] none)) h92_7) Q env w := rfl
def h92_9 : HC := (.seq (.reg (.eff (.call 80) (.cons (.inp 0) .nil) (.chk none (.ext 0) (.cons (.bv 0) .nil) (.chk none (.ext 1) (.cons (.bv 0) .nil) (.done [(2, (.op (.ext 0) (.cons (.bv 0) .nil)))] none))))) h92_8)
@[simp] theorem h92_9_wp {P : Program} {F : PF P} {Q : EX → List Value → World → Prop} {env : List Value} {w : World} : h92_9.wp F Q env w = HC.wp F (.seq (.reg (.eff (.call 80) (.cons (.inp 0) .nil) (.chk none (.ext 0) (.cons (.bv 0) .nil) (.chk none (.ext 1) (.cons (.bv 0) .nil) (.done [(2, (.op (.ext 0) (.cons (.bv 0) .nil)))] none))))) h92_8) Q env w := rfl
def l92 : Lifted := ⟨[0, 2, 3, 5, 6], 26, [.slot 1], (.seq (.reg (.done [(1, (.cst (.slice none 0 0)))] none)) h92_9)⟩
theorem l92_ok : liftFn F4 92 400 = some l92 := by kernel_rfl

-- bazaar/name.folded
def h50_0 : HC := (.seq (.reg (.done [(1, (.inp 2))] none)) .ret)
@[simp] theorem h50_0_wp {P : Program} {F : PF P} {Q : EX → List Value → World → Prop} {env : List Value} {w : World} : h50_0.wp F Q env w = HC.wp F (.seq (.reg (.done [(1, (.inp 2))] none)) .ret) Q env w := rfl
def h50_1 : HC := (.reg (.chk none (.cal 78) (.cons (.inp 5) .nil) (.eff (.bsl 21 1 1 #[(.int .i32 0)] [0]) (.cons (.op (.cal 78) (.cons (.inp 5) .nil)) .nil) (.eff (.app 84 84 21 1 4 (.int .i32 0)) (.cons (.inp 2) (.cons (.bv 0) .nil)) (.done [(2, (.bv 1))] none)))))
@[simp] theorem h50_1_wp {P : Program} {F : PF P} {Q : EX → List Value → World → Prop} {env : List Value} {w : World} : h50_1.wp F Q env w = HC.wp F (.reg (.chk none (.cal 78) (.cons (.inp 5) .nil) (.eff (.bsl 21 1 1 #[(.int .i32 0)] [0]) (.cons (.op (.cal 78) (.cons (.inp 5) .nil)) .nil) (.eff (.app 84 84 21 1 4 (.int .i32 0)) (.cons (.inp 2) (.cons (.bv 0) .nil)) (.done [(2, (.bv 1))] none))))) Q env w := rfl
def h50_2 : HC := (.seq (.reg (.eff (.bsl 21 2 1 #[(.int .i32 0)] [0, 1]) (.cons (.cst (.int .i32 115)) (.cons (.cst (.int .i32 115)) .nil)) (.eff (.app 84 84 21 1 4 (.int .i32 0)) (.cons (.inp 2) (.cons (.bv 0) .nil)) (.done [(2, (.bv 1))] none)))) (.exit 1))
@[simp] theorem h50_2_wp {P : Program} {F : PF P} {Q : EX → List Value → World → Prop} {env : List Value} {w : World} : h50_2.wp F Q env w = HC.wp F (.seq (.reg (.eff (.bsl 21 2 1 #[(.int .i32 0)] [0, 1]) (.cons (.cst (.int .i32 115)) (.cons (.cst (.int .i32 115)) .nil)) (.eff (.app 84 84 21 1 4 (.int .i32 0)) (.cons (.inp 2) (.cons (.bv 0) .nil)) (.done [(2, (.bv 1))] none)))) (.exit 1)) Q env w := rfl
def h50_3 : HC := (.seq (.br (.chk none (.bin .eql) (.cons (.inp 5) (.cons (.cst (.int .i32 223)) .nil)) (.done [] (some (.op (.bin .eql) (.cons (.inp 5) (.cons (.cst (.int .i32 223)) .nil)))))) h50_2 .skip) h50_1)
@[simp] theorem h50_3_wp {P : Program} {F : PF P} {Q : EX → List Value → World → Prop} {env : List Value} {w : World} : h50_3.wp F Q env w = HC.wp F (.seq (.br (.chk none (.bin .eql) (.cons (.inp 5) (.cons (.cst (.int .i32 223)) .nil)) (.done [] (some (.op (.bin .eql) (.cons (.inp 5) (.cons (.cst (.int .i32 223)) .nil)))))) h50_2 .skip) h50_1) Q env w := rfl
def h50_4 : HC := (.seq (.reg (.chk none (.cal 44) (.cons (.inp 0) (.cons (.inp 3) (.cons (.inp 4) .nil))) (.done [(5, (.op (.cal 44) (.cons (.inp 0) (.cons (.inp 3) (.cons (.inp 4) .nil)))))] none))) h50_3)
@[simp] theorem h50_4_wp {P : Program} {F : PF P} {Q : EX → List Value → World → Prop} {env : List Value} {w : World} : h50_4.wp F Q env w = HC.wp F (.seq (.reg (.chk none (.cal 44) (.cons (.inp 0) (.cons (.inp 3) (.cons (.inp 4) .nil))) (.done [(5, (.op (.cal 44) (.cons (.inp 0) (.cons (.inp 3) (.cons (.inp 4) .nil)))))] none))) h50_3) Q env w := rfl
def h50_5 : HC := (.seq (.reg (.chk none (.ext 1) (.cons (.inp 7) .nil) (.chk none (.ext 2) (.cons (.inp 7) .nil) (.done [(3, (.op (.ext 1) (.cons (.inp 7) .nil))), (4, (.op (.ext 2) (.cons (.inp 7) .nil)))] none)))) h50_4)
@[simp] theorem h50_5_wp {P : Program} {F : PF P} {Q : EX → List Value → World → Prop} {env : List Value} {w : World} : h50_5.wp F Q env w = HC.wp F (.seq (.reg (.chk none (.ext 1) (.cons (.inp 7) .nil) (.chk none (.ext 2) (.cons (.inp 7) .nil) (.done [(3, (.op (.ext 1) (.cons (.inp 7) .nil))), (4, (.op (.ext 2) (.cons (.inp 7) .nil)))] none)))) h50_4) Q env w := rfl
def h50_6 : HC := (.block 1 h50_5)
@[simp] theorem h50_6_wp {P : Program} {F : PF P} {Q : EX → List Value → World → Prop} {env : List Value} {w : World} : h50_6.wp F Q env w = HC.wp F (.block 1 h50_5) Q env w := rfl
def h50_7 : HC := (.seq (.br (.eff (.nxt true 0) (.cons (.inp 6) .nil) (.chk none (.ext 0) (.cons (.bv 0) .nil) (.done [(7, (.bv 0))] (some (.op (.ext 0) (.cons (.bv 0) .nil)))))) .skip (.exit 0)) h50_6)
@[simp] theorem h50_7_wp {P : Program} {F : PF P} {Q : EX → List Value → World → Prop} {env : List Value} {w : World} : h50_7.wp F Q env w = HC.wp F (.seq (.br (.eff (.nxt true 0) (.cons (.inp 6) .nil) (.chk none (.ext 0) (.cons (.bv 0) .nil) (.done [(7, (.bv 0))] (some (.op (.ext 0) (.cons (.bv 0) .nil)))))) .skip (.exit 0)) h50_6) Q env w := rfl
def h50_8 : HC := (.loop h50_7)
@[simp] theorem h50_8_wp {P : Program} {F : PF P} {Q : EX → List Value → World → Prop} {env : List Value} {w : World} : h50_8.wp F Q env w = HC.wp F (.loop h50_7) Q env w := rfl
def h50_9 : HC := (.seq (.block 0 h50_8) h50_0)
@[simp] theorem h50_9_wp {P : Program} {F : PF P} {Q : EX → List Value → World → Prop} {env : List Value} {w : World} : h50_9.wp F Q env w = HC.wp F (.seq (.block 0 h50_8) h50_0) Q env w := rfl
def h50_10 : HC := (.seq (.reg (.eff (.rngS 9) (.cons (.inp 0) .nil) (.done [(6, (.bv 0))] none))) h50_9)
@[simp] theorem h50_10_wp {P : Program} {F : PF P} {Q : EX → List Value → World → Prop} {env : List Value} {w : World} : h50_10.wp F Q env w = HC.wp F (.seq (.reg (.eff (.rngS 9) (.cons (.inp 0) .nil) (.done [(6, (.bv 0))] none))) h50_9) Q env w := rfl
def h50_11 : HC := (.seq (.reg (.chk none .lenS (.cons (.inp 0) .nil) (.eff (.mks 84 21 1 4 (.int .i32 0)) (.cons (.cst (.int .i64 0)) (.cons (.op .lenS (.cons (.inp 0) .nil)) .nil)) (.done [(2, (.bv 0))] none)))) h50_10)
@[simp] theorem h50_11_wp {P : Program} {F : PF P} {Q : EX → List Value → World → Prop} {env : List Value} {w : World} : h50_11.wp F Q env w = HC.wp F (.seq (.reg (.chk none .lenS (.cons (.inp 0) .nil) (.eff (.mks 84 21 1 4 (.int .i32 0)) (.cons (.cst (.int .i64 0)) (.cons (.op .lenS (.cons (.inp 0) .nil)) .nil)) (.done [(2, (.bv 0))] none)))) h50_10) Q env w := rfl
def l50 : Lifted := ⟨[0, 2, 3, 4, 5, 6, 11, 12], 31, [.slot 1], (.seq (.reg (.done [(1, (.cst (.slice none 0 0)))] none)) h50_11)⟩
theorem l50_ok : liftFn F4 50 400 = some l50 := by kernel_rfl


theorem rfold_spec (u : Int) (w0 w : World) (A : Asn) (hu : 0 ≤ u ∧ u < 2097408) (s : St w0 A w) :
    CallW Try.prog 97 [.int .i64 u] (fun r w' => ∃ b, r = .slice (some ⟨b, 0, none⟩) (foldU u).length (foldU u).length ∧ St w0 (A * pt b (.cells (ints (foldU u)).toArray 3 (0, 0))) w') w := by
  have fin : ∀ x b w', foldU u = [x] → St w0 (A * pt b (.cells #[.int .i64 x] 3 (0, 0))) w' →
      ∃ b', (b = b' ∧ 1 = (foldU u).length) ∧ St w0 (A * pt b' (.cells (ints (foldU u)).toArray 3 (0, 0))) w' := by
    intro x b w' h s
    rw [h]
    exact ⟨b, ⟨rfl, rfl⟩, s⟩
  refine callW_of_lift l97_ok (by simp [l97]) ?_
  simp [l97]
  refine cndI (fun h1 => ?_) (fun h1 => ?_)
  · simp at h1
    subst h1
    simp
    refine eff_bsl2 s rfl rfl ?_
    intro b w1 s1
    simp
    exact ⟨b, ⟨rfl, rfl⟩, s1⟩
  simp at h1
  simp
  refine cndI (fun h2 => ?_) (fun h2 => ?_)
  · simp at h2
    subst h2
    simp
    refine eff_bsl1 s rfl ?_
    intro b w1 s1
    simp
    exact fin _ b w1 (by decide) s1
  simp at h2
  simp
  refine cndI (fun h3 => ?_) (fun h3 => ?_)
  · simp at h3
    subst h3
    simp
    refine eff_bsl1 s rfl ?_
    intro b w1 s1
    simp
    exact fin _ b w1 (by decide) s1
  simp at h3
  simp
  refine cndI (fun h4 => ?_) (fun h4 => ?_)
  · simp at h4
    simp
    refine eff_bsl1 s rfl ?_
    intro b w1 s1
    simp
    exact fin _ b w1 (by rcases h4 with rfl | rfl <;> decide) s1
  simp at h4
  simp
  refine cndI (fun h5 => ?_) (fun h5 => ?_)
  · simp [inF] at h5
    simp
    try simp (disch := omega) only [wrap64]
    refine eff_bsl1 s rfl ?_
    intro b w1 s1
    simp
    exact fin _ b w1 (by unfold foldU foldF; rw [if_neg h1, if_pos (by omega)]) s1
  simp [inF] at h5
  simp
  refine eff_bsl1 s rfl ?_
  intro b w1 s1
  simp
  exact fin _ b w1 (by unfold foldU foldF; rw [if_neg h1, if_neg (by omega), if_neg h2, if_neg h3]) s1
theorem rfolded_spec (l : List UInt8) (w0 w : World) (A : Asn) (hl : l.length ≤ 1048576) (s : St w0 A w) :
    CallW Try.prog 92 [.string (mk l)] (fun r w' => St w0 (A * own 3 1 r (foldedF l).length (ints (foldedF l))) w') w := by
  refine callW_of_lift l92_ok (by simp [l92]) ?_
  simp [l92]
  refine eff_call ((units_spec l w0 w A hl s).mono ?_)
  rintro r w1 ⟨v1, v2, rfl, s1⟩
  obtain ⟨a1, c1, rfl, hc1, hn1⟩ := s1.swap.own_val
  have hul := units_len l
  simp
  refine loopI (fun env w' => ∃ (i : Nat) (v : Value), env = [.string (mk l), .slice none 0 0, .slice a1 (units l).length c1, v, .int .i64 i] ∧ i ≤ (units l).length ∧
      St w0 (A * own 3 1 (.slice a1 (units l).length c1) (units l).length (ints ((units l).map (·.1))) * own 3 1 v (foldAll ((units l).take i)).length (ints (foldAll ((units l).take i)))) w')
    (fun env _ => (units l).length - slotN env 4) ⟨0, _, rfl, by omega, by simpa [foldAll, ints] using s1.drop.own_nil 3 1⟩ ?_
  rintro LQ env w' ⟨i, v, rfl, hi, s'⟩ hN hE hR
  simp
  refine cndI (fun h => ?_) (fun h => ?_)
  · simp at h
    obtain ⟨g1, c1', e1, _, hcell⟩ := s'.swap.own_at (by omega)
    cases e1
    have hui := hcell i (.int .i64 (units l)[i].1) (by simp [ints, h])
    simp
    refine ⟨h, eff_ldc hui ?_⟩
    simp
    have hub := units_at l h
    refine eff_call ((rfold_spec _ w0 _ _ hub s').mono ?_)
    rintro r w2 ⟨b, rfl, s2⟩
    have hfl := foldAll_len ((units l).take i)
    rw [List.length_take] at hfl
    have hfu := (foldU_len (units l)[i].1).1
    simp
    refine eff_app (n := (foldAll ((units l).take i)).length) (m := (foldU (units l)[i].1).length) (news := ints (foldU (units l)[i].1)) s2.swap (by simp [ints]) s2.cells_look (ints_one _) (by decide) rfl (by unfold maxLen; omega) (by omega) ?_
    intro v' w3 s3
    simp
    try simp (disch := omega) only [wrap64]
    refine hN _ _ ⟨i + 1, v', by simp, h, ?_⟩ (by simp [slotN]; omega)
    rw [List.take_succ_eq_append_getElem h, foldAll_snoc]
    simpa [ints] using s3.swap.drop
  · simp at h
    simp
    refine hE _ _ _ ?_
    simp
    have : i = (units l).length := by omega
    subst this
    rw [List.take_length] at s'
    exact s'.swap.drop
/-- how far a walk over a text has come -/
def iterN (w : World) (b : Nat) : Nat := match w.heap[b]? with
  | some (.stringIter _ p) => p
  | _ => 0
theorem iterN_eq {w0 w : World} {F : Asn} {b p : Nat} {x : ByteArray} (s : St w0 (F * pt b (.stringIter x p)) w) : iterN w b = p := by unfold iterN; rw [s.look]
theorem folded_spec (l : List UInt8) (w0 w : World) (A : Asn) (hl : l.length ≤ 1048576) (s : St w0 A w) :
    CallW Try.prog 50 [.string (mk l)] (fun r w' => St w0 (A * own 21 1 r (foldedF l).length (ints32 (foldedF l))) w') w := by
  have hul := units_len l
  refine callW_of_lift l50_ok (by simp [l50]) ?_
  simp [l50]
  refine eff_mks (l := 0) (c := l.length) s (by omega) (by unfold maxLen; omega) (by omega) rfl ?_
  intro v w1 s1
  simp
  refine eff_rngS s1 ?_
  intro b w2 s2
  simp
  refine loopI (fun env w' => ∃ (i : Nat) (done : List (Int × Nat)) (v x y z t : Value), env = [.string (mk l), .slice none 0 0, v, x, y, z, .pointer (some ⟨b, 0, none⟩), t] ∧
      i ≤ l.length ∧ units l = done ++ units (l.drop i) ∧ St w0 (A * own 21 1 v (foldAll done).length (ints32 (foldAll done)) * pt b (.stringIter (mk l) i)) w')
    (fun _ w => l.length - iterN w b) ⟨0, [], _, _, _, _, _, rfl, by omega, by simp, by simpa [foldAll, ints32] using s2⟩ ?_
  rintro LQ env w' ⟨i, done, v, x, y, z, t, rfl, hi, hu, s'⟩ hN hE hR
  simp
  refine eff_nxtS s' (fun h w2 s2 => ?_) (fun h => ?_)
  · simp at h
    have hle := oneF_le (l := l) (i := i) h
    have hob := oneF_bd (l := l.drop i) (by simp; omega)
    rw [decode_decL, decL_oneF _ (by simp; omega)] at s2
    have hstep := units_step hu h
    rw [decode_decL, decL_oneF _ (by simp; omega)]
    simp
    refine ⟨⟨hl, h⟩, ?_⟩
    have hdl : done.length + 1 ≤ l.length := by rw [hstep] at hul; simp at hul; omega
    have hfl := foldAll_len done
    refine cndI (fun h1 => ?_) (fun h1 => ?_)
    · simp at h1
      simp
      refine eff_bsl2 s2.swap rfl rfl ?_
      intro b2 w3 s3
      simp
      refine eff_app (n := (foldAll done).length) (m := 2) (news := [.int .i32 115, .int .i32 115]) s3.swap rfl s3.cells_look (by simp [Value.oneCell']) (by decide) rfl (by unfold maxLen; omega) (by omega) ?_
      intro v' w4 s4
      simp
      refine hN _ _ ⟨i + (oneF (l.drop i)).2, done ++ [oneF (l.drop i)], v', _, _, _, _, by simp; exact ⟨rfl, rfl, rfl, rfl⟩, hle.1, hstep, ?_⟩ ?_
      · rw [foldAll_snoc, foldU, if_pos h1]
        simpa [ints32] using s4.swap.drop.swap
      · rw [iterN_eq s', iterN_eq s4.swap.drop.swap]; omega
    · simp at h1
      simp
      refine ⟨by omega, ?_⟩
      refine eff_bsl1 s2.swap rfl ?_
      intro b2 w3 s3
      simp
      refine eff_app (n := (foldAll done).length) (m := 1) (news := [.int .i32 (foldF (oneF (l.drop i)).1)]) s3.swap rfl s3.cells_look (by simp [Value.oneCell']) (by decide) rfl (by unfold maxLen; omega) (by omega) ?_
      intro v' w4 s4
      simp
      refine hN _ _ ⟨i + (oneF (l.drop i)).2, done ++ [oneF (l.drop i)], v', _, _, _, _, by simp; exact ⟨rfl, rfl, rfl, rfl⟩, hle.1, hstep, ?_⟩ ?_
      · rw [foldAll_snoc, foldU, if_neg h1]
        simpa [ints32] using s4.swap.drop.swap
      · rw [iterN_eq s', iterN_eq s4.swap.drop.swap]; omega
  · simp at h
    simp
    refine hE _ _ _ ?_
    simp
    have : i = l.length := by omega
    subst this
    rw [List.drop_length, units_nil, List.append_nil] at hu
    rw [foldedF, hu]
    exact s'.drop
end Go.HL.Nm
