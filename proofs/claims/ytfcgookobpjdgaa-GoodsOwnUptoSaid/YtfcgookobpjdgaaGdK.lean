/-
  Goods: the law GoodsBack: the walk. Conditions: so many acts at most.
-/
import Derived.Test.YtfcgookobpjdgaaGdJ
namespace Go.HL.Gd
open Go.HL Go.Proofs
set_option maxRecDepth 4000
set_option linter.unusedSimpArgs false
set_option linter.unusedVariables false
theorem scan_ok {lim : Int} {its : List It} (hg : GI lim its) : ∀ i, i ≤ its.length → scanE i (its.drop i) = 0 := by
  intro i
  generalize hn : its.length - i = n
  induction n generalizing i with
  | zero =>
    intro hi
    rw [List.drop_of_length_le (by omega)]
    rfl
  | succ n ih =>
    intro hi
    have h : i < its.length := by omega
    rw [List.drop_eq_getElem_cons h]
    have hE : itemE i its[i] = 0 := by
      have h1 := hg.num i h
      have h2 := hg.kind its[i] (List.getElem_mem h)
      have h3 := hg.place its[i] (List.getElem_mem h)
      unfold itemE
      rw [if_neg (by omega), if_neg (by simp [kindF]; omega), if_neg]
      rintro (h' | ⟨h', h''⟩ | ⟨h', h''⟩)
      · omega
      · omega
      · rcases h3 with ⟨_, h4, h5⟩ | ⟨h4, _⟩
        · have : accF its[i].acc = true := (acc_iff _).2 ⟨h4, h5⟩
          rw [this] at h''; cases h''
        · exact h' h4
    show (if itemE i its[i] = 0 then scanE (i + 1) (its.drop (i + 1)) else itemE i its[i]) = 0
    rw [if_pos hE]
    exact ih (i + 1) (by omega) (by omega)
theorem load_ok {lim : Int} {its : List It} (hg : GI lim its) : loadE lim its = 0 := by
  have h1 := hg.len
  have h2 := hg.lim
  unfold loadE
  rw [if_pos (by omega), if_neg (by omega)]
  have := scan_ok hg 0 (Nat.zero_le _)
  simpa using this
-- bazaar/bazaarlaw15.GoodsBack
def h4_0 : HC := (.seq (.reg (.eff (.call 18) (.cons (.inp 9) .nil) (.eff (.call 18) (.cons (.inp 5) .nil) (.chk none (.bin .eql) (.cons (.bv 0) (.cons (.bv 1) .nil)) (.bnd (.op (.bin .eql) (.cons (.bv 0) (.cons (.bv 1) .nil))) (.ite (.bv 2) true (.eff (.call 18) (.cons (.ite (.bv 2) true (.inp 8) (.cst (.tuple #[]))) .nil) (.eff (.call 18) (.cons (.inp 5) .nil) (.chk none (.bin .eql) (.cons (.bv 3) (.cons (.bv 4) .nil)) (.isb none (.bv 2) (.done [(4, (.op (.bin .eql) (.cons (.bv 3) (.cons (.bv 4) .nil))))] none))))) (.isb none (.bv 2) (.done [(4, (.cst (.bool false)))] none)))))))) .ret)
@[simp] theorem h4_0_wp {P : Program} {F : PF P} {Q : EX → List Value → World → Prop} {env : List Value} {w : World} : h4_0.wp F Q env w = HC.wp F (.seq (.reg (.eff (.call 18) (.cons (.inp 9) .nil) (.eff (.call 18) (.cons (.inp 5) .nil) (.chk none (.bin .eql) (.cons (.bv 0) (.cons (.bv 1) .nil)) (.bnd (.op (.bin .eql) (.cons (.bv 0) (.cons (.bv 1) .nil))) (.ite (.bv 2) true (.eff (.call 18) (.cons (.ite (.bv 2) true (.inp 8) (.cst (.tuple #[]))) .nil) (.eff (.call 18) (.cons (.inp 5) .nil) (.chk none (.bin .eql) (.cons (.bv 3) (.cons (.bv 4) .nil)) (.isb none (.bv 2) (.done [(4, (.op (.bin .eql) (.cons (.bv 3) (.cons (.bv 4) .nil))))] none))))) (.isb none (.bv 2) (.done [(4, (.cst (.bool false)))] none)))))))) .ret) Q env w := rfl
def h4_1 : HC := (.reg (.chk none (.bin .add) (.cons (.inp 14) (.cons (.cst (.int .i64 1)) .nil)) (.done [(14, (.op (.bin .add) (.cons (.inp 14) (.cons (.cst (.int .i64 1)) .nil))))] none)))
@[simp] theorem h4_1_wp {P : Program} {F : PF P} {Q : EX → List Value → World → Prop} {env : List Value} {w : World} : h4_1.wp F Q env w = HC.wp F (.reg (.chk none (.bin .add) (.cons (.inp 14) (.cons (.cst (.int .i64 1)) .nil)) (.done [(14, (.op (.bin .add) (.cons (.inp 14) (.cons (.cst (.int .i64 1)) .nil))))] none))) Q env w := rfl
def h4_2 : HC := (.seq (.reg (.done [(4, (.cst (.bool false)))] none)) .ret)
@[simp] theorem h4_2_wp {P : Program} {F : PF P} {Q : EX → List Value → World → Prop} {env : List Value} {w : World} : h4_2.wp F Q env w = HC.wp F (.seq (.reg (.done [(4, (.cst (.bool false)))] none)) .ret) Q env w := rfl
def h4_3 : HC := (.br (.chk none (.idxL 3) (.cons (.inp 2) (.cons (.inp 14) .nil)) (.eff (.ld true 3) (.cons (.op (.idxL 3) (.cons (.inp 2) (.cons (.inp 14) .nil))) .nil) (.eff (.call 12) (.cons (.inp 8) (.cons (.bv 0) .nil)) (.chk none (.bin .neq) (.cons (.bv 1) (.cons (.inp 15) .nil)) (.bnd (.op (.bin .neq) (.cons (.bv 1) (.cons (.inp 15) .nil))) (.chk (some ((.bv 2), false)) (.idxL 3) (.cons (.inp 2) (.cons (.inp 14) .nil)) (.ite (.bv 2) false (.eff (.ld true 3) (.cons (.ite (.bv 2) false (.op (.idxL 3) (.cons (.inp 2) (.cons (.inp 14) .nil))) (.cst (.tuple #[]))) .nil) (.eff (.call 12) (.cons (.ite (.bv 2) false (.inp 9) (.cst (.tuple #[]))) (.cons (.bv 3) .nil)) (.chk none (.bin .neq) (.cons (.bv 4) (.cons (.inp 15) .nil)) (.isb none (.bv 2) (.bnd (.op (.bin .neq) (.cons (.bv 4) (.cons (.inp 15) .nil))) (.ite (.bv 5) false (.eff (.call 11) (.cons (.ite (.bv 5) false (.inp 8) (.cst (.tuple #[]))) .nil) (.eff (.call 11) (.cons (.inp 5) .nil) (.eff (.call 13) (.cons (.bv 6) (.cons (.bv 7) .nil)) (.chk none (.un .not) (.cons (.bv 8) .nil) (.isb none (.bv 5) (.bnd (.op (.un .not) (.cons (.bv 8) .nil)) (.ite (.bv 9) false (.eff (.call 11) (.cons (.ite (.bv 9) false (.inp 9) (.cst (.tuple #[]))) .nil) (.eff (.call 11) (.cons (.inp 5) .nil) (.eff (.call 13) (.cons (.bv 10) (.cons (.bv 11) .nil)) (.chk none (.un .not) (.cons (.bv 12) .nil) (.isb none (.bv 9) (.done [] (some (.op (.un .not) (.cons (.bv 12) .nil))))))))) (.isb none (.bv 9) (.done [] (some (.cst (.bool true)))))))))))) (.isb none (.bv 5) (.isb none (.cst (.bool true)) (.done [] (some (.cst (.bool true)))))))))))) (.isb none (.bv 2) (.isb none (.cst (.bool true)) (.isb none (.cst (.bool true)) (.done [] (some (.cst (.bool true)))))))))))))) h4_2 .skip)
@[simp] theorem h4_3_wp {P : Program} {F : PF P} {Q : EX → List Value → World → Prop} {env : List Value} {w : World} : h4_3.wp F Q env w = HC.wp F (.br (.chk none (.idxL 3) (.cons (.inp 2) (.cons (.inp 14) .nil)) (.eff (.ld true 3) (.cons (.op (.idxL 3) (.cons (.inp 2) (.cons (.inp 14) .nil))) .nil) (.eff (.call 12) (.cons (.inp 8) (.cons (.bv 0) .nil)) (.chk none (.bin .neq) (.cons (.bv 1) (.cons (.inp 15) .nil)) (.bnd (.op (.bin .neq) (.cons (.bv 1) (.cons (.inp 15) .nil))) (.chk (some ((.bv 2), false)) (.idxL 3) (.cons (.inp 2) (.cons (.inp 14) .nil)) (.ite (.bv 2) false (.eff (.ld true 3) (.cons (.ite (.bv 2) false (.op (.idxL 3) (.cons (.inp 2) (.cons (.inp 14) .nil))) (.cst (.tuple #[]))) .nil) (.eff (.call 12) (.cons (.ite (.bv 2) false (.inp 9) (.cst (.tuple #[]))) (.cons (.bv 3) .nil)) (.chk none (.bin .neq) (.cons (.bv 4) (.cons (.inp 15) .nil)) (.isb none (.bv 2) (.bnd (.op (.bin .neq) (.cons (.bv 4) (.cons (.inp 15) .nil))) (.ite (.bv 5) false (.eff (.call 11) (.cons (.ite (.bv 5) false (.inp 8) (.cst (.tuple #[]))) .nil) (.eff (.call 11) (.cons (.inp 5) .nil) (.eff (.call 13) (.cons (.bv 6) (.cons (.bv 7) .nil)) (.chk none (.un .not) (.cons (.bv 8) .nil) (.isb none (.bv 5) (.bnd (.op (.un .not) (.cons (.bv 8) .nil)) (.ite (.bv 9) false (.eff (.call 11) (.cons (.ite (.bv 9) false (.inp 9) (.cst (.tuple #[]))) .nil) (.eff (.call 11) (.cons (.inp 5) .nil) (.eff (.call 13) (.cons (.bv 10) (.cons (.bv 11) .nil)) (.chk none (.un .not) (.cons (.bv 12) .nil) (.isb none (.bv 9) (.done [] (some (.op (.un .not) (.cons (.bv 12) .nil))))))))) (.isb none (.bv 9) (.done [] (some (.cst (.bool true)))))))))))) (.isb none (.bv 5) (.isb none (.cst (.bool true)) (.done [] (some (.cst (.bool true)))))))))))) (.isb none (.bv 2) (.isb none (.cst (.bool true)) (.isb none (.cst (.bool true)) (.done [] (some (.cst (.bool true)))))))))))))) h4_2 .skip) Q env w := rfl
def h4_4 : HC := (.seq (.reg (.chk none (.idxL 3) (.cons (.inp 2) (.cons (.inp 14) .nil)) (.eff (.ld true 3) (.cons (.op (.idxL 3) (.cons (.inp 2) (.cons (.inp 14) .nil))) .nil) (.eff (.call 12) (.cons (.inp 5) (.cons (.bv 0) .nil)) (.done [(15, (.bv 1))] none))))) h4_3)
@[simp] theorem h4_4_wp {P : Program} {F : PF P} {Q : EX → List Value → World → Prop} {env : List Value} {w : World} : h4_4.wp F Q env w = HC.wp F (.seq (.reg (.chk none (.idxL 3) (.cons (.inp 2) (.cons (.inp 14) .nil)) (.eff (.ld true 3) (.cons (.op (.idxL 3) (.cons (.inp 2) (.cons (.inp 14) .nil))) .nil) (.eff (.call 12) (.cons (.inp 5) (.cons (.bv 0) .nil)) (.done [(15, (.bv 1))] none))))) h4_3) Q env w := rfl
def h4_5 : HC := (.seq (.block 5 h4_4) h4_1)
@[simp] theorem h4_5_wp {P : Program} {F : PF P} {Q : EX → List Value → World → Prop} {env : List Value} {w : World} : h4_5.wp F Q env w = HC.wp F (.seq (.block 5 h4_4) h4_1) Q env w := rfl
def h4_6 : HC := (.seq (.br (.chk none .lenL (.cons (.inp 2) .nil) (.chk none (.bin .lss) (.cons (.inp 14) (.cons (.op .lenL (.cons (.inp 2) .nil)) .nil)) (.done [] (some (.op (.bin .lss) (.cons (.inp 14) (.cons (.op .lenL (.cons (.inp 2) .nil)) .nil))))))) .skip (.exit 4)) h4_5)
@[simp] theorem h4_6_wp {P : Program} {F : PF P} {Q : EX → List Value → World → Prop} {env : List Value} {w : World} : h4_6.wp F Q env w = HC.wp F (.seq (.br (.chk none .lenL (.cons (.inp 2) .nil) (.chk none (.bin .lss) (.cons (.inp 14) (.cons (.op .lenL (.cons (.inp 2) .nil)) .nil)) (.done [] (some (.op (.bin .lss) (.cons (.inp 14) (.cons (.op .lenL (.cons (.inp 2) .nil)) .nil))))))) .skip (.exit 4)) h4_5) Q env w := rfl
def h4_7 : HC := (.loop h4_6)
@[simp] theorem h4_7_wp {P : Program} {F : PF P} {Q : EX → List Value → World → Prop} {env : List Value} {w : World} : h4_7.wp F Q env w = HC.wp F (.loop h4_6) Q env w := rfl
def h4_8 : HC := (.seq (.block 4 h4_7) h4_0)
@[simp] theorem h4_8_wp {P : Program} {F : PF P} {Q : EX → List Value → World → Prop} {env : List Value} {w : World} : h4_8.wp F Q env w = HC.wp F (.seq (.block 4 h4_7) h4_0) Q env w := rfl
def h4_9 : HC := (.seq (.reg (.done [(14, (.cst (.int .i64 0)))] none)) h4_8)
@[simp] theorem h4_9_wp {P : Program} {F : PF P} {Q : EX → List Value → World → Prop} {env : List Value} {w : World} : h4_9.wp F Q env w = HC.wp F (.seq (.reg (.done [(14, (.cst (.int .i64 0)))] none)) h4_8) Q env w := rfl
def h4_10 : HC := (.seq (.reg (.done [(4, (.cst (.bool false)))] none)) .ret)
@[simp] theorem h4_10_wp {P : Program} {F : PF P} {Q : EX → List Value → World → Prop} {env : List Value} {w : World} : h4_10.wp F Q env w = HC.wp F (.seq (.reg (.done [(4, (.cst (.bool false)))] none)) .ret) Q env w := rfl
def h4_11 : HC := (.seq (.br (.eff (.call 11) (.cons (.inp 5) .nil) (.eff (.call 13) (.cons (.bv 0) (.cons (.inp 11) .nil)) (.chk none (.un .not) (.cons (.bv 1) .nil) (.bnd (.op (.un .not) (.cons (.bv 1) .nil)) (.ite (.bv 2) false (.eff (.call 11) (.cons (.ite (.bv 2) false (.inp 8) (.cst (.tuple #[]))) .nil) (.eff (.call 13) (.cons (.bv 3) (.cons (.inp 11) .nil)) (.chk none (.un .not) (.cons (.bv 4) .nil) (.isb none (.bv 2) (.bnd (.op (.un .not) (.cons (.bv 4) .nil)) (.ite (.bv 5) false (.eff (.call 11) (.cons (.ite (.bv 5) false (.inp 9) (.cst (.tuple #[]))) .nil) (.eff (.call 13) (.cons (.bv 6) (.cons (.inp 11) .nil)) (.chk none (.un .not) (.cons (.bv 7) .nil) (.isb none (.bv 5) (.done [] (some (.op (.un .not) (.cons (.bv 7) .nil)))))))) (.isb none (.bv 5) (.done [] (some (.cst (.bool true))))))))))) (.isb none (.bv 2) (.isb none (.cst (.bool true)) (.done [] (some (.cst (.bool true))))))))))) h4_10 .skip) h4_9)
@[simp] theorem h4_11_wp {P : Program} {F : PF P} {Q : EX → List Value → World → Prop} {env : List Value} {w : World} : h4_11.wp F Q env w = HC.wp F (.seq (.br (.eff (.call 11) (.cons (.inp 5) .nil) (.eff (.call 13) (.cons (.bv 0) (.cons (.inp 11) .nil)) (.chk none (.un .not) (.cons (.bv 1) .nil) (.bnd (.op (.un .not) (.cons (.bv 1) .nil)) (.ite (.bv 2) false (.eff (.call 11) (.cons (.ite (.bv 2) false (.inp 8) (.cst (.tuple #[]))) .nil) (.eff (.call 13) (.cons (.bv 3) (.cons (.inp 11) .nil)) (.chk none (.un .not) (.cons (.bv 4) .nil) (.isb none (.bv 2) (.bnd (.op (.un .not) (.cons (.bv 4) .nil)) (.ite (.bv 5) false (.eff (.call 11) (.cons (.ite (.bv 5) false (.inp 9) (.cst (.tuple #[]))) .nil) (.eff (.call 13) (.cons (.bv 6) (.cons (.inp 11) .nil)) (.chk none (.un .not) (.cons (.bv 7) .nil) (.isb none (.bv 5) (.done [] (some (.op (.un .not) (.cons (.bv 7) .nil)))))))) (.isb none (.bv 5) (.done [] (some (.cst (.bool true))))))))))) (.isb none (.bv 2) (.isb none (.cst (.bool true)) (.done [] (some (.cst (.bool true))))))))))) h4_10 .skip) h4_9) Q env w := rfl
def h4_12 : HC := (.reg (.chk none (.bin .add) (.cons (.inp 13) (.cons (.cst (.int .i64 1)) .nil)) (.done [(13, (.op (.bin .add) (.cons (.inp 13) (.cons (.cst (.int .i64 1)) .nil))))] none)))
@[simp] theorem h4_12_wp {P : Program} {F : PF P} {Q : EX → List Value → World → Prop} {env : List Value} {w : World} : h4_12.wp F Q env w = HC.wp F (.reg (.chk none (.bin .add) (.cons (.inp 13) (.cons (.cst (.int .i64 1)) .nil)) (.done [(13, (.op (.bin .add) (.cons (.inp 13) (.cons (.cst (.int .i64 1)) .nil))))] none))) Q env w := rfl
def h4_13 : HC := (.reg (.chk none (.idxL 3) (.cons (.inp 3) (.cons (.inp 13) .nil)) (.eff (.ld true 3) (.cons (.op (.idxL 3) (.cons (.inp 3) (.cons (.inp 13) .nil))) .nil) (.eff (.call 12) (.cons (.inp 12) (.cons (.bv 0) .nil)) (.done [] none)))))
@[simp] theorem h4_13_wp {P : Program} {F : PF P} {Q : EX → List Value → World → Prop} {env : List Value} {w : World} : h4_13.wp F Q env w = HC.wp F (.reg (.chk none (.idxL 3) (.cons (.inp 3) (.cons (.inp 13) .nil)) (.eff (.ld true 3) (.cons (.op (.idxL 3) (.cons (.inp 3) (.cons (.inp 13) .nil))) .nil) (.eff (.call 12) (.cons (.inp 12) (.cons (.bv 0) .nil)) (.done [] none))))) Q env w := rfl
def h4_14 : HC := (.seq (.block 3 h4_13) h4_12)
@[simp] theorem h4_14_wp {P : Program} {F : PF P} {Q : EX → List Value → World → Prop} {env : List Value} {w : World} : h4_14.wp F Q env w = HC.wp F (.seq (.block 3 h4_13) h4_12) Q env w := rfl
def h4_15 : HC := (.seq (.br (.chk none .lenL (.cons (.inp 3) .nil) (.chk none (.bin .lss) (.cons (.inp 13) (.cons (.op .lenL (.cons (.inp 3) .nil)) .nil)) (.done [] (some (.op (.bin .lss) (.cons (.inp 13) (.cons (.op .lenL (.cons (.inp 3) .nil)) .nil))))))) .skip (.exit 2)) h4_14)
@[simp] theorem h4_15_wp {P : Program} {F : PF P} {Q : EX → List Value → World → Prop} {env : List Value} {w : World} : h4_15.wp F Q env w = HC.wp F (.seq (.br (.chk none .lenL (.cons (.inp 3) .nil) (.chk none (.bin .lss) (.cons (.inp 13) (.cons (.op .lenL (.cons (.inp 3) .nil)) .nil)) (.done [] (some (.op (.bin .lss) (.cons (.inp 13) (.cons (.op .lenL (.cons (.inp 3) .nil)) .nil))))))) .skip (.exit 2)) h4_14) Q env w := rfl
def h4_16 : HC := (.loop h4_15)
@[simp] theorem h4_16_wp {P : Program} {F : PF P} {Q : EX → List Value → World → Prop} {env : List Value} {w : World} : h4_16.wp F Q env w = HC.wp F (.loop h4_15) Q env w := rfl
def h4_17 : HC := (.seq (.block 2 h4_16) h4_11)
@[simp] theorem h4_17_wp {P : Program} {F : PF P} {Q : EX → List Value → World → Prop} {env : List Value} {w : World} : h4_17.wp F Q env w = HC.wp F (.seq (.block 2 h4_16) h4_11) Q env w := rfl
def h4_18 : HC := (.seq (.reg (.done [(13, (.cst (.int .i64 0)))] none)) h4_17)
@[simp] theorem h4_18_wp {P : Program} {F : PF P} {Q : EX → List Value → World → Prop} {env : List Value} {w : World} : h4_18.wp F Q env w = HC.wp F (.seq (.reg (.done [(13, (.cst (.int .i64 0)))] none)) h4_17) Q env w := rfl
def h4_19 : HC := (.seq (.reg (.eff (.call 16) (.cons (.inp 8) .nil) (.done [(12, (.bv 0))] none))) h4_18)
@[simp] theorem h4_19_wp {P : Program} {F : PF P} {Q : EX → List Value → World → Prop} {env : List Value} {w : World} : h4_19.wp F Q env w = HC.wp F (.seq (.reg (.eff (.call 16) (.cons (.inp 8) .nil) (.done [(12, (.bv 0))] none))) h4_18) Q env w := rfl
def h4_20 : HC := (.seq (.reg (.eff (.call 11) (.cons (.inp 5) .nil) (.done [(11, (.bv 0))] none))) h4_19)
@[simp] theorem h4_20_wp {P : Program} {F : PF P} {Q : EX → List Value → World → Prop} {env : List Value} {w : World} : h4_20.wp F Q env w = HC.wp F (.seq (.reg (.eff (.call 11) (.cons (.inp 5) .nil) (.done [(11, (.bv 0))] none))) h4_19) Q env w := rfl
def h4_21 : HC := (.seq (.reg (.done [(4, (.cst (.bool false)))] none)) .ret)
@[simp] theorem h4_21_wp {P : Program} {F : PF P} {Q : EX → List Value → World → Prop} {env : List Value} {w : World} : h4_21.wp F Q env w = HC.wp F (.seq (.reg (.done [(4, (.cst (.bool false)))] none)) .ret) Q env w := rfl
def h4_22 : HC := (.seq (.br (.chk none (.cal 10) (.cons (.inp 10) .nil) (.chk none (.bin .neq) (.cons (.op (.cal 10) (.cons (.inp 10) .nil)) (.cons (.cst (.int .i64 0)) .nil)) (.bnd (.op (.bin .neq) (.cons (.op (.cal 10) (.cons (.inp 10) .nil)) (.cons (.cst (.int .i64 0)) .nil))) (.chk (some ((.bv 0), false)) (.eqNil false (.pointer 71) (.pointer none)) (.cons (.inp 8) .nil) (.isb none (.bv 0) (.bnd (.ite (.bv 0) true (.cst (.bool true)) (.op (.eqNil false (.pointer 71) (.pointer none)) (.cons (.inp 8) .nil))) (.chk (some ((.bv 1), false)) (.eqNil false (.pointer 71) (.pointer none)) (.cons (.inp 9) .nil) (.isb none (.bv 1) (.done [] (some (.ite (.bv 1) true (.cst (.bool true)) (.op (.eqNil false (.pointer 71) (.pointer none)) (.cons (.inp 9) .nil))))))))))))) h4_21 .skip) h4_20)
@[simp] theorem h4_22_wp {P : Program} {F : PF P} {Q : EX → List Value → World → Prop} {env : List Value} {w : World} : h4_22.wp F Q env w = HC.wp F (.seq (.br (.chk none (.cal 10) (.cons (.inp 10) .nil) (.chk none (.bin .neq) (.cons (.op (.cal 10) (.cons (.inp 10) .nil)) (.cons (.cst (.int .i64 0)) .nil)) (.bnd (.op (.bin .neq) (.cons (.op (.cal 10) (.cons (.inp 10) .nil)) (.cons (.cst (.int .i64 0)) .nil))) (.chk (some ((.bv 0), false)) (.eqNil false (.pointer 71) (.pointer none)) (.cons (.inp 8) .nil) (.isb none (.bv 0) (.bnd (.ite (.bv 0) true (.cst (.bool true)) (.op (.eqNil false (.pointer 71) (.pointer none)) (.cons (.inp 8) .nil))) (.chk (some ((.bv 1), false)) (.eqNil false (.pointer 71) (.pointer none)) (.cons (.inp 9) .nil) (.isb none (.bv 1) (.done [] (some (.ite (.bv 1) true (.cst (.bool true)) (.op (.eqNil false (.pointer 71) (.pointer none)) (.cons (.inp 9) .nil))))))))))))) h4_21 .skip) h4_20) Q env w := rfl
def h4_23 : HC := (.seq (.reg (.eff (.call 18) (.cons (.inp 5) .nil) (.eff (.call 11) (.cons (.inp 5) .nil) (.eff (.call 17) (.cons (.bv 0) (.cons (.bv 1) .nil)) (.chk none (.ext 0) (.cons (.bv 2) .nil) (.chk none (.ext 1) (.cons (.bv 2) .nil) (.done [(9, (.op (.ext 0) (.cons (.bv 2) .nil))), (10, (.op (.ext 1) (.cons (.bv 2) .nil)))] none))))))) h4_22)
@[simp] theorem h4_23_wp {P : Program} {F : PF P} {Q : EX → List Value → World → Prop} {env : List Value} {w : World} : h4_23.wp F Q env w = HC.wp F (.seq (.reg (.eff (.call 18) (.cons (.inp 5) .nil) (.eff (.call 11) (.cons (.inp 5) .nil) (.eff (.call 17) (.cons (.bv 0) (.cons (.bv 1) .nil)) (.chk none (.ext 0) (.cons (.bv 2) .nil) (.chk none (.ext 1) (.cons (.bv 2) .nil) (.done [(9, (.op (.ext 0) (.cons (.bv 2) .nil))), (10, (.op (.ext 1) (.cons (.bv 2) .nil)))] none))))))) h4_22) Q env w := rfl
def h4_24 : HC := (.seq (.reg (.eff (.call 16) (.cons (.inp 5) .nil) (.done [(8, (.bv 0))] none))) h4_23)
@[simp] theorem h4_24_wp {P : Program} {F : PF P} {Q : EX → List Value → World → Prop} {env : List Value} {w : World} : h4_24.wp F Q env w = HC.wp F (.seq (.reg (.eff (.call 16) (.cons (.inp 5) .nil) (.done [(8, (.bv 0))] none))) h4_23) Q env w := rfl
def h4_25 : HC := (.reg (.chk none (.bin .add) (.cons (.inp 7) (.cons (.cst (.int .i64 1)) .nil)) (.done [(7, (.op (.bin .add) (.cons (.inp 7) (.cons (.cst (.int .i64 1)) .nil))))] none)))
@[simp] theorem h4_25_wp {P : Program} {F : PF P} {Q : EX → List Value → World → Prop} {env : List Value} {w : World} : h4_25.wp F Q env w = HC.wp F (.reg (.chk none (.bin .add) (.cons (.inp 7) (.cons (.cst (.int .i64 1)) .nil)) (.done [(7, (.op (.bin .add) (.cons (.inp 7) (.cons (.cst (.int .i64 1)) .nil))))] none))) Q env w := rfl
def h4_26 : HC := (.reg (.chk none (.idxL 3) (.cons (.inp 1) (.cons (.inp 7) .nil)) (.eff (.ld true 3) (.cons (.op (.idxL 3) (.cons (.inp 1) (.cons (.inp 7) .nil))) .nil) (.eff (.call 12) (.cons (.inp 5) (.cons (.bv 0) .nil)) (.done [] none)))))
@[simp] theorem h4_26_wp {P : Program} {F : PF P} {Q : EX → List Value → World → Prop} {env : List Value} {w : World} : h4_26.wp F Q env w = HC.wp F (.reg (.chk none (.idxL 3) (.cons (.inp 1) (.cons (.inp 7) .nil)) (.eff (.ld true 3) (.cons (.op (.idxL 3) (.cons (.inp 1) (.cons (.inp 7) .nil))) .nil) (.eff (.call 12) (.cons (.inp 5) (.cons (.bv 0) .nil)) (.done [] none))))) Q env w := rfl
def h4_27 : HC := (.seq (.block 1 h4_26) h4_25)
@[simp] theorem h4_27_wp {P : Program} {F : PF P} {Q : EX → List Value → World → Prop} {env : List Value} {w : World} : h4_27.wp F Q env w = HC.wp F (.seq (.block 1 h4_26) h4_25) Q env w := rfl
def h4_28 : HC := (.seq (.br (.chk none .lenL (.cons (.inp 1) .nil) (.chk none (.bin .lss) (.cons (.inp 7) (.cons (.op .lenL (.cons (.inp 1) .nil)) .nil)) (.done [] (some (.op (.bin .lss) (.cons (.inp 7) (.cons (.op .lenL (.cons (.inp 1) .nil)) .nil))))))) .skip (.exit 0)) h4_27)
@[simp] theorem h4_28_wp {P : Program} {F : PF P} {Q : EX → List Value → World → Prop} {env : List Value} {w : World} : h4_28.wp F Q env w = HC.wp F (.seq (.br (.chk none .lenL (.cons (.inp 1) .nil) (.chk none (.bin .lss) (.cons (.inp 7) (.cons (.op .lenL (.cons (.inp 1) .nil)) .nil)) (.done [] (some (.op (.bin .lss) (.cons (.inp 7) (.cons (.op .lenL (.cons (.inp 1) .nil)) .nil))))))) .skip (.exit 0)) h4_27) Q env w := rfl
def h4_29 : HC := (.loop h4_28)
@[simp] theorem h4_29_wp {P : Program} {F : PF P} {Q : EX → List Value → World → Prop} {env : List Value} {w : World} : h4_29.wp F Q env w = HC.wp F (.loop h4_28) Q env w := rfl
def h4_30 : HC := (.seq (.block 0 h4_29) h4_24)
@[simp] theorem h4_30_wp {P : Program} {F : PF P} {Q : EX → List Value → World → Prop} {env : List Value} {w : World} : h4_30.wp F Q env w = HC.wp F (.seq (.block 0 h4_29) h4_24) Q env w := rfl
def h4_31 : HC := (.seq (.reg (.done [(7, (.cst (.int .i64 0)))] none)) h4_30)
@[simp] theorem h4_31_wp {P : Program} {F : PF P} {Q : EX → List Value → World → Prop} {env : List Value} {w : World} : h4_31.wp F Q env w = HC.wp F (.seq (.reg (.done [(7, (.cst (.int .i64 0)))] none)) h4_30) Q env w := rfl
def h4_32 : HC := (.seq (.reg (.done [(4, (.cst (.bool false)))] none)) .ret)
@[simp] theorem h4_32_wp {P : Program} {F : PF P} {Q : EX → List Value → World → Prop} {env : List Value} {w : World} : h4_32.wp F Q env w = HC.wp F (.seq (.reg (.done [(4, (.cst (.bool false)))] none)) .ret) Q env w := rfl
def h4_33 : HC := (.seq (.br (.chk none (.cal 10) (.cons (.inp 6) .nil) (.chk none (.bin .neq) (.cons (.op (.cal 10) (.cons (.inp 6) .nil)) (.cons (.cst (.int .i64 0)) .nil)) (.done [] (some (.op (.bin .neq) (.cons (.op (.cal 10) (.cons (.inp 6) .nil)) (.cons (.cst (.int .i64 0)) .nil))))))) h4_32 .skip) h4_31)
@[simp] theorem h4_33_wp {P : Program} {F : PF P} {Q : EX → List Value → World → Prop} {env : List Value} {w : World} : h4_33.wp F Q env w = HC.wp F (.seq (.br (.chk none (.cal 10) (.cons (.inp 6) .nil) (.chk none (.bin .neq) (.cons (.op (.cal 10) (.cons (.inp 6) .nil)) (.cons (.cst (.int .i64 0)) .nil)) (.done [] (some (.op (.bin .neq) (.cons (.op (.cal 10) (.cons (.inp 6) .nil)) (.cons (.cst (.int .i64 0)) .nil))))))) h4_32 .skip) h4_31) Q env w := rfl
def h4_34 : HC := (.seq (.reg (.eff (.call 9) (.cons (.inp 0) (.cons (.cst (.int .i64 513)) .nil)) (.eff (.call 8) (.cons (.bv 0) .nil) (.chk none (.ext 0) (.cons (.bv 1) .nil) (.chk none (.ext 1) (.cons (.bv 1) .nil) (.done [(5, (.op (.ext 0) (.cons (.bv 1) .nil))), (6, (.op (.ext 1) (.cons (.bv 1) .nil)))] none)))))) h4_33)
@[simp] theorem h4_34_wp {P : Program} {F : PF P} {Q : EX → List Value → World → Prop} {env : List Value} {w : World} : h4_34.wp F Q env w = HC.wp F (.seq (.reg (.eff (.call 9) (.cons (.inp 0) (.cons (.cst (.int .i64 513)) .nil)) (.eff (.call 8) (.cons (.bv 0) .nil) (.chk none (.ext 0) (.cons (.bv 1) .nil) (.chk none (.ext 1) (.cons (.bv 1) .nil) (.done [(5, (.op (.ext 0) (.cons (.bv 1) .nil))), (6, (.op (.ext 1) (.cons (.bv 1) .nil)))] none)))))) h4_33) Q env w := rfl
def h4_35 : HC := (.seq (.reg (.done [(4, (.cst (.bool false)))] none)) .ret)
@[simp] theorem h4_35_wp {P : Program} {F : PF P} {Q : EX → List Value → World → Prop} {env : List Value} {w : World} : h4_35.wp F Q env w = HC.wp F (.seq (.reg (.done [(4, (.cst (.bool false)))] none)) .ret) Q env w := rfl
def h4_36 : HC := (.seq (.br (.eff (.call 7) .nil (.chk none (.un .not) (.cons (.bv 0) .nil) (.done [] (some (.op (.un .not) (.cons (.bv 0) .nil)))))) h4_35 .skip) h4_34)
@[simp] theorem h4_36_wp {P : Program} {F : PF P} {Q : EX → List Value → World → Prop} {env : List Value} {w : World} : h4_36.wp F Q env w = HC.wp F (.seq (.br (.eff (.call 7) .nil (.chk none (.un .not) (.cons (.bv 0) .nil) (.done [] (some (.op (.un .not) (.cons (.bv 0) .nil)))))) h4_35 .skip) h4_34) Q env w := rfl
def l4 : Lifted := ⟨[0, 1, 2, 3, 8, 9, 10, 11, 12, 13, 14, 15, 16, 17, 18, 19], 157, [.slot 4], (.seq (.reg (.done [(4, (.cst (.bool false)))] none)) h4_36)⟩
theorem l4_ok : liftFn G1 4 400 = some l4 := by kernel_rfl


theorem goodsBack_rest (lim lm : Int) (acts more other : List Ac) (a1 a2 a3 : Option Addr) (cap1 cap2 cap3 : Nat) (p : Nat) (its : List It) (v7 : Value) (w0 w : World) (A : Asn) (hl1 : acts.length ≤ 1048576) (hl2 : more.length ≤ 1048576) (hl3 : other.length ≤ 1048576)
    (hr2 : Row w0 A (.slice a2 more.length cap2) more.length 3 (acs more)) (hr3 : Row w0 A (.slice a3 other.length cap3) other.length 3 (acs other)) (hg : GI lm its) (s : St w0 (A * gds p lm its) w) :
    HC.wp G1 h4_24 (endQ Try.prog [RV.slot 4] fun r w' => r = Value.bool true ∧ St w0 A w')
      [.int .i64 lim, .slice a1 acts.length cap1, .slice a2 more.length cap2, .slice a3 other.length cap3, .bool false, .pointer (some ⟨p, 0, none⟩), .int .i64 0, v7, undef, undef, undef, undef, undef, undef, undef, undef] w := by
  have hlen := hg.len
  have hlim := hg.lim
  simp
  refine eff_call ((Copy_spec p lm its w0 w A (by omega) s).mono ?_)
  rintro r w1 ⟨c, rfl, s1⟩
  simp
  refine eff_call ((Limit_spec p lm its w0 w1 (A * gds c lm its) (s1.to (by ac_rfl))).mono ?_)
  rintro r w2 ⟨rfl, s2⟩
  simp
  refine eff_call ((Rows_spec p lm its w0 w2 (A * gds c lm its) (by omega) s2).mono ?_)
  intro v w3 s3
  obtain ⟨ra, rcap, rfl, _⟩ := s3.own_val
  simp
  refine eff_call ((Load_spec lm its _ w0 w3 _ (by omega) (row_own s3) s3).mono ?_)
  intro r w4 h4
  rw [if_pos (load_ok hg)] at h4
  obtain ⟨l, rfl, s4⟩ := h4
  simp
  have t4 := St.cut (own 44 4 (.slice ra its.length rcap) its.length (flat its)) s4 (B := A * gds c lm its * gds l lm its * gds p lm its) (by ac_rfl)
  refine eff_call ((Rows_spec p lm its w0 w4 _ (by omega) t4).mono ?_)
  intro vw w5 s5
  obtain ⟨wa, wcap, rfl, _⟩ := s5.own_val
  simp
  refine eff_call ((Copy_spec c lm its w0 w5 (A * gds l lm its * gds p lm its * own 44 4 (.slice wa its.length wcap) its.length (flat its)) (by omega) (s5.to (by ac_rfl))).mono ?_)
  rintro r w6 ⟨d, rfl, s6⟩
  simp
  refine loopI (fun env w' => ∃ (i : Nat) (itd : List It), env = [.int .i64 lim, .slice a1 acts.length cap1, .slice a2 more.length cap2, .slice a3 other.length cap3, .bool false, .pointer (some ⟨p, 0, none⟩), .int .i64 0, v7, .pointer (some ⟨c, 0, none⟩), .pointer (some ⟨l, 0, none⟩), .int .i64 0, .slice wa its.length wcap, .pointer (some ⟨d, 0, none⟩), .int .i64 i, undef, undef] ∧ i ≤ other.length ∧ GI lm itd ∧
      St w0 (A * gds l lm its * gds p lm its * own 44 4 (.slice wa its.length wcap) its.length (flat its) * gds c lm its * gds d lm itd) w')
    (fun env _ => other.length - slotN env 13) ⟨0, its, rfl, by omega, hg, s6⟩ ?_
  rintro LQ env w' ⟨i, itd, rfl, hi, hgd, s'⟩ hN hE hR
  have hlend := hgd.len
  simp
  refine cndI (fun h => ?_) (fun h => ?_)
  · simp at h
    obtain ⟨g, o, cap', hv, hc⟩ := hr3.at (by omega)
    cases hv
    simp [h]
    refine eff_ldcs (vs := other[i].cs) (fun j u hu => by rw [Nat.add_assoc]; exact hc _ s'.drop.drop.drop.drop.drop _ _ (acs_at h j u hu)) rfl ?_
    simp
    refine eff_call ((do_spec d _ itd other[i] w0 w' _ (by omega) hlim s').mono ?_)
    rintro r w5 ⟨rfl, s5⟩
    simp
    try simp (disch := omega) only [wrap64]
    exact hN _ _ ⟨i + 1, _, by simp, by omega, gi_act hgd other[i], s5⟩ (by simp [slotN]; omega)
  · simp at h
    simp
    refine hE _ _ _ ?_
    simp
    have t0 := s'.drop
    refine eff_call ((Rows_spec p lm its w0 w' (A * gds l lm its * gds c lm its * own 44 4 (.slice wa its.length wcap) its.length (flat its)) (by omega) (t0.to (by ac_rfl))).mono ?_)
    intro q1 x1 y1
    simp
    refine eff_call ((items_spec its its q1 (.slice wa its.length wcap) w0 x1 (A * gds l lm its * gds c lm its * own 44 4 (.slice wa its.length wcap) its.length (flat its) * gds p lm its * own 44 4 q1 its.length (flat its)) (by omega) (row_own y1) (row_in (e := 44) (B := A * gds l lm its * gds c lm its * gds p lm its * own 44 4 q1 its.length (flat its)) y1 (by ac_rfl)) y1).mono ?_)
    rintro r z1 ⟨rfl, u1⟩
    simp
    refine eff_call ((Rows_spec c lm its w0 z1 (A * gds l lm its * gds p lm its * own 44 4 (.slice wa its.length wcap) its.length (flat its)) (by omega) (u1.drop.to (by ac_rfl))).mono ?_)
    intro q2 x2 y2
    simp
    refine eff_call ((items_spec its its q2 (.slice wa its.length wcap) w0 x2 (A * gds l lm its * gds p lm its * own 44 4 (.slice wa its.length wcap) its.length (flat its) * gds c lm its * own 44 4 q2 its.length (flat its)) (by omega) (row_own y2) (row_in (e := 44) (B := A * gds l lm its * gds p lm its * gds c lm its * own 44 4 q2 its.length (flat its)) y2 (by ac_rfl)) y2).mono ?_)
    rintro r z2 ⟨rfl, u2⟩
    simp
    refine eff_call ((Rows_spec l lm its w0 z2 (A * gds c lm its * gds p lm its * own 44 4 (.slice wa its.length wcap) its.length (flat its)) (by omega) (u2.drop.to (by ac_rfl))).mono ?_)
    intro q3 x3 y3
    simp
    refine eff_call ((items_spec its its q3 (.slice wa its.length wcap) w0 x3 (A * gds c lm its * gds p lm its * own 44 4 (.slice wa its.length wcap) its.length (flat its) * gds l lm its * own 44 4 q3 its.length (flat its)) (by omega) (row_own y3) (row_in (e := 44) (B := A * gds c lm its * gds p lm its * gds l lm its * own 44 4 q3 its.length (flat its)) y3 (by ac_rfl)) y3).mono ?_)
    rintro r z3 ⟨rfl, u3⟩
    simp
    have t3 := St.cut (own 44 4 (.slice wa its.length wcap) its.length (flat its) * own 44 4 q3 its.length (flat its)) u3 (B := A * gds c lm its * gds l lm its * gds p lm its) (by ac_rfl)
    refine loopI (fun env w' => ∃ (k : Nat) (it : List It) (o15 : Value), env = [.int .i64 lim, .slice a1 acts.length cap1, .slice a2 more.length cap2, .slice a3 other.length cap3, .bool false, .pointer (some ⟨p, 0, none⟩), .int .i64 0, v7, .pointer (some ⟨c, 0, none⟩), .pointer (some ⟨l, 0, none⟩), .int .i64 0, .slice wa its.length wcap, .pointer (some ⟨d, 0, none⟩), .int .i64 i, .int .i64 k, o15] ∧ k ≤ more.length ∧ GI lm it ∧
        St w0 (A * gds c lm it * gds l lm it * gds p lm it) w')
      (fun env _ => more.length - slotN env 14) ⟨0, its, _, rfl, by omega, hg, t3⟩ ?_
    rintro LQ2 env w' ⟨k, it, o15, rfl, hk, hgi, f⟩ hN2 hE2 hR2
    have hleni := hgi.len
    simp
    refine cndI (fun h2 => ?_) (fun h2 => ?_)
    · simp at h2
      obtain ⟨g, o, cap', hv, hc⟩ := hr2.at (by omega)
      cases hv
      have hg2 := gi_act hgi more[k]
      have hlen2 := hg2.len
      simp [h2]
      refine eff_ldcs (vs := more[k].cs) (fun j u hu => by rw [Nat.add_assoc]; exact hc _ f.drop.drop.drop _ _ (acs_at h2 j u hu)) rfl ?_
      simp
      refine eff_call ((do_spec p _ it more[k] w0 w' _ (by omega) hlim f).mono ?_)
      rintro r f1 ⟨rfl, f2⟩
      simp [h2]
      generalize hit2 : (actF lm it more[k]).2 = it2 at *
      refine eff_ldcs (vs := more[k].cs) (fun j u hu => by rw [Nat.add_assoc]; exact hc _ f2.drop.drop.drop _ _ (acs_at h2 j u hu)) rfl ?_
      simp
      refine eff_call ((do_spec c _ it more[k] w0 f1 (A * gds l lm it * gds p lm it2) (by omega) hlim (f2.to (by ac_rfl))).mono ?_)
      rintro r f3 ⟨rfl, f4⟩
      simp [h2]
      rw [hit2] at f4
      refine eff_ldcs (vs := more[k].cs) (fun j u hu => by rw [Nat.add_assoc]; exact hc _ f4.drop.drop.drop _ _ (acs_at h2 j u hu)) rfl ?_
      simp
      refine eff_call ((do_spec l _ it more[k] w0 f3 (A * gds c lm it2 * gds p lm it2) (by omega) hlim (f4.to (by ac_rfl))).mono ?_)
      rintro r f5 ⟨rfl, f6⟩
      simp
      rw [hit2] at f6
      refine eff_call ((Rows_spec c lm it2 w0 f5 (A * gds p lm it2 * gds l lm it2) (by omega) (f6.to (by ac_rfl))).mono ?_)
      intro q1 f7 f8
      simp
      refine eff_call ((Rows_spec p lm it2 w0 f7 (A * gds l lm it2 * gds c lm it2 * own 44 4 q1 it2.length (flat it2)) (by omega) (f8.to (by ac_rfl))).mono ?_)
      intro q2 f9 f10
      simp
      refine eff_call ((items_spec it2 it2 q1 q2 w0 f9 _ (by omega) (row_in (e := 44) (B := A * gds l lm it2 * gds c lm it2 * gds p lm it2 * own 44 4 q2 it2.length (flat it2)) f10 (by ac_rfl)) (row_own f10) f10).mono ?_)
      rintro r f11 ⟨rfl, f12⟩
      simp
      refine eff_call ((Rows_spec l lm it2 w0 f11 (A * gds p lm it2 * gds c lm it2) (by omega) (St.cut (own 44 4 q1 it2.length (flat it2) * own 44 4 q2 it2.length (flat it2)) f12 (by ac_rfl))).mono ?_)
      intro q3 f13 f14
      simp
      refine eff_call ((Rows_spec p lm it2 w0 f13 (A * gds l lm it2 * gds c lm it2 * own 44 4 q3 it2.length (flat it2)) (by omega) (f14.to (by ac_rfl))).mono ?_)
      intro q4 f15 f16
      simp
      refine eff_call ((items_spec it2 it2 q3 q4 w0 f15 _ (by omega) (row_in (e := 44) (B := A * gds l lm it2 * gds c lm it2 * gds p lm it2 * own 44 4 q4 it2.length (flat it2)) f16 (by ac_rfl)) (row_own f16) f16).mono ?_)
      rintro r f17 ⟨rfl, f18⟩
      simp
      try simp (disch := omega) only [wrap64]
      refine hN2 _ _ ⟨k + 1, it2, _, by simp; exact rfl, by omega, hg2, ?_⟩ (by simp [slotN]; omega)
      exact St.cut (own 44 4 q3 it2.length (flat it2) * own 44 4 q4 it2.length (flat it2)) f18 (by ac_rfl)
    · simp at h2
      simp
      refine hE2 _ _ _ ?_
      simp
      refine eff_call ((Limit_spec l lm it w0 w' (A * gds c lm it * gds p lm it) (f.to (by ac_rfl))).mono ?_)
      rintro r f1 ⟨rfl, f2⟩
      simp
      refine eff_call ((Limit_spec p lm it w0 f1 (A * gds c lm it * gds l lm it) (f2.to (by ac_rfl))).mono ?_)
      rintro r f3 ⟨rfl, f4⟩
      simp
      refine eff_call ((Limit_spec c lm it w0 f3 (A * gds p lm it * gds l lm it) (f4.to (by ac_rfl))).mono ?_)
      rintro r f5 ⟨rfl, f6⟩
      simp
      refine eff_call ((Limit_spec p lm it w0 f5 (A * gds c lm it * gds l lm it) (f6.to (by ac_rfl))).mono ?_)
      rintro r f7 ⟨rfl, f8⟩
      simp
      exact f8.drop.drop.drop
theorem goodsBack_walk (lim : Int) (acts more other : List Ac) (v1 v2 v3 : Value) (w0 w : World) (A : Asn) (hn : -9223372036854775808 ≤ lim ∧ lim ≤ 9223372036854775807) (hl1 : acts.length ≤ 1048576) (hl2 : more.length ≤ 1048576) (hl3 : other.length ≤ 1048576)
    (hr1 : Row w0 A v1 acts.length 3 (acs acts)) (hr2 : Row w0 A v2 more.length 3 (acs more)) (hr3 : Row w0 A v3 other.length 3 (acs other)) (s : St w0 A w) :
    CallW Try.prog 4 [.int .i64 lim, v1, v2, v3] (fun r w' => r = .bool true ∧ St w0 A w') w := by
  obtain ⟨a1, cap1, rfl⟩ := hr1.val
  obtain ⟨a2, cap2, rfl⟩ := hr2.val
  obtain ⟨a3, cap3, rfl⟩ := hr3.val
  refine callW_of_lift l4_ok (by simp [l4]) ?_
  simp [l4]
  refine eff_call ((known_spec w0 w A s).mono ?_)
  rintro r w1 ⟨rfl, s1⟩
  simp
  refine eff_call ((place_spec lim 513 w1 (by omega) (by omega)).mono ?_)
  rintro r w2 ⟨rfl, rfl⟩
  simp
  have hp := place_bd lim 513 (by omega)
  generalize placeF lim 513 = lm at hp ⊢
  refine eff_call ((New_spec lm w0 w2 A s1).mono ?_)
  intro r w3 h3
  rw [if_pos (by omega)] at h3
  obtain ⟨p, rfl, s3⟩ := h3
  simp
  refine loopI (fun env w' => ∃ (i : Nat) (its : List It), env = [.int .i64 lim, .slice a1 acts.length cap1, .slice a2 more.length cap2, .slice a3 other.length cap3, .bool false, .pointer (some ⟨p, 0, none⟩), .int .i64 0, .int .i64 i, undef, undef, undef, undef, undef, undef, undef, undef] ∧ i ≤ acts.length ∧ GI lm its ∧
      St w0 (A * gds p lm its) w')
    (fun env _ => acts.length - slotN env 7) ⟨0, [], rfl, by omega, gi_nil (by omega) (by omega), s3⟩ ?_
  rintro LQ env w' ⟨i, its, rfl, hi, hg, s'⟩ hN hE hR
  have hlen := hg.len
  have hlim := hg.lim
  simp
  refine cndI (fun h => ?_) (fun h => ?_)
  · simp at h
    obtain ⟨g, o, cap', hv, hc⟩ := hr1.at (by omega)
    cases hv
    simp [h]
    refine eff_ldcs (vs := acts[i].cs) (fun j u hu => by rw [Nat.add_assoc]; exact hc _ s'.drop _ _ (acs_at h j u hu)) rfl ?_
    simp
    refine eff_call ((do_spec p _ its acts[i] w0 w' _ (by omega) hlim s').mono ?_)
    rintro r w5 ⟨rfl, s5⟩
    simp
    try simp (disch := omega) only [wrap64]
    exact hN _ _ ⟨i + 1, _, by simp, by omega, gi_act hg acts[i], s5⟩ (by simp [slotN]; omega)
  · simp at h
    simp
    refine hE _ _ _ ?_
    simp
    simpa using goodsBack_rest lim lm acts more other a1 a2 a3 cap1 cap2 cap3 p its _ w0 w' A hl1 hl2 hl3 hr2 hr3 hg s'
end Go.HL.Gd
