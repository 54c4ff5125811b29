/-
  What the claim leans on, part 8 of 12. Conditions: as each theorem says.
-/
import Derived.Test.YtliofpihaemglaaPlMg
import Derived.Lib.Bytealg
namespace Go.HL.Nm
open Go.HL Go.Proofs
set_option maxRecDepth 4000
set_option linter.unusedSimpArgs false
set_option linter.unusedVariables false
end Go.HL.Nm

namespace Go.HL.Nm
open Go.HL Go.Proofs
set_option maxRecDepth 4000
set_option linter.unusedSimpArgs false
set_option linter.unusedVariables false
end Go.HL.Nm

namespace Go.HL.Nm
open Go.HL
set_option maxRecDepth 4000
set_option linter.unusedSimpArgs false
set_option linter.unusedVariables false
/-- a byte that continues -/
def contB (b : UInt8) : Bool := decide (128 ≤ b.toNat) && decide (b.toNat ≤ 191)
/-- the bytes that continue at a row's head -/
def lead : List Int → List UInt8
  | [] => []
  | u :: us => if 2097280 ≤ u ∧ u ≤ 2097343 then UInt8.ofNat (u.toNat - 2097152) :: lead us else []
theorem encAll_cons (u : Int) (us : List Int) : encAll (u :: us) = encU u ++ encAll us := rfl
/-- the bad bytes are where they stay bad -/
def goodU : List Int → Prop
  | [] => True
  | u :: us => (2097152 ≤ u → oneF (UInt8.ofNat (u.toNat - 2097152) :: lead us) = (u, 1)) ∧ goodU us
/-- a map of units that leaves bad bytes as_ they are -/
structure Mild (f : Int → List Int) : Prop where
  bad : ∀ u, 2097152 ≤ u → f u = [u]
  fine : ∀ u, u < 2097152 → f u ≠ [] ∧ ∀ x ∈ f u, x < 2097152
end Go.HL.Nm

namespace Go.HL.Nm
open Go.HL
set_option maxRecDepth 4000
set_option linter.unusedSimpArgs false
set_option linter.unusedVariables false
/-- no two that look like one -/
def noP : List Int → Prop
  | a :: b :: r => ¬ (a = 114 ∧ b = 110) ∧ ¬ (a = 118 ∧ b = 118) ∧ noP (b :: r)
  | _ => True
-- how long
theorem encAll_app (a b : List Int) : encAll (a ++ b) = encAll a ++ encAll b := by simp [encAll]
theorem flat_len {f : Int → List Int} : ∀ us : List Int, (∀ u ∈ us, (encAll (f u)).length ≤ (encU u).length) → (encAll (us.flatMap f)).length ≤ (encAll us).length
  | [], _ => Nat.le_refl _
  | u :: us, h => by
    have h1 := h u (List.mem_cons_self ..)
    have h2 := flat_len us fun x hx => h x (List.mem_cons_of_mem _ hx)
    rw [List.flatMap_cons, encAll_app, encAll_cons, List.length_append, List.length_append]
    omega
-- a right name
end Go.HL.Nm

namespace Go.HL.Pu
open Go.HL Go.HL.Nm Go.Proofs
set_option maxRecDepth 4000
set_option linter.unusedSimpArgs false
set_option linter.unusedVariables false
theorem lookK_some {k : List UInt8} : ∀ {ks : List (List UInt8)} {j n : Nat}, lookK k ks j = some n → j ≤ n ∧ ks[n - j]? = some k
  | [], _, _, h => by cases h
  | x :: r, j, n, h => by
    simp only [lookK] at h
    split at h
    · rename_i e
      cases h
      simp [e]
    · obtain ⟨h1, h2⟩ := lookK_some h
      refine ⟨by omega, ?_⟩
      have : n - j = (n - (j + 1)) + 1 := by omega
      rw [this, List.getElem?_cons_succ]
      exact h2
theorem lookK_none {k : List UInt8} : ∀ {ks : List (List UInt8)} {j : Nat}, lookK k ks j = none → k ∉ ks
  | [], _, _ => by simp
  | x :: r, j, h => by
    simp only [lookK] at h
    split at h
    · cases h
    · rename_i e
      simp only [List.mem_cons, not_or]
      exact ⟨e, lookK_none h⟩
theorem askB_iff (k : List UInt8) (ks : List (List UInt8)) : askB k ks = true ↔ k ∈ ks := by
  unfold askB
  cases h : lookK k ks 0 with
  | none => simpa using lookK_none h
  | some n =>
    obtain ⟨_, h2⟩ := lookK_some h
    simpa using List.mem_of_getElem? h2
theorem askN_get {k : List UInt8} {ks : List (List UInt8)} (h : askB k ks = true) : ∃ n : Nat, askN k ks = n ∧ ks[n]? = some k := by
  unfold askB at h
  unfold askN
  cases hl : lookK k ks 0 with
  | none => rw [hl] at h; cases h
  | some n =>
    obtain ⟨_, h2⟩ := lookK_some hl
    exact ⟨n, rfl, h2⟩
def strs (l : List Ac) : List Value := l.map fun x => .string (mk x.name)
/-- whose key is among the first -/
def anyK (x : List UInt8) (l : List Ac) : Bool := l.any fun r => decide (keyF r.name = keyF x)
end Go.HL.Pu

namespace Go.HL.Pu
open Go.HL Go.HL.Nm Go.Proofs
set_option maxRecDepth 4000
set_option linter.unusedSimpArgs false
set_option linter.unusedVariables false
-- bazaar/bazaarlaw14.PurseNames
def h3_0 : HC := (.seq (.reg (.eff (.call 16) (.cons (.inp 3) (.cons (.inp 1) .nil)) (.chk none .lenL (.cons (.bv 0) .nil) (.chk none (.bin .eql) (.cons (.op .lenL (.cons (.bv 0) .nil)) (.cons (.inp 23) .nil)) (.bnd (.op (.bin .eql) (.cons (.op .lenL (.cons (.bv 0) .nil)) (.cons (.inp 23) .nil))) (.ite (.bv 1) true (.eff (.call 18) (.cons (.ite (.bv 1) true (.inp 3) (.cst (.tuple #[]))) .nil) (.chk none .lenL (.cons (.inp 5) .nil) (.chk none (.bin .eql) (.cons (.bv 2) (.cons (.op .lenL (.cons (.inp 5) .nil)) .nil)) (.isb none (.bv 1) (.done [(2, (.op (.bin .eql) (.cons (.bv 2) (.cons (.op .lenL (.cons (.inp 5) .nil)) .nil))))] none))))) (.isb none (.bv 1) (.done [(2, (.cst (.bool false)))] none)))))))) .ret)
@[simp] theorem h3_0_wp {P : Program} {F : PF P} {Q : EX → List Value → World → Prop} {env : List Value} {w : World} : h3_0.wp F Q env w = HC.wp F (.seq (.reg (.eff (.call 16) (.cons (.inp 3) (.cons (.inp 1) .nil)) (.chk none .lenL (.cons (.bv 0) .nil) (.chk none (.bin .eql) (.cons (.op .lenL (.cons (.bv 0) .nil)) (.cons (.inp 23) .nil)) (.bnd (.op (.bin .eql) (.cons (.op .lenL (.cons (.bv 0) .nil)) (.cons (.inp 23) .nil))) (.ite (.bv 1) true (.eff (.call 18) (.cons (.ite (.bv 1) true (.inp 3) (.cst (.tuple #[]))) .nil) (.chk none .lenL (.cons (.inp 5) .nil) (.chk none (.bin .eql) (.cons (.bv 2) (.cons (.op .lenL (.cons (.inp 5) .nil)) .nil)) (.isb none (.bv 1) (.done [(2, (.op (.bin .eql) (.cons (.bv 2) (.cons (.op .lenL (.cons (.inp 5) .nil)) .nil))))] none))))) (.isb none (.bv 1) (.done [(2, (.cst (.bool false)))] none)))))))) .ret) Q env w := rfl
def h3_1 : HC := (.reg (.chk none (.bin .add) (.cons (.inp 24) (.cons (.cst (.int .i64 1)) .nil)) (.done [(24, (.op (.bin .add) (.cons (.inp 24) (.cons (.cst (.int .i64 1)) .nil))))] none)))
@[simp] theorem h3_1_wp {P : Program} {F : PF P} {Q : EX → List Value → World → Prop} {env : List Value} {w : World} : h3_1.wp F Q env w = HC.wp F (.reg (.chk none (.bin .add) (.cons (.inp 24) (.cons (.cst (.int .i64 1)) .nil)) (.done [(24, (.op (.bin .add) (.cons (.inp 24) (.cons (.cst (.int .i64 1)) .nil))))] none))) Q env w := rfl
def h3_2 : HC := (.reg (.chk none (.bin .add) (.cons (.inp 23) (.cons (.cst (.int .i64 1)) .nil)) (.done [(23, (.op (.bin .add) (.cons (.inp 23) (.cons (.cst (.int .i64 1)) .nil))))] none)))
@[simp] theorem h3_2_wp {P : Program} {F : PF P} {Q : EX → List Value → World → Prop} {env : List Value} {w : World} : h3_2.wp F Q env w = HC.wp F (.reg (.chk none (.bin .add) (.cons (.inp 23) (.cons (.cst (.int .i64 1)) .nil)) (.done [(23, (.op (.bin .add) (.cons (.inp 23) (.cons (.cst (.int .i64 1)) .nil))))] none))) Q env w := rfl
def h3_3 : HC := (.br (.chk none (.idxL 1) (.cons (.inp 5) (.cons (.inp 24) .nil)) (.eff (.ld false 1) (.cons (.op (.idxL 1) (.cons (.inp 5) (.cons (.inp 24) .nil))) .nil) (.eff (.call 17) (.cons (.bv 0) (.cons (.inp 1) .nil)) (.done [] (some (.bv 1)))))) h3_2 .skip)
@[simp] theorem h3_3_wp {P : Program} {F : PF P} {Q : EX → List Value → World → Prop} {env : List Value} {w : World} : h3_3.wp F Q env w = HC.wp F (.br (.chk none (.idxL 1) (.cons (.inp 5) (.cons (.inp 24) .nil)) (.eff (.ld false 1) (.cons (.op (.idxL 1) (.cons (.inp 5) (.cons (.inp 24) .nil))) .nil) (.eff (.call 17) (.cons (.bv 0) (.cons (.inp 1) .nil)) (.done [] (some (.bv 1)))))) h3_2 .skip) Q env w := rfl
def h3_4 : HC := (.seq (.block 12 h3_3) h3_1)
@[simp] theorem h3_4_wp {P : Program} {F : PF P} {Q : EX → List Value → World → Prop} {env : List Value} {w : World} : h3_4.wp F Q env w = HC.wp F (.seq (.block 12 h3_3) h3_1) Q env w := rfl
def h3_5 : HC := (.seq (.br (.chk none .lenL (.cons (.inp 5) .nil) (.chk none (.bin .lss) (.cons (.inp 24) (.cons (.op .lenL (.cons (.inp 5) .nil)) .nil)) (.done [] (some (.op (.bin .lss) (.cons (.inp 24) (.cons (.op .lenL (.cons (.inp 5) .nil)) .nil))))))) .skip (.exit 11)) h3_4)
@[simp] theorem h3_5_wp {P : Program} {F : PF P} {Q : EX → List Value → World → Prop} {env : List Value} {w : World} : h3_5.wp F Q env w = HC.wp F (.seq (.br (.chk none .lenL (.cons (.inp 5) .nil) (.chk none (.bin .lss) (.cons (.inp 24) (.cons (.op .lenL (.cons (.inp 5) .nil)) .nil)) (.done [] (some (.op (.bin .lss) (.cons (.inp 24) (.cons (.op .lenL (.cons (.inp 5) .nil)) .nil))))))) .skip (.exit 11)) h3_4) Q env w := rfl
def h3_6 : HC := (.loop h3_5)
@[simp] theorem h3_6_wp {P : Program} {F : PF P} {Q : EX → List Value → World → Prop} {env : List Value} {w : World} : h3_6.wp F Q env w = HC.wp F (.loop h3_5) Q env w := rfl
def h3_7 : HC := (.seq (.block 11 h3_6) h3_0)
@[simp] theorem h3_7_wp {P : Program} {F : PF P} {Q : EX → List Value → World → Prop} {env : List Value} {w : World} : h3_7.wp F Q env w = HC.wp F (.seq (.block 11 h3_6) h3_0) Q env w := rfl
def h3_8 : HC := (.seq (.reg (.done [(24, (.cst (.int .i64 0)))] none)) h3_7)
@[simp] theorem h3_8_wp {P : Program} {F : PF P} {Q : EX → List Value → World → Prop} {env : List Value} {w : World} : h3_8.wp F Q env w = HC.wp F (.seq (.reg (.done [(24, (.cst (.int .i64 0)))] none)) h3_7) Q env w := rfl
def h3_9 : HC := (.seq (.reg (.done [(23, (.cst (.int .i64 0)))] none)) h3_8)
@[simp] theorem h3_9_wp {P : Program} {F : PF P} {Q : EX → List Value → World → Prop} {env : List Value} {w : World} : h3_9.wp F Q env w = HC.wp F (.seq (.reg (.done [(23, (.cst (.int .i64 0)))] none)) h3_8) Q env w := rfl
def h3_10 : HC := (.seq (.reg (.done [(2, (.cst (.bool false)))] none)) .ret)
@[simp] theorem h3_10_wp {P : Program} {F : PF P} {Q : EX → List Value → World → Prop} {env : List Value} {w : World} : h3_10.wp F Q env w = HC.wp F (.seq (.reg (.done [(2, (.cst (.bool false)))] none)) .ret) Q env w := rfl
def h3_11 : HC := (.seq (.br (.chk none (.eqB true) (.cons (.inp 20) (.cons (.inp 21) .nil)) (.bnd (.op (.eqB true) (.cons (.inp 20) (.cons (.inp 21) .nil))) (.bnd (.ite (.bv 0) false (.inp 20) (.cst (.tuple #[]))) (.chk (some ((.bv 1), true)) (.idxL 1) (.cons (.inp 5) (.cons (.inp 19) .nil)) (.ite (.bv 1) true (.eff (.ld false 1) (.cons (.ite (.bv 1) true (.op (.idxL 1) (.cons (.inp 5) (.cons (.inp 19) .nil))) (.cst (.tuple #[]))) .nil) (.eff (.call 12) (.cons (.bv 2) (.cons (.inp 1) .nil)) (.chk none (.un .not) (.cons (.bv 3) .nil) (.isb (some ((.bv 0), false)) (.bv 1) (.isb none (.bv 0) (.done [] (some (.ite (.bv 0) true (.cst (.bool true)) (.op (.un .not) (.cons (.bv 3) .nil)))))))))) (.isb (some ((.bv 0), false)) (.bv 1) (.isb none (.bv 0) (.done [] (some (.ite (.bv 0) true (.cst (.bool true)) (.cst (.bool false)))))))))))) h3_10 .skip) h3_9)
@[simp] theorem h3_11_wp {P : Program} {F : PF P} {Q : EX → List Value → World → Prop} {env : List Value} {w : World} : h3_11.wp F Q env w = HC.wp F (.seq (.br (.chk none (.eqB true) (.cons (.inp 20) (.cons (.inp 21) .nil)) (.bnd (.op (.eqB true) (.cons (.inp 20) (.cons (.inp 21) .nil))) (.bnd (.ite (.bv 0) false (.inp 20) (.cst (.tuple #[]))) (.chk (some ((.bv 1), true)) (.idxL 1) (.cons (.inp 5) (.cons (.inp 19) .nil)) (.ite (.bv 1) true (.eff (.ld false 1) (.cons (.ite (.bv 1) true (.op (.idxL 1) (.cons (.inp 5) (.cons (.inp 19) .nil))) (.cst (.tuple #[]))) .nil) (.eff (.call 12) (.cons (.bv 2) (.cons (.inp 1) .nil)) (.chk none (.un .not) (.cons (.bv 3) .nil) (.isb (some ((.bv 0), false)) (.bv 1) (.isb none (.bv 0) (.done [] (some (.ite (.bv 0) true (.cst (.bool true)) (.op (.un .not) (.cons (.bv 3) .nil)))))))))) (.isb (some ((.bv 0), false)) (.bv 1) (.isb none (.bv 0) (.done [] (some (.ite (.bv 0) true (.cst (.bool true)) (.cst (.bool false)))))))))))) h3_10 .skip) h3_9) Q env w := rfl
def h3_12 : HC := (.reg (.chk none (.bin .add) (.cons (.inp 22) (.cons (.cst (.int .i64 1)) .nil)) (.done [(22, (.op (.bin .add) (.cons (.inp 22) (.cons (.cst (.int .i64 1)) .nil))))] none)))
@[simp] theorem h3_12_wp {P : Program} {F : PF P} {Q : EX → List Value → World → Prop} {env : List Value} {w : World} : h3_12.wp F Q env w = HC.wp F (.reg (.chk none (.bin .add) (.cons (.inp 22) (.cons (.cst (.int .i64 1)) .nil)) (.done [(22, (.op (.bin .add) (.cons (.inp 22) (.cons (.cst (.int .i64 1)) .nil))))] none))) Q env w := rfl
def h3_13 : HC := (.reg (.chk (some ((.inp 21), false)) (.idxL 1) (.cons (.inp 5) (.cons (.inp 22) .nil)) (.ite (.inp 21) false (.eff (.ld false 1) (.cons (.ite (.inp 21) false (.op (.idxL 1) (.cons (.inp 5) (.cons (.inp 22) .nil))) (.cst (.tuple #[]))) .nil) (.eff (.call 12) (.cons (.bv 0) (.cons (.inp 1) .nil)) (.isb none (.inp 21) (.done [(21, (.bv 1))] none)))) (.isb none (.inp 21) (.done [(21, (.cst (.bool true)))] none)))))
@[simp] theorem h3_13_wp {P : Program} {F : PF P} {Q : EX → List Value → World → Prop} {env : List Value} {w : World} : h3_13.wp F Q env w = HC.wp F (.reg (.chk (some ((.inp 21), false)) (.idxL 1) (.cons (.inp 5) (.cons (.inp 22) .nil)) (.ite (.inp 21) false (.eff (.ld false 1) (.cons (.ite (.inp 21) false (.op (.idxL 1) (.cons (.inp 5) (.cons (.inp 22) .nil))) (.cst (.tuple #[]))) .nil) (.eff (.call 12) (.cons (.bv 0) (.cons (.inp 1) .nil)) (.isb none (.inp 21) (.done [(21, (.bv 1))] none)))) (.isb none (.inp 21) (.done [(21, (.cst (.bool true)))] none))))) Q env w := rfl
def h3_14 : HC := (.seq (.block 10 h3_13) h3_12)
@[simp] theorem h3_14_wp {P : Program} {F : PF P} {Q : EX → List Value → World → Prop} {env : List Value} {w : World} : h3_14.wp F Q env w = HC.wp F (.seq (.block 10 h3_13) h3_12) Q env w := rfl
def h3_15 : HC := (.seq (.br (.chk none .lenL (.cons (.inp 5) .nil) (.chk none (.bin .lss) (.cons (.inp 22) (.cons (.op .lenL (.cons (.inp 5) .nil)) .nil)) (.done [] (some (.op (.bin .lss) (.cons (.inp 22) (.cons (.op .lenL (.cons (.inp 5) .nil)) .nil))))))) .skip (.exit 9)) h3_14)
@[simp] theorem h3_15_wp {P : Program} {F : PF P} {Q : EX → List Value → World → Prop} {env : List Value} {w : World} : h3_15.wp F Q env w = HC.wp F (.seq (.br (.chk none .lenL (.cons (.inp 5) .nil) (.chk none (.bin .lss) (.cons (.inp 22) (.cons (.op .lenL (.cons (.inp 5) .nil)) .nil)) (.done [] (some (.op (.bin .lss) (.cons (.inp 22) (.cons (.op .lenL (.cons (.inp 5) .nil)) .nil))))))) .skip (.exit 9)) h3_14) Q env w := rfl
def h3_16 : HC := (.loop h3_15)
@[simp] theorem h3_16_wp {P : Program} {F : PF P} {Q : EX → List Value → World → Prop} {env : List Value} {w : World} : h3_16.wp F Q env w = HC.wp F (.loop h3_15) Q env w := rfl
def h3_17 : HC := (.seq (.block 9 h3_16) h3_11)
@[simp] theorem h3_17_wp {P : Program} {F : PF P} {Q : EX → List Value → World → Prop} {env : List Value} {w : World} : h3_17.wp F Q env w = HC.wp F (.seq (.block 9 h3_16) h3_11) Q env w := rfl
def h3_18 : HC := (.seq (.reg (.done [(22, (.cst (.int .i64 0)))] none)) h3_17)
@[simp] theorem h3_18_wp {P : Program} {F : PF P} {Q : EX → List Value → World → Prop} {env : List Value} {w : World} : h3_18.wp F Q env w = HC.wp F (.seq (.reg (.done [(22, (.cst (.int .i64 0)))] none)) h3_17) Q env w := rfl
def h3_19 : HC := (.seq (.reg (.done [(21, (.cst (.bool false)))] none)) h3_18)
@[simp] theorem h3_19_wp {P : Program} {F : PF P} {Q : EX → List Value → World → Prop} {env : List Value} {w : World} : h3_19.wp F Q env w = HC.wp F (.seq (.reg (.done [(21, (.cst (.bool false)))] none)) h3_18) Q env w := rfl
def h3_20 : HC := (.seq (.reg (.eff (.call 14) (.cons (.inp 3) (.cons (.inp 1) .nil)) (.chk none (.ext 0) (.cons (.bv 0) .nil) (.chk none (.ext 1) (.cons (.bv 0) .nil) (.done [(19, (.op (.ext 0) (.cons (.bv 0) .nil))), (20, (.op (.ext 1) (.cons (.bv 0) .nil)))] none))))) h3_19)
@[simp] theorem h3_20_wp {P : Program} {F : PF P} {Q : EX → List Value → World → Prop} {env : List Value} {w : World} : h3_20.wp F Q env w = HC.wp F (.seq (.reg (.eff (.call 14) (.cons (.inp 3) (.cons (.inp 1) .nil)) (.chk none (.ext 0) (.cons (.bv 0) .nil) (.chk none (.ext 1) (.cons (.bv 0) .nil) (.done [(19, (.op (.ext 0) (.cons (.bv 0) .nil))), (20, (.op (.ext 1) (.cons (.bv 0) .nil)))] none))))) h3_19) Q env w := rfl
def h3_21 : HC := (.reg (.chk none (.bin .add) (.cons (.inp 13) (.cons (.cst (.int .i64 1)) .nil)) (.done [(13, (.op (.bin .add) (.cons (.inp 13) (.cons (.cst (.int .i64 1)) .nil))))] none)))
@[simp] theorem h3_21_wp {P : Program} {F : PF P} {Q : EX → List Value → World → Prop} {env : List Value} {w : World} : h3_21.wp F Q env w = HC.wp F (.reg (.chk none (.bin .add) (.cons (.inp 13) (.cons (.cst (.int .i64 1)) .nil)) (.done [(13, (.op (.bin .add) (.cons (.inp 13) (.cons (.cst (.int .i64 1)) .nil))))] none))) Q env w := rfl
def h3_22 : HC := (.seq (.reg (.done [(2, (.cst (.bool false)))] none)) .ret)
@[simp] theorem h3_22_wp {P : Program} {F : PF P} {Q : EX → List Value → World → Prop} {env : List Value} {w : World} : h3_22.wp F Q env w = HC.wp F (.seq (.reg (.done [(2, (.cst (.bool false)))] none)) .ret) Q env w := rfl
def h3_23 : HC := (.br (.chk none (.un .not) (.cons (.inp 15) .nil) (.bnd (.op (.un .not) (.cons (.inp 15) .nil)) (.chk (some ((.bv 0), false)) (.bin .neq) (.cons (.inp 14) (.cons (.inp 13) .nil)) (.isb none (.bv 0) (.bnd (.ite (.bv 0) true (.cst (.bool true)) (.op (.bin .neq) (.cons (.inp 14) (.cons (.inp 13) .nil)))) (.chk (some ((.bv 1), false)) (.un .not) (.cons (.inp 17) .nil) (.isb none (.bv 1) (.done [] (some (.ite (.bv 1) true (.cst (.bool true)) (.op (.un .not) (.cons (.inp 17) .nil)))))))))))) h3_22 .skip)
@[simp] theorem h3_23_wp {P : Program} {F : PF P} {Q : EX → List Value → World → Prop} {env : List Value} {w : World} : h3_23.wp F Q env w = HC.wp F (.br (.chk none (.un .not) (.cons (.inp 15) .nil) (.bnd (.op (.un .not) (.cons (.inp 15) .nil)) (.chk (some ((.bv 0), false)) (.bin .neq) (.cons (.inp 14) (.cons (.inp 13) .nil)) (.isb none (.bv 0) (.bnd (.ite (.bv 0) true (.cst (.bool true)) (.op (.bin .neq) (.cons (.inp 14) (.cons (.inp 13) .nil)))) (.chk (some ((.bv 1), false)) (.un .not) (.cons (.inp 17) .nil) (.isb none (.bv 1) (.done [] (some (.ite (.bv 1) true (.cst (.bool true)) (.op (.un .not) (.cons (.inp 17) .nil)))))))))))) h3_22 .skip) Q env w := rfl
def h3_24 : HC := (.reg (.chk none (.bin .add) (.cons (.inp 18) (.cons (.cst (.int .i64 1)) .nil)) (.done [(18, (.op (.bin .add) (.cons (.inp 18) (.cons (.cst (.int .i64 1)) .nil))))] none)))
@[simp] theorem h3_24_wp {P : Program} {F : PF P} {Q : EX → List Value → World → Prop} {env : List Value} {w : World} : h3_24.wp F Q env w = HC.wp F (.reg (.chk none (.bin .add) (.cons (.inp 18) (.cons (.cst (.int .i64 1)) .nil)) (.done [(18, (.op (.bin .add) (.cons (.inp 18) (.cons (.cst (.int .i64 1)) .nil))))] none))) Q env w := rfl
def h3_25 : HC := (.seq (.reg (.done [(2, (.cst (.bool false)))] none)) .ret)
@[simp] theorem h3_25_wp {P : Program} {F : PF P} {Q : EX → List Value → World → Prop} {env : List Value} {w : World} : h3_25.wp F Q env w = HC.wp F (.seq (.reg (.done [(2, (.cst (.bool false)))] none)) .ret) Q env w := rfl
def h3_26 : HC := (.brq (some 1) (.chk none (.idxL 1) (.cons (.inp 16) (.cons (.inp 18) .nil)) (.eff (.ld false 1) (.cons (.op (.idxL 1) (.cons (.inp 16) (.cons (.inp 18) .nil))) .nil) (.chk none (.bin .lss) (.cons (.bv 0) (.cons (.cst (.int .i64 0)) .nil)) (.bnd (.op (.bin .lss) (.cons (.bv 0) (.cons (.cst (.int .i64 0)) .nil))) (.chk (some ((.bv 1), false)) (.idxL 1) (.cons (.inp 16) (.cons (.inp 18) .nil)) (.ite (.bv 1) false (.eff (.ld false 1) (.cons (.ite (.bv 1) false (.op (.idxL 1) (.cons (.inp 16) (.cons (.inp 18) .nil))) (.cst (.tuple #[]))) .nil) (.chk none .lenL (.cons (.inp 5) .nil) (.chk none (.bin .geq) (.cons (.bv 2) (.cons (.op .lenL (.cons (.inp 5) .nil)) .nil)) (.isb none (.bv 1) (.bnd (.op (.bin .geq) (.cons (.bv 2) (.cons (.op .lenL (.cons (.inp 5) .nil)) .nil))) (.chk (some ((.bv 3), false)) (.idxL 1) (.cons (.inp 16) (.cons (.inp 18) .nil)) (.ite (.bv 3) false (.eff (.ld false 1) (.cons (.ite (.bv 3) false (.op (.idxL 1) (.cons (.inp 16) (.cons (.inp 18) .nil))) (.cst (.tuple #[]))) .nil) (.chk none (.idxL 1) (.cons (.ite (.bv 3) false (.inp 5) (.cst (.tuple #[]))) (.cons (.bv 4) .nil)) (.eff (.ld false 1) (.cons (.op (.idxL 1) (.cons (.ite (.bv 3) false (.inp 5) (.cst (.tuple #[]))) (.cons (.bv 4) .nil))) .nil) (.chk none (.idxL 1) (.cons (.inp 5) (.cons (.inp 13) .nil)) (.eff (.ld false 1) (.cons (.op (.idxL 1) (.cons (.inp 5) (.cons (.inp 13) .nil))) .nil) (.eff (.call 17) (.cons (.bv 5) (.cons (.bv 6) .nil)) (.chk none (.un .not) (.cons (.bv 7) .nil) (.isb none (.bv 3) (.bnd (.op (.un .not) (.cons (.bv 7) .nil)) (.chk (some ((.bv 8), false)) (.bin .gtr) (.cons (.inp 18) (.cons (.cst (.int .i64 0)) .nil)) (.bnd (.ite (.bv 8) false (.op (.bin .gtr) (.cons (.inp 18) (.cons (.cst (.int .i64 0)) .nil))) (.cst (.tuple #[]))) (.chk (some ((.bv 9), true)) (.idxL 1) (.cons (.inp 16) (.cons (.inp 18) .nil)) (.ite (.bv 9) true (.eff (.ld false 1) (.cons (.ite (.bv 9) true (.op (.idxL 1) (.cons (.inp 16) (.cons (.inp 18) .nil))) (.cst (.tuple #[]))) .nil) (.chk none (.bin .sub) (.cons (.inp 18) (.cons (.cst (.int .i64 1)) .nil)) (.chk none (.idxL 1) (.cons (.inp 16) (.cons (.op (.bin .sub) (.cons (.inp 18) (.cons (.cst (.int .i64 1)) .nil))) .nil)) (.eff (.ld false 1) (.cons (.op (.idxL 1) (.cons (.inp 16) (.cons (.op (.bin .sub) (.cons (.inp 18) (.cons (.cst (.int .i64 1)) .nil))) .nil))) .nil) (.chk none (.bin .leq) (.cons (.bv 10) (.cons (.bv 11) .nil)) (.isb (some ((.bv 8), false)) (.bv 9) (.isb none (.bv 8) (.done [] (some (.ite (.bv 8) true (.cst (.bool true)) (.op (.bin .leq) (.cons (.bv 10) (.cons (.bv 11) .nil))))))))))))) (.isb (some ((.bv 8), false)) (.bv 9) (.isb none (.bv 8) (.done [] (some (.ite (.bv 8) true (.cst (.bool true)) (.cst (.bool false)))))))))))))))))))) (.isb none (.bv 3) (.isb none (.cst (.bool true)) (.done [] (some (.cst (.bool true))))))))))))) (.isb none (.bv 1) (.isb none (.cst (.bool true)) (.isb none (.cst (.bool true)) (.done [] (some (.cst (.bool true))))))))))))) h3_25 .skip)
@[simp] theorem h3_26_wp {P : Program} {F : PF P} {Q : EX → List Value → World → Prop} {env : List Value} {w : World} : h3_26.wp F Q env w = HC.wp F (.brq (some 1) (.chk none (.idxL 1) (.cons (.inp 16) (.cons (.inp 18) .nil)) (.eff (.ld false 1) (.cons (.op (.idxL 1) (.cons (.inp 16) (.cons (.inp 18) .nil))) .nil) (.chk none (.bin .lss) (.cons (.bv 0) (.cons (.cst (.int .i64 0)) .nil)) (.bnd (.op (.bin .lss) (.cons (.bv 0) (.cons (.cst (.int .i64 0)) .nil))) (.chk (some ((.bv 1), false)) (.idxL 1) (.cons (.inp 16) (.cons (.inp 18) .nil)) (.ite (.bv 1) false (.eff (.ld false 1) (.cons (.ite (.bv 1) false (.op (.idxL 1) (.cons (.inp 16) (.cons (.inp 18) .nil))) (.cst (.tuple #[]))) .nil) (.chk none .lenL (.cons (.inp 5) .nil) (.chk none (.bin .geq) (.cons (.bv 2) (.cons (.op .lenL (.cons (.inp 5) .nil)) .nil)) (.isb none (.bv 1) (.bnd (.op (.bin .geq) (.cons (.bv 2) (.cons (.op .lenL (.cons (.inp 5) .nil)) .nil))) (.chk (some ((.bv 3), false)) (.idxL 1) (.cons (.inp 16) (.cons (.inp 18) .nil)) (.ite (.bv 3) false (.eff (.ld false 1) (.cons (.ite (.bv 3) false (.op (.idxL 1) (.cons (.inp 16) (.cons (.inp 18) .nil))) (.cst (.tuple #[]))) .nil) (.chk none (.idxL 1) (.cons (.ite (.bv 3) false (.inp 5) (.cst (.tuple #[]))) (.cons (.bv 4) .nil)) (.eff (.ld false 1) (.cons (.op (.idxL 1) (.cons (.ite (.bv 3) false (.inp 5) (.cst (.tuple #[]))) (.cons (.bv 4) .nil))) .nil) (.chk none (.idxL 1) (.cons (.inp 5) (.cons (.inp 13) .nil)) (.eff (.ld false 1) (.cons (.op (.idxL 1) (.cons (.inp 5) (.cons (.inp 13) .nil))) .nil) (.eff (.call 17) (.cons (.bv 5) (.cons (.bv 6) .nil)) (.chk none (.un .not) (.cons (.bv 7) .nil) (.isb none (.bv 3) (.bnd (.op (.un .not) (.cons (.bv 7) .nil)) (.chk (some ((.bv 8), false)) (.bin .gtr) (.cons (.inp 18) (.cons (.cst (.int .i64 0)) .nil)) (.bnd (.ite (.bv 8) false (.op (.bin .gtr) (.cons (.inp 18) (.cons (.cst (.int .i64 0)) .nil))) (.cst (.tuple #[]))) (.chk (some ((.bv 9), true)) (.idxL 1) (.cons (.inp 16) (.cons (.inp 18) .nil)) (.ite (.bv 9) true (.eff (.ld false 1) (.cons (.ite (.bv 9) true (.op (.idxL 1) (.cons (.inp 16) (.cons (.inp 18) .nil))) (.cst (.tuple #[]))) .nil) (.chk none (.bin .sub) (.cons (.inp 18) (.cons (.cst (.int .i64 1)) .nil)) (.chk none (.idxL 1) (.cons (.inp 16) (.cons (.op (.bin .sub) (.cons (.inp 18) (.cons (.cst (.int .i64 1)) .nil))) .nil)) (.eff (.ld false 1) (.cons (.op (.idxL 1) (.cons (.inp 16) (.cons (.op (.bin .sub) (.cons (.inp 18) (.cons (.cst (.int .i64 1)) .nil))) .nil))) .nil) (.chk none (.bin .leq) (.cons (.bv 10) (.cons (.bv 11) .nil)) (.isb (some ((.bv 8), false)) (.bv 9) (.isb none (.bv 8) (.done [] (some (.ite (.bv 8) true (.cst (.bool true)) (.op (.bin .leq) (.cons (.bv 10) (.cons (.bv 11) .nil))))))))))))) (.isb (some ((.bv 8), false)) (.bv 9) (.isb none (.bv 8) (.done [] (some (.ite (.bv 8) true (.cst (.bool true)) (.cst (.bool false)))))))))))))))))))) (.isb none (.bv 3) (.isb none (.cst (.bool true)) (.done [] (some (.cst (.bool true))))))))))))) (.isb none (.bv 1) (.isb none (.cst (.bool true)) (.isb none (.cst (.bool true)) (.done [] (some (.cst (.bool true))))))))))))) h3_25 .skip) Q env w := rfl
def h3_27 : HC := (.seq (.reg (.chk (some ((.inp 17), false)) (.idxL 1) (.cons (.inp 16) (.cons (.inp 18) .nil)) (.ite (.inp 17) false (.eff (.ld false 1) (.cons (.ite (.inp 17) false (.op (.idxL 1) (.cons (.inp 16) (.cons (.inp 18) .nil))) (.cst (.tuple #[]))) .nil) (.chk none (.bin .eql) (.cons (.bv 0) (.cons (.inp 13) .nil)) (.isb none (.inp 17) (.done [(17, (.op (.bin .eql) (.cons (.bv 0) (.cons (.inp 13) .nil))))] none)))) (.isb none (.inp 17) (.done [(17, (.cst (.bool true)))] none))))) h3_26)
@[simp] theorem h3_27_wp {P : Program} {F : PF P} {Q : EX → List Value → World → Prop} {env : List Value} {w : World} : h3_27.wp F Q env w = HC.wp F (.seq (.reg (.chk (some ((.inp 17), false)) (.idxL 1) (.cons (.inp 16) (.cons (.inp 18) .nil)) (.ite (.inp 17) false (.eff (.ld false 1) (.cons (.ite (.inp 17) false (.op (.idxL 1) (.cons (.inp 16) (.cons (.inp 18) .nil))) (.cst (.tuple #[]))) .nil) (.chk none (.bin .eql) (.cons (.bv 0) (.cons (.inp 13) .nil)) (.isb none (.inp 17) (.done [(17, (.op (.bin .eql) (.cons (.bv 0) (.cons (.inp 13) .nil))))] none)))) (.isb none (.inp 17) (.done [(17, (.cst (.bool true)))] none))))) h3_26) Q env w := rfl
def h3_28 : HC := (.seq (.block 8 h3_27) h3_24)
@[simp] theorem h3_28_wp {P : Program} {F : PF P} {Q : EX → List Value → World → Prop} {env : List Value} {w : World} : h3_28.wp F Q env w = HC.wp F (.seq (.block 8 h3_27) h3_24) Q env w := rfl
def h3_29 : HC := (.seq (.br (.chk none .lenL (.cons (.inp 16) .nil) (.chk none (.bin .lss) (.cons (.inp 18) (.cons (.op .lenL (.cons (.inp 16) .nil)) .nil)) (.done [] (some (.op (.bin .lss) (.cons (.inp 18) (.cons (.op .lenL (.cons (.inp 16) .nil)) .nil))))))) .skip (.exit 7)) h3_28)
@[simp] theorem h3_29_wp {P : Program} {F : PF P} {Q : EX → List Value → World → Prop} {env : List Value} {w : World} : h3_29.wp F Q env w = HC.wp F (.seq (.br (.chk none .lenL (.cons (.inp 16) .nil) (.chk none (.bin .lss) (.cons (.inp 18) (.cons (.op .lenL (.cons (.inp 16) .nil)) .nil)) (.done [] (some (.op (.bin .lss) (.cons (.inp 18) (.cons (.op .lenL (.cons (.inp 16) .nil)) .nil))))))) .skip (.exit 7)) h3_28) Q env w := rfl
def h3_30 : HC := (.loop h3_29)
@[simp] theorem h3_30_wp {P : Program} {F : PF P} {Q : EX → List Value → World → Prop} {env : List Value} {w : World} : h3_30.wp F Q env w = HC.wp F (.loop h3_29) Q env w := rfl
def h3_31 : HC := (.seq (.block 7 h3_30) h3_23)
@[simp] theorem h3_31_wp {P : Program} {F : PF P} {Q : EX → List Value → World → Prop} {env : List Value} {w : World} : h3_31.wp F Q env w = HC.wp F (.seq (.block 7 h3_30) h3_23) Q env w := rfl
def h3_32 : HC := (.seq (.reg (.done [(18, (.cst (.int .i64 0)))] none)) h3_31)
@[simp] theorem h3_32_wp {P : Program} {F : PF P} {Q : EX → List Value → World → Prop} {env : List Value} {w : World} : h3_32.wp F Q env w = HC.wp F (.seq (.reg (.done [(18, (.cst (.int .i64 0)))] none)) h3_31) Q env w := rfl
def h3_33 : HC := (.seq (.reg (.done [(17, (.cst (.bool false)))] none)) h3_32)
@[simp] theorem h3_33_wp {P : Program} {F : PF P} {Q : EX → List Value → World → Prop} {env : List Value} {w : World} : h3_33.wp F Q env w = HC.wp F (.seq (.reg (.done [(17, (.cst (.bool false)))] none)) h3_32) Q env w := rfl
def h3_34 : HC := (.seq (.reg (.chk none (.idxL 1) (.cons (.inp 5) (.cons (.inp 13) .nil)) (.eff (.ld false 1) (.cons (.op (.idxL 1) (.cons (.inp 5) (.cons (.inp 13) .nil))) .nil) (.eff (.call 16) (.cons (.inp 3) (.cons (.bv 0) .nil)) (.done [(16, (.bv 1))] none))))) h3_33)
@[simp] theorem h3_34_wp {P : Program} {F : PF P} {Q : EX → List Value → World → Prop} {env : List Value} {w : World} : h3_34.wp F Q env w = HC.wp F (.seq (.reg (.chk none (.idxL 1) (.cons (.inp 5) (.cons (.inp 13) .nil)) (.eff (.ld false 1) (.cons (.op (.idxL 1) (.cons (.inp 5) (.cons (.inp 13) .nil))) .nil) (.eff (.call 16) (.cons (.inp 3) (.cons (.bv 0) .nil)) (.done [(16, (.bv 1))] none))))) h3_33) Q env w := rfl
def h3_35 : HC := (.seq (.reg (.chk none (.idxL 1) (.cons (.inp 5) (.cons (.inp 13) .nil)) (.eff (.ld false 1) (.cons (.op (.idxL 1) (.cons (.inp 5) (.cons (.inp 13) .nil))) .nil) (.eff (.call 15) (.cons (.bv 0) .nil) (.eff (.call 14) (.cons (.inp 3) (.cons (.bv 1) .nil)) (.chk none (.ext 0) (.cons (.bv 2) .nil) (.chk none (.ext 1) (.cons (.bv 2) .nil) (.done [(14, (.op (.ext 0) (.cons (.bv 2) .nil))), (15, (.op (.ext 1) (.cons (.bv 2) .nil)))] none)))))))) h3_34)
@[simp] theorem h3_35_wp {P : Program} {F : PF P} {Q : EX → List Value → World → Prop} {env : List Value} {w : World} : h3_35.wp F Q env w = HC.wp F (.seq (.reg (.chk none (.idxL 1) (.cons (.inp 5) (.cons (.inp 13) .nil)) (.eff (.ld false 1) (.cons (.op (.idxL 1) (.cons (.inp 5) (.cons (.inp 13) .nil))) .nil) (.eff (.call 15) (.cons (.bv 0) .nil) (.eff (.call 14) (.cons (.inp 3) (.cons (.bv 1) .nil)) (.chk none (.ext 0) (.cons (.bv 2) .nil) (.chk none (.ext 1) (.cons (.bv 2) .nil) (.done [(14, (.op (.ext 0) (.cons (.bv 2) .nil))), (15, (.op (.ext 1) (.cons (.bv 2) .nil)))] none)))))))) h3_34) Q env w := rfl
def h3_36 : HC := (.seq (.block 6 h3_35) h3_21)
@[simp] theorem h3_36_wp {P : Program} {F : PF P} {Q : EX → List Value → World → Prop} {env : List Value} {w : World} : h3_36.wp F Q env w = HC.wp F (.seq (.block 6 h3_35) h3_21) Q env w := rfl
def h3_37 : HC := (.seq (.br (.chk none .lenL (.cons (.inp 5) .nil) (.chk none (.bin .lss) (.cons (.inp 13) (.cons (.op .lenL (.cons (.inp 5) .nil)) .nil)) (.done [] (some (.op (.bin .lss) (.cons (.inp 13) (.cons (.op .lenL (.cons (.inp 5) .nil)) .nil))))))) .skip (.exit 5)) h3_36)
@[simp] theorem h3_37_wp {P : Program} {F : PF P} {Q : EX → List Value → World → Prop} {env : List Value} {w : World} : h3_37.wp F Q env w = HC.wp F (.seq (.br (.chk none .lenL (.cons (.inp 5) .nil) (.chk none (.bin .lss) (.cons (.inp 13) (.cons (.op .lenL (.cons (.inp 5) .nil)) .nil)) (.done [] (some (.op (.bin .lss) (.cons (.inp 13) (.cons (.op .lenL (.cons (.inp 5) .nil)) .nil))))))) .skip (.exit 5)) h3_36) Q env w := rfl
def h3_38 : HC := (.loop h3_37)
@[simp] theorem h3_38_wp {P : Program} {F : PF P} {Q : EX → List Value → World → Prop} {env : List Value} {w : World} : h3_38.wp F Q env w = HC.wp F (.loop h3_37) Q env w := rfl
def h3_39 : HC := (.seq (.block 5 h3_38) h3_20)
@[simp] theorem h3_39_wp {P : Program} {F : PF P} {Q : EX → List Value → World → Prop} {env : List Value} {w : World} : h3_39.wp F Q env w = HC.wp F (.seq (.block 5 h3_38) h3_20) Q env w := rfl
def h3_40 : HC := (.seq (.reg (.done [(13, (.cst (.int .i64 0)))] none)) h3_39)
@[simp] theorem h3_40_wp {P : Program} {F : PF P} {Q : EX → List Value → World → Prop} {env : List Value} {w : World} : h3_40.wp F Q env w = HC.wp F (.seq (.reg (.done [(13, (.cst (.int .i64 0)))] none)) h3_39) Q env w := rfl
def h3_41 : HC := (.reg (.chk none (.bin .add) (.cons (.inp 6) (.cons (.cst (.int .i64 1)) .nil)) (.done [(6, (.op (.bin .add) (.cons (.inp 6) (.cons (.cst (.int .i64 1)) .nil))))] none)))
@[simp] theorem h3_41_wp {P : Program} {F : PF P} {Q : EX → List Value → World → Prop} {env : List Value} {w : World} : h3_41.wp F Q env w = HC.wp F (.reg (.chk none (.bin .add) (.cons (.inp 6) (.cons (.cst (.int .i64 1)) .nil)) (.done [(6, (.op (.bin .add) (.cons (.inp 6) (.cons (.cst (.int .i64 1)) .nil))))] none))) Q env w := rfl
def h3_42 : HC := (.seq (.reg (.done [(2, (.cst (.bool false)))] none)) .ret)
@[simp] theorem h3_42_wp {P : Program} {F : PF P} {Q : EX → List Value → World → Prop} {env : List Value} {w : World} : h3_42.wp F Q env w = HC.wp F (.seq (.reg (.done [(2, (.cst (.bool false)))] none)) .ret) Q env w := rfl
def h3_43 : HC := (.br (.chk none (.cal 10) (.cons (.inp 12) .nil) (.chk none (.cal 10) (.cons (.inp 8) .nil) (.chk none (.bin .neq) (.cons (.op (.cal 10) (.cons (.inp 12) .nil)) (.cons (.op (.cal 10) (.cons (.inp 8) .nil)) .nil)) (.bnd (.op (.bin .neq) (.cons (.op (.cal 10) (.cons (.inp 12) .nil)) (.cons (.op (.cal 10) (.cons (.inp 8) .nil)) .nil))) (.chk (some ((.bv 0), false)) (.bin .lss) (.cons (.inp 7) (.cons (.cst (.int .i64 0)) .nil)) (.isb none (.bv 0) (.done [] (some (.ite (.bv 0) true (.cst (.bool true)) (.op (.bin .lss) (.cons (.inp 7) (.cons (.cst (.int .i64 0)) .nil)))))))))))) h3_42 .skip)
@[simp] theorem h3_43_wp {P : Program} {F : PF P} {Q : EX → List Value → World → Prop} {env : List Value} {w : World} : h3_43.wp F Q env w = HC.wp F (.br (.chk none (.cal 10) (.cons (.inp 12) .nil) (.chk none (.cal 10) (.cons (.inp 8) .nil) (.chk none (.bin .neq) (.cons (.op (.cal 10) (.cons (.inp 12) .nil)) (.cons (.op (.cal 10) (.cons (.inp 8) .nil)) .nil)) (.bnd (.op (.bin .neq) (.cons (.op (.cal 10) (.cons (.inp 12) .nil)) (.cons (.op (.cal 10) (.cons (.inp 8) .nil)) .nil))) (.chk (some ((.bv 0), false)) (.bin .lss) (.cons (.inp 7) (.cons (.cst (.int .i64 0)) .nil)) (.isb none (.bv 0) (.done [] (some (.ite (.bv 0) true (.cst (.bool true)) (.op (.bin .lss) (.cons (.inp 7) (.cons (.cst (.int .i64 0)) .nil)))))))))))) h3_42 .skip) Q env w := rfl
def h3_44 : HC := (.seq (.reg (.done [(2, (.cst (.bool false)))] none)) .ret)
@[simp] theorem h3_44_wp {P : Program} {F : PF P} {Q : EX → List Value → World → Prop} {env : List Value} {w : World} : h3_44.wp F Q env w = HC.wp F (.seq (.reg (.done [(2, (.cst (.bool false)))] none)) .ret) Q env w := rfl
def h3_45 : HC := (.br (.chk none (.cal 10) (.cons (.inp 12) .nil) (.chk none (.bin .neq) (.cons (.op (.cal 10) (.cons (.inp 12) .nil)) (.cons (.cst (.int .i64 140)) .nil)) (.done [] (some (.op (.bin .neq) (.cons (.op (.cal 10) (.cons (.inp 12) .nil)) (.cons (.cst (.int .i64 140)) .nil))))))) h3_44 .skip)
@[simp] theorem h3_45_wp {P : Program} {F : PF P} {Q : EX → List Value → World → Prop} {env : List Value} {w : World} : h3_45.wp F Q env w = HC.wp F (.br (.chk none (.cal 10) (.cons (.inp 12) .nil) (.chk none (.bin .neq) (.cons (.op (.cal 10) (.cons (.inp 12) .nil)) (.cons (.cst (.int .i64 140)) .nil)) (.done [] (some (.op (.bin .neq) (.cons (.op (.cal 10) (.cons (.inp 12) .nil)) (.cons (.cst (.int .i64 140)) .nil))))))) h3_44 .skip) Q env w := rfl
def h3_46 : HC := (.seq (.reg (.done [(2, (.cst (.bool false)))] none)) .ret)
@[simp] theorem h3_46_wp {P : Program} {F : PF P} {Q : EX → List Value → World → Prop} {env : List Value} {w : World} : h3_46.wp F Q env w = HC.wp F (.seq (.reg (.done [(2, (.cst (.bool false)))] none)) .ret) Q env w := rfl
def h3_47 : HC := (.br (.chk none (.cal 10) (.cons (.inp 12) .nil) (.chk none (.bin .neq) (.cons (.op (.cal 10) (.cons (.inp 12) .nil)) (.cons (.cst (.int .i64 141)) .nil)) (.done [] (some (.op (.bin .neq) (.cons (.op (.cal 10) (.cons (.inp 12) .nil)) (.cons (.cst (.int .i64 141)) .nil))))))) h3_46 .skip)
@[simp] theorem h3_47_wp {P : Program} {F : PF P} {Q : EX → List Value → World → Prop} {env : List Value} {w : World} : h3_47.wp F Q env w = HC.wp F (.br (.chk none (.cal 10) (.cons (.inp 12) .nil) (.chk none (.bin .neq) (.cons (.op (.cal 10) (.cons (.inp 12) .nil)) (.cons (.cst (.int .i64 141)) .nil)) (.done [] (some (.op (.bin .neq) (.cons (.op (.cal 10) (.cons (.inp 12) .nil)) (.cons (.cst (.int .i64 141)) .nil))))))) h3_46 .skip) Q env w := rfl
def h3_48 : HC := (.reg (.chk none (.idxL 1) (.cons (.inp 0) (.cons (.inp 6) .nil)) (.eff (.ld false 1) (.cons (.op (.idxL 1) (.cons (.inp 0) (.cons (.inp 6) .nil))) .nil) (.eff (.bsl 9 1 1 #[(.string ⟨#[]⟩)] [0]) (.cons (.bv 0) .nil) (.eff (.app 22 22 9 1 16 (.string ⟨#[]⟩)) (.cons (.inp 5) (.cons (.bv 1) .nil)) (.done [(5, (.bv 2))] none))))))
@[simp] theorem h3_48_wp {P : Program} {F : PF P} {Q : EX → List Value → World → Prop} {env : List Value} {w : World} : h3_48.wp F Q env w = HC.wp F (.reg (.chk none (.idxL 1) (.cons (.inp 0) (.cons (.inp 6) .nil)) (.eff (.ld false 1) (.cons (.op (.idxL 1) (.cons (.inp 0) (.cons (.inp 6) .nil))) .nil) (.eff (.bsl 9 1 1 #[(.string ⟨#[]⟩)] [0]) (.cons (.bv 0) .nil) (.eff (.app 22 22 9 1 16 (.string ⟨#[]⟩)) (.cons (.inp 5) (.cons (.bv 1) .nil)) (.done [(5, (.bv 2))] none)))))) Q env w := rfl
def h3_49 : HC := (.seq (.reg (.done [(2, (.cst (.bool false)))] none)) .ret)
@[simp] theorem h3_49_wp {P : Program} {F : PF P} {Q : EX → List Value → World → Prop} {env : List Value} {w : World} : h3_49.wp F Q env w = HC.wp F (.seq (.reg (.done [(2, (.cst (.bool false)))] none)) .ret) Q env w := rfl
def h3_50 : HC := (.seq (.br (.chk none (.cal 10) (.cons (.inp 12) .nil) (.chk none (.bin .neq) (.cons (.op (.cal 10) (.cons (.inp 12) .nil)) (.cons (.cst (.int .i64 0)) .nil)) (.bnd (.op (.bin .neq) (.cons (.op (.cal 10) (.cons (.inp 12) .nil)) (.cons (.cst (.int .i64 0)) .nil))) (.chk (some ((.bv 0), false)) .lenL (.cons (.inp 5) .nil) (.chk (some ((.bv 0), false)) (.bin .neq) (.cons (.inp 11) (.cons (.op .lenL (.cons (.inp 5) .nil)) .nil)) (.isb none (.bv 0) (.done [] (some (.ite (.bv 0) true (.cst (.bool true)) (.op (.bin .neq) (.cons (.inp 11) (.cons (.op .lenL (.cons (.inp 5) .nil)) .nil)))))))))))) h3_49 .skip) h3_48)
@[simp] theorem h3_50_wp {P : Program} {F : PF P} {Q : EX → List Value → World → Prop} {env : List Value} {w : World} : h3_50.wp F Q env w = HC.wp F (.seq (.br (.chk none (.cal 10) (.cons (.inp 12) .nil) (.chk none (.bin .neq) (.cons (.op (.cal 10) (.cons (.inp 12) .nil)) (.cons (.cst (.int .i64 0)) .nil)) (.bnd (.op (.bin .neq) (.cons (.op (.cal 10) (.cons (.inp 12) .nil)) (.cons (.cst (.int .i64 0)) .nil))) (.chk (some ((.bv 0), false)) .lenL (.cons (.inp 5) .nil) (.chk (some ((.bv 0), false)) (.bin .neq) (.cons (.inp 11) (.cons (.op .lenL (.cons (.inp 5) .nil)) .nil)) (.isb none (.bv 0) (.done [] (some (.ite (.bv 0) true (.cst (.bool true)) (.op (.bin .neq) (.cons (.inp 11) (.cons (.op .lenL (.cons (.inp 5) .nil)) .nil)))))))))))) h3_49 .skip) h3_48) Q env w := rfl
def h3_51 : HC := (.br (.chk none .lenL (.cons (.inp 5) .nil) (.chk none (.bin .eql) (.cons (.op .lenL (.cons (.inp 5) .nil)) (.cons (.cst (.int .i64 64)) .nil)) (.done [] (some (.op (.bin .eql) (.cons (.op .lenL (.cons (.inp 5) .nil)) (.cons (.cst (.int .i64 64)) .nil))))))) h3_47 h3_50)
@[simp] theorem h3_51_wp {P : Program} {F : PF P} {Q : EX → List Value → World → Prop} {env : List Value} {w : World} : h3_51.wp F Q env w = HC.wp F (.br (.chk none .lenL (.cons (.inp 5) .nil) (.chk none (.bin .eql) (.cons (.op .lenL (.cons (.inp 5) .nil)) (.cons (.cst (.int .i64 64)) .nil)) (.done [] (some (.op (.bin .eql) (.cons (.op .lenL (.cons (.inp 5) .nil)) (.cons (.cst (.int .i64 64)) .nil))))))) h3_47 h3_50) Q env w := rfl
def h3_52 : HC := (.br (.done [] (some (.inp 9))) h3_45 h3_51)
@[simp] theorem h3_52_wp {P : Program} {F : PF P} {Q : EX → List Value → World → Prop} {env : List Value} {w : World} : h3_52.wp F Q env w = HC.wp F (.br (.done [] (some (.inp 9))) h3_45 h3_51) Q env w := rfl
def h3_53 : HC := (.br (.chk none (.cal 10) (.cons (.inp 8) .nil) (.chk none (.bin .neq) (.cons (.op (.cal 10) (.cons (.inp 8) .nil)) (.cons (.cst (.int .i64 0)) .nil)) (.done [] (some (.op (.bin .neq) (.cons (.op (.cal 10) (.cons (.inp 8) .nil)) (.cons (.cst (.int .i64 0)) .nil))))))) h3_43 h3_52)
@[simp] theorem h3_53_wp {P : Program} {F : PF P} {Q : EX → List Value → World → Prop} {env : List Value} {w : World} : h3_53.wp F Q env w = HC.wp F (.br (.chk none (.cal 10) (.cons (.inp 8) .nil) (.chk none (.bin .neq) (.cons (.op (.cal 10) (.cons (.inp 8) .nil)) (.cons (.cst (.int .i64 0)) .nil)) (.done [] (some (.op (.bin .neq) (.cons (.op (.cal 10) (.cons (.inp 8) .nil)) (.cons (.cst (.int .i64 0)) .nil))))))) h3_43 h3_52) Q env w := rfl
def h3_54 : HC := (.block 4 h3_53)
@[simp] theorem h3_54_wp {P : Program} {F : PF P} {Q : EX → List Value → World → Prop} {env : List Value} {w : World} : h3_54.wp F Q env w = HC.wp F (.block 4 h3_53) Q env w := rfl
def h3_55 : HC := (.seq (.reg (.chk none (.idxL 1) (.cons (.inp 0) (.cons (.inp 6) .nil)) (.eff (.ld false 1) (.cons (.op (.idxL 1) (.cons (.inp 0) (.cons (.inp 6) .nil))) .nil) (.eff (.call 13) (.cons (.inp 3) (.cons (.bv 0) .nil)) (.chk none (.ext 0) (.cons (.bv 1) .nil) (.chk none (.ext 1) (.cons (.bv 1) .nil) (.done [(11, (.op (.ext 0) (.cons (.bv 1) .nil))), (12, (.op (.ext 1) (.cons (.bv 1) .nil)))] none))))))) h3_54)
@[simp] theorem h3_55_wp {P : Program} {F : PF P} {Q : EX → List Value → World → Prop} {env : List Value} {w : World} : h3_55.wp F Q env w = HC.wp F (.seq (.reg (.chk none (.idxL 1) (.cons (.inp 0) (.cons (.inp 6) .nil)) (.eff (.ld false 1) (.cons (.op (.idxL 1) (.cons (.inp 0) (.cons (.inp 6) .nil))) .nil) (.eff (.call 13) (.cons (.inp 3) (.cons (.bv 0) .nil)) (.chk none (.ext 0) (.cons (.bv 1) .nil) (.chk none (.ext 1) (.cons (.bv 1) .nil) (.done [(11, (.op (.ext 0) (.cons (.bv 1) .nil))), (12, (.op (.ext 1) (.cons (.bv 1) .nil)))] none))))))) h3_54) Q env w := rfl
def h3_56 : HC := (.reg (.chk none (.bin .add) (.cons (.inp 10) (.cons (.cst (.int .i64 1)) .nil)) (.done [(10, (.op (.bin .add) (.cons (.inp 10) (.cons (.cst (.int .i64 1)) .nil))))] none)))
@[simp] theorem h3_56_wp {P : Program} {F : PF P} {Q : EX → List Value → World → Prop} {env : List Value} {w : World} : h3_56.wp F Q env w = HC.wp F (.reg (.chk none (.bin .add) (.cons (.inp 10) (.cons (.cst (.int .i64 1)) .nil)) (.done [(10, (.op (.bin .add) (.cons (.inp 10) (.cons (.cst (.int .i64 1)) .nil))))] none))) Q env w := rfl
def h3_57 : HC := (.regq (some 1) (.chk (some ((.inp 9), false)) (.idxL 1) (.cons (.inp 5) (.cons (.inp 10) .nil)) (.ite (.inp 9) false (.eff (.ld false 1) (.cons (.ite (.inp 9) false (.op (.idxL 1) (.cons (.inp 5) (.cons (.inp 10) .nil))) (.cst (.tuple #[]))) .nil) (.chk none (.idxL 1) (.cons (.inp 0) (.cons (.inp 6) .nil)) (.eff (.ld false 1) (.cons (.op (.idxL 1) (.cons (.inp 0) (.cons (.inp 6) .nil))) .nil) (.eff (.call 12) (.cons (.bv 0) (.cons (.bv 1) .nil)) (.isb none (.inp 9) (.done [(9, (.bv 2))] none)))))) (.isb none (.inp 9) (.done [(9, (.cst (.bool true)))] none)))))
@[simp] theorem h3_57_wp {P : Program} {F : PF P} {Q : EX → List Value → World → Prop} {env : List Value} {w : World} : h3_57.wp F Q env w = HC.wp F (.regq (some 1) (.chk (some ((.inp 9), false)) (.idxL 1) (.cons (.inp 5) (.cons (.inp 10) .nil)) (.ite (.inp 9) false (.eff (.ld false 1) (.cons (.ite (.inp 9) false (.op (.idxL 1) (.cons (.inp 5) (.cons (.inp 10) .nil))) (.cst (.tuple #[]))) .nil) (.chk none (.idxL 1) (.cons (.inp 0) (.cons (.inp 6) .nil)) (.eff (.ld false 1) (.cons (.op (.idxL 1) (.cons (.inp 0) (.cons (.inp 6) .nil))) .nil) (.eff (.call 12) (.cons (.bv 0) (.cons (.bv 1) .nil)) (.isb none (.inp 9) (.done [(9, (.bv 2))] none)))))) (.isb none (.inp 9) (.done [(9, (.cst (.bool true)))] none))))) Q env w := rfl
def h3_58 : HC := (.seq (.block 3 h3_57) h3_56)
@[simp] theorem h3_58_wp {P : Program} {F : PF P} {Q : EX → List Value → World → Prop} {env : List Value} {w : World} : h3_58.wp F Q env w = HC.wp F (.seq (.block 3 h3_57) h3_56) Q env w := rfl
def h3_59 : HC := (.seq (.br (.chk none .lenL (.cons (.inp 5) .nil) (.chk none (.bin .lss) (.cons (.inp 10) (.cons (.op .lenL (.cons (.inp 5) .nil)) .nil)) (.done [] (some (.op (.bin .lss) (.cons (.inp 10) (.cons (.op .lenL (.cons (.inp 5) .nil)) .nil))))))) .skip (.exit 2)) h3_58)
@[simp] theorem h3_59_wp {P : Program} {F : PF P} {Q : EX → List Value → World → Prop} {env : List Value} {w : World} : h3_59.wp F Q env w = HC.wp F (.seq (.br (.chk none .lenL (.cons (.inp 5) .nil) (.chk none (.bin .lss) (.cons (.inp 10) (.cons (.op .lenL (.cons (.inp 5) .nil)) .nil)) (.done [] (some (.op (.bin .lss) (.cons (.inp 10) (.cons (.op .lenL (.cons (.inp 5) .nil)) .nil))))))) .skip (.exit 2)) h3_58) Q env w := rfl
def h3_60 : HC := (.loop h3_59)
@[simp] theorem h3_60_wp {P : Program} {F : PF P} {Q : EX → List Value → World → Prop} {env : List Value} {w : World} : h3_60.wp F Q env w = HC.wp F (.loop h3_59) Q env w := rfl
def h3_61 : HC := (.seq (.block 2 h3_60) h3_55)
@[simp] theorem h3_61_wp {P : Program} {F : PF P} {Q : EX → List Value → World → Prop} {env : List Value} {w : World} : h3_61.wp F Q env w = HC.wp F (.seq (.block 2 h3_60) h3_55) Q env w := rfl
def h3_62 : HC := (.seq (.reg (.done [(10, (.cst (.int .i64 0)))] none)) h3_61)
@[simp] theorem h3_62_wp {P : Program} {F : PF P} {Q : EX → List Value → World → Prop} {env : List Value} {w : World} : h3_62.wp F Q env w = HC.wp F (.seq (.reg (.done [(10, (.cst (.int .i64 0)))] none)) h3_61) Q env w := rfl
def h3_63 : HC := (.seq (.reg (.done [(9, (.cst (.bool false)))] none)) h3_62)
@[simp] theorem h3_63_wp {P : Program} {F : PF P} {Q : EX → List Value → World → Prop} {env : List Value} {w : World} : h3_63.wp F Q env w = HC.wp F (.seq (.reg (.done [(9, (.cst (.bool false)))] none)) h3_62) Q env w := rfl
def h3_64 : HC := (.seq (.reg (.chk none (.idxL 1) (.cons (.inp 0) (.cons (.inp 6) .nil)) (.eff (.ld false 1) (.cons (.op (.idxL 1) (.cons (.inp 0) (.cons (.inp 6) .nil))) .nil) (.eff (.call 11) (.cons (.bv 0) .nil) (.chk none (.ext 0) (.cons (.bv 1) .nil) (.chk none (.ext 1) (.cons (.bv 1) .nil) (.done [(7, (.op (.ext 0) (.cons (.bv 1) .nil))), (8, (.op (.ext 1) (.cons (.bv 1) .nil)))] none))))))) h3_63)
@[simp] theorem h3_64_wp {P : Program} {F : PF P} {Q : EX → List Value → World → Prop} {env : List Value} {w : World} : h3_64.wp F Q env w = HC.wp F (.seq (.reg (.chk none (.idxL 1) (.cons (.inp 0) (.cons (.inp 6) .nil)) (.eff (.ld false 1) (.cons (.op (.idxL 1) (.cons (.inp 0) (.cons (.inp 6) .nil))) .nil) (.eff (.call 11) (.cons (.bv 0) .nil) (.chk none (.ext 0) (.cons (.bv 1) .nil) (.chk none (.ext 1) (.cons (.bv 1) .nil) (.done [(7, (.op (.ext 0) (.cons (.bv 1) .nil))), (8, (.op (.ext 1) (.cons (.bv 1) .nil)))] none))))))) h3_63) Q env w := rfl
def h3_65 : HC := (.seq (.block 1 h3_64) h3_41)
@[simp] theorem h3_65_wp {P : Program} {F : PF P} {Q : EX → List Value → World → Prop} {env : List Value} {w : World} : h3_65.wp F Q env w = HC.wp F (.seq (.block 1 h3_64) h3_41) Q env w := rfl
def h3_66 : HC := (.seq (.br (.chk none .lenL (.cons (.inp 0) .nil) (.chk none (.bin .lss) (.cons (.inp 6) (.cons (.op .lenL (.cons (.inp 0) .nil)) .nil)) (.done [] (some (.op (.bin .lss) (.cons (.inp 6) (.cons (.op .lenL (.cons (.inp 0) .nil)) .nil))))))) .skip (.exit 0)) h3_65)
@[simp] theorem h3_66_wp {P : Program} {F : PF P} {Q : EX → List Value → World → Prop} {env : List Value} {w : World} : h3_66.wp F Q env w = HC.wp F (.seq (.br (.chk none .lenL (.cons (.inp 0) .nil) (.chk none (.bin .lss) (.cons (.inp 6) (.cons (.op .lenL (.cons (.inp 0) .nil)) .nil)) (.done [] (some (.op (.bin .lss) (.cons (.inp 6) (.cons (.op .lenL (.cons (.inp 0) .nil)) .nil))))))) .skip (.exit 0)) h3_65) Q env w := rfl
def h3_67 : HC := (.loop h3_66)
@[simp] theorem h3_67_wp {P : Program} {F : PF P} {Q : EX → List Value → World → Prop} {env : List Value} {w : World} : h3_67.wp F Q env w = HC.wp F (.loop h3_66) Q env w := rfl
def h3_68 : HC := (.seq (.block 0 h3_67) h3_40)
@[simp] theorem h3_68_wp {P : Program} {F : PF P} {Q : EX → List Value → World → Prop} {env : List Value} {w : World} : h3_68.wp F Q env w = HC.wp F (.seq (.block 0 h3_67) h3_40) Q env w := rfl
def h3_69 : HC := (.seq (.reg (.done [(6, (.cst (.int .i64 0)))] none)) h3_68)
@[simp] theorem h3_69_wp {P : Program} {F : PF P} {Q : EX → List Value → World → Prop} {env : List Value} {w : World} : h3_69.wp F Q env w = HC.wp F (.seq (.reg (.done [(6, (.cst (.int .i64 0)))] none)) h3_68) Q env w := rfl
def h3_70 : HC := (.seq (.reg (.eff (.bsl 9 1 1 #[(.string ⟨#[]⟩)] [0]) (.cons (.cst (.string ⟨#[98, 97, 110, 107]⟩)) .nil) (.done [(5, (.bv 0))] none))) h3_69)
@[simp] theorem h3_70_wp {P : Program} {F : PF P} {Q : EX → List Value → World → Prop} {env : List Value} {w : World} : h3_70.wp F Q env w = HC.wp F (.seq (.reg (.eff (.bsl 9 1 1 #[(.string ⟨#[]⟩)] [0]) (.cons (.cst (.string ⟨#[98, 97, 110, 107]⟩)) .nil) (.done [(5, (.bv 0))] none))) h3_69) Q env w := rfl
def h3_71 : HC := (.seq (.reg (.done [(2, (.cst (.bool false)))] none)) .ret)
@[simp] theorem h3_71_wp {P : Program} {F : PF P} {Q : EX → List Value → World → Prop} {env : List Value} {w : World} : h3_71.wp F Q env w = HC.wp F (.seq (.reg (.done [(2, (.cst (.bool false)))] none)) .ret) Q env w := rfl
def h3_72 : HC := (.seq (.br (.chk none (.cal 10) (.cons (.inp 4) .nil) (.chk none (.bin .neq) (.cons (.op (.cal 10) (.cons (.inp 4) .nil)) (.cons (.cst (.int .i64 0)) .nil)) (.bnd (.op (.bin .neq) (.cons (.op (.cal 10) (.cons (.inp 4) .nil)) (.cons (.cst (.int .i64 0)) .nil))) (.chk (some ((.bv 0), false)) (.eqNil false (.pointer 81) (.pointer none)) (.cons (.inp 3) .nil) (.isb none (.bv 0) (.done [] (some (.ite (.bv 0) true (.cst (.bool true)) (.op (.eqNil false (.pointer 81) (.pointer none)) (.cons (.inp 3) .nil)))))))))) h3_71 .skip) h3_70)
@[simp] theorem h3_72_wp {P : Program} {F : PF P} {Q : EX → List Value → World → Prop} {env : List Value} {w : World} : h3_72.wp F Q env w = HC.wp F (.seq (.br (.chk none (.cal 10) (.cons (.inp 4) .nil) (.chk none (.bin .neq) (.cons (.op (.cal 10) (.cons (.inp 4) .nil)) (.cons (.cst (.int .i64 0)) .nil)) (.bnd (.op (.bin .neq) (.cons (.op (.cal 10) (.cons (.inp 4) .nil)) (.cons (.cst (.int .i64 0)) .nil))) (.chk (some ((.bv 0), false)) (.eqNil false (.pointer 81) (.pointer none)) (.cons (.inp 3) .nil) (.isb none (.bv 0) (.done [] (some (.ite (.bv 0) true (.cst (.bool true)) (.op (.eqNil false (.pointer 81) (.pointer none)) (.cons (.inp 3) .nil)))))))))) h3_71 .skip) h3_70) Q env w := rfl
def h3_73 : HC := (.seq (.reg (.eff (.call 9) (.cons (.cst (.int .i64 64)) .nil) (.chk none (.ext 0) (.cons (.bv 0) .nil) (.chk none (.ext 1) (.cons (.bv 0) .nil) (.done [(3, (.op (.ext 0) (.cons (.bv 0) .nil))), (4, (.op (.ext 1) (.cons (.bv 0) .nil)))] none))))) h3_72)
@[simp] theorem h3_73_wp {P : Program} {F : PF P} {Q : EX → List Value → World → Prop} {env : List Value} {w : World} : h3_73.wp F Q env w = HC.wp F (.seq (.reg (.eff (.call 9) (.cons (.cst (.int .i64 64)) .nil) (.chk none (.ext 0) (.cons (.bv 0) .nil) (.chk none (.ext 1) (.cons (.bv 0) .nil) (.done [(3, (.op (.ext 0) (.cons (.bv 0) .nil))), (4, (.op (.ext 1) (.cons (.bv 0) .nil)))] none))))) h3_72) Q env w := rfl
def h3_74 : HC := (.seq (.reg (.done [(2, (.cst (.bool false)))] none)) .ret)
@[simp] theorem h3_74_wp {P : Program} {F : PF P} {Q : EX → List Value → World → Prop} {env : List Value} {w : World} : h3_74.wp F Q env w = HC.wp F (.seq (.reg (.done [(2, (.cst (.bool false)))] none)) .ret) Q env w := rfl
def h3_75 : HC := (.seq (.br (.eff (.call 8) .nil (.chk none (.un .not) (.cons (.bv 0) .nil) (.done [] (some (.op (.un .not) (.cons (.bv 0) .nil)))))) h3_74 .skip) h3_73)
@[simp] theorem h3_75_wp {P : Program} {F : PF P} {Q : EX → List Value → World → Prop} {env : List Value} {w : World} : h3_75.wp F Q env w = HC.wp F (.seq (.br (.eff (.call 8) .nil (.chk none (.un .not) (.cons (.bv 0) .nil) (.done [] (some (.op (.un .not) (.cons (.bv 0) .nil)))))) h3_74 .skip) h3_73) Q env w := rfl
def l3 : Lifted := ⟨[0, 1, 4, 5, 6, 7, 8, 9, 10, 11, 12, 13, 14, 15, 16, 17, 18, 19, 20, 21, 22, 23, 24, 25, 26], 279, [.slot 2], (.seq (.reg (.done [(2, (.cst (.bool false)))] none)) h3_75)⟩
/-- accounts that were opened -/
structure Gd (rows : List Ac) : Prop where
  len : 1 ≤ rows.length ∧ rows.length ≤ 64
  names : ∀ i, (h : i < rows.length) → rows[i].name.length ≤ 1048576
  keys : (keys rows).Nodup
end Go.HL.Pu

namespace Go.HL.Pu
open Go.HL Go.HL.Nm Go.Proofs
set_option maxRecDepth 4000
set_option linter.unusedSimpArgs false
set_option linter.unusedVariables false
def mineK (l : List Int) (i : Int) : Bool := l.any fun n => decide (n = i)
def clsT (S : World → Prop) : List Value → World → Prop
  | [], w => S w
  | r :: _, w => r = .bool true ∧ S w
@[simp] theorem clsT_nil (S : World → Prop) (w : World) : clsT S [] w = S w := rfl
@[simp] theorem clsT_cons (S : World → Prop) (v : Value) (l : List Value) (w : World) : clsT S (v :: l) w = (v = .bool true ∧ S w) := rfl
theorem clsT_low {S : World → Prop} {vs : List Value} {w : World} (h : clsT S vs w) : S w := by
  cases vs with
  | nil => exact h
  | cons _ _ => exact h.2
end Go.HL.Pu

namespace Go.HL.Pu
open Go.HL Go.HL.Nm Go.Proofs
set_option maxRecDepth 4000
set_option linter.unusedSimpArgs false
set_option linter.unusedVariables false
theorem loadL_ok : ∀ (l : List Ac) (P : Ps), (loadL P l).1 = 0 → (∀ x ∈ l, 0 ≤ x.coins) → (loadL P l).2 = { P with held := P.held - total l, rows := P.rows ++ l } ∧ total l ≤ P.held ∨ l = []
  | [], _, _, _ => .inr rfl
  | a :: l, P, h, hc => by
    left
    have ha := hc a (List.mem_cons_self ..)
    simp only [loadL] at h ⊢
    by_cases hs : stepE P a = 0
    · rw [if_pos hs] at h ⊢
      have hle : a.coins ≤ P.held := by
        unfold stepE at hs
        split at hs
        · split at hs
          · cases hs
          · omega
        · rename_i h1; exact absurd hs h1
      have e : total (a :: l) = a.coins + total l := by simp [total]
      rcases loadL_ok l (stepP P a) h (fun x hx => hc x (List.mem_cons_of_mem _ hx)) with ⟨h1, h2⟩ | h1
      · refine ⟨?_, ?_⟩
        · rw [h1, e]
          simp only [stepP, List.append_assoc, List.singleton_append]
          congr 1
          omega
        · rw [e]
          have : (stepP P a).held = P.held - a.coins := rfl
          omega
      · subst h1
        refine ⟨?_, ?_⟩
        · rw [e]
          simp [loadL, stepP, total_nil]
        · rw [e, total_nil]; omega
    · rw [if_neg hs] at h
      exact absurd h hs
theorem load_PI {lim : Int} {rows : List Ac} {sup : Int} (h : (loadF lim rows sup).1 = 0) (hsup : 0 ≤ sup) (hc : ∀ x ∈ rows, 0 ≤ x.coins) (hn : ∀ i, (h : i < rows.length) → rows[i].name.length ≤ 1048576) :
    (loadF lim rows sup).2 = ⟨lim, rows, sup, sup - total rows⟩ ∧ PI lim (loadF lim rows sup).2 := by
  unfold loadF at h ⊢
  split at h
  · rename_i h1
    rw [if_pos h1]
    split at h
    · cases h
    · rename_i h2
      rw [if_neg h2]
      split at h
      · cases h
      · rename_i h3
        rw [if_neg h3]
        split at h
        · rename_i h4
          rw [if_pos h4]
          have hne : rows ≠ [] := by
            rintro rfl
            revert h4
            decide
          rcases loadL_ok rows _ h hc with ⟨e1, e2⟩ | e
          · rw [e1]
            refine ⟨rfl, ⟨rfl, h1, ?_, hc, ?_, ?_, by show sup ≤ _; omega, hn⟩⟩
            · have := List.length_pos_iff.2 hne
              have hl3 : (rows.length : Int) ≤ lim := by omega
              exact ⟨by show 1 ≤ ([] ++ rows).length; rw [List.nil_append]; exact this, by show ((([] ++ rows : List Ac).length : Nat) : Int) ≤ lim; rw [List.nil_append]; exact hl3⟩
            · show 0 ≤ sup - total rows
              have : (⟨lim, [], sup, sup⟩ : Ps).held = sup := rfl
              omega
            · show sup - total rows + total ([] ++ rows) = sup
              rw [List.nil_append]; omega
          · exact absurd e hne
        · cases h
  · cases h
-- bazaar/bazaarlaw14.PurseAll
def sps (l : List Sp) : List Value := l.flatMap Sp.cs
theorem sps_at {l : List Sp} {i : Nat} (h : i < l.length) : ∀ j u, (l[i].cs)[j]? = some u → (sps l)[i * 6 + j]? = some u := by
  intro j u hu
  have hj : j < 6 := (List.getElem?_eq_some_iff.1 hu).1
  rw [← hu]
  exact flat_get Sp.cs 6 (fun _ => rfl) l i j h hj
end Go.HL.Pu
