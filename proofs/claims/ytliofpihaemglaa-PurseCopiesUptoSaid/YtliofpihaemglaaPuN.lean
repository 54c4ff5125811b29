/-
  Purse: the law PurseAll: the walk. Conditions: texts within bounds.
-/
import Derived.Test.YtliofpihaemglaaPuM
import Derived.Test.YtliofpihaemglaaPuJ
namespace Go.HL.Pu
open Go.HL Go.HL.Nm Go.Proofs
set_option maxRecDepth 4000
set_option linter.unusedSimpArgs false
set_option linter.unusedVariables false
theorem loadL_ok : ∀ (l : List Ac) (P : Ps), (loadL P l).1 = 0 → (∀ x ∈ l, 0 ≤ x.coins) → (loadL P l).2 = { P with held := P.held - total l, rows := P.rows ++ l } ∧ total l ≤ P.held ∨ l = []
  | [], _, _, _ => .inr rfl
  | a :: l, P, h, hc => by
    left
    have ha := hc a (List.mem_cons_self ..)
    simp only [loadL] at h ⊢
    by_cases hs : stepE P a = 0
    · rw [if_pos hs] at h ⊢
      have hle : a.coins ≤ P.held := by
        unfold stepE at hs
        split at hs
        · split at hs
          · cases hs
          · omega
        · rename_i h1; exact absurd hs h1
      have e : total (a :: l) = a.coins + total l := by simp [total]
      rcases loadL_ok l (stepP P a) h (fun x hx => hc x (List.mem_cons_of_mem _ hx)) with ⟨h1, h2⟩ | h1
      · refine ⟨?_, ?_⟩
        · rw [h1, e]
          simp only [stepP, List.append_assoc, List.singleton_append]
          congr 1
          omega
        · rw [e]
          have : (stepP P a).held = P.held - a.coins := rfl
          omega
      · subst h1
        refine ⟨?_, ?_⟩
        · rw [e]
          simp [loadL, stepP, total_nil]
        · rw [e, total_nil]; omega
    · rw [if_neg hs] at h
      exact absurd h hs
theorem load_PI {lim : Int} {rows : List Ac} {sup : Int} (h : (loadF lim rows sup).1 = 0) (hsup : 0 ≤ sup) (hc : ∀ x ∈ rows, 0 ≤ x.coins) (hn : ∀ i, (h : i < rows.length) → rows[i].name.length ≤ 1048576) :
    (loadF lim rows sup).2 = ⟨lim, rows, sup, sup - total rows⟩ ∧ PI lim (loadF lim rows sup).2 := by
  unfold loadF at h ⊢
  split at h
  · rename_i h1
    rw [if_pos h1]
    split at h
    · cases h
    · rename_i h2
      rw [if_neg h2]
      split at h
      · cases h
      · rename_i h3
        rw [if_neg h3]
        split at h
        · rename_i h4
          rw [if_pos h4]
          have hne : rows ≠ [] := by
            rintro rfl
            revert h4
            decide
          rcases loadL_ok rows _ h hc with ⟨e1, e2⟩ | e
          · rw [e1]
            refine ⟨rfl, ⟨rfl, h1, ?_, hc, ?_, ?_, by show sup ≤ _; omega, hn⟩⟩
            · have := List.length_pos_iff.2 hne
              have hl3 : (rows.length : Int) ≤ lim := by omega
              exact ⟨by show 1 ≤ ([] ++ rows).length; rw [List.nil_append]; exact this, by show ((([] ++ rows : List Ac).length : Nat) : Int) ≤ lim; rw [List.nil_append]; exact hl3⟩
            · show 0 ≤ sup - total rows
              have : (⟨lim, [], sup, sup⟩ : Ps).held = sup := rfl
              omega
            · show sup - total rows + total ([] ++ rows) = sup
              rw [List.nil_append]; omega
          · exact absurd e hne
        · cases h
  · cases h
-- bazaar/bazaarlaw14.PurseAll
def h6_0 : HC := (.seq (.reg (.done [(4, (.cst (.bool true)))] none)) .ret)
@[simp] theorem h6_0_wp {P : Program} {F : PF P} {Q : EX → List Value → World → Prop} {env : List Value} {w : World} : h6_0.wp F Q env w = HC.wp F (.seq (.reg (.done [(4, (.cst (.bool true)))] none)) .ret) Q env w := rfl
def h6_1 : HC := (.reg (.chk none (.bin .add) (.cons (.inp 7) (.cons (.cst (.int .i64 1)) .nil)) (.done [(7, (.op (.bin .add) (.cons (.inp 7) (.cons (.cst (.int .i64 1)) .nil))))] none)))
@[simp] theorem h6_1_wp {P : Program} {F : PF P} {Q : EX → List Value → World → Prop} {env : List Value} {w : World} : h6_1.wp F Q env w = HC.wp F (.reg (.chk none (.bin .add) (.cons (.inp 7) (.cons (.cst (.int .i64 1)) .nil)) (.done [(7, (.op (.bin .add) (.cons (.inp 7) (.cons (.cst (.int .i64 1)) .nil))))] none))) Q env w := rfl
def h6_2 : HC := (.seq (.reg (.done [(4, (.cst (.bool false)))] none)) .ret)
@[simp] theorem h6_2_wp {P : Program} {F : PF P} {Q : EX → List Value → World → Prop} {env : List Value} {w : World} : h6_2.wp F Q env w = HC.wp F (.seq (.reg (.done [(4, (.cst (.bool false)))] none)) .ret) Q env w := rfl
def h6_3 : HC := (.brq (some 0) (.chk none (.bin .eql) (.cons (.inp 14) (.cons (.cst (.int .i64 1)) .nil)) (.bnd (.op (.bin .eql) (.cons (.inp 14) (.cons (.cst (.int .i64 1)) .nil))) (.chk (some ((.bv 0), true)) .lenL (.cons (.inp 9) .nil) (.chk (some ((.bv 0), true)) (.idxL 2) (.cons (.inp 13) (.cons (.op .lenL (.cons (.inp 9) .nil)) .nil)) (.ite (.bv 0) true (.eff (.ld true 2) (.cons (.ite (.bv 0) true (.op (.idxL 2) (.cons (.inp 13) (.cons (.op .lenL (.cons (.inp 9) .nil)) .nil))) (.cst (.tuple #[]))) .nil) (.chk none (.idxL 6) (.cons (.inp 3) (.cons (.inp 7) .nil)) (.chk none (.fld 5) (.cons (.op (.idxL 6) (.cons (.inp 3) (.cons (.inp 7) .nil))) .nil) (.eff (.ld false 1) (.cons (.op (.fld 5) (.cons (.op (.idxL 6) (.cons (.inp 3) (.cons (.inp 7) .nil))) .nil)) .nil) (.chk none (.build #[(.string ⟨#[]⟩), (.int .u64 0)] [(0, 1), (1, 1)] [0]) (.cons (.bv 2) .nil) (.eff (.bin .neq 66 (.tmp 193) (.tmp 199)) (.cons (.bv 1) (.cons (.op (.build #[(.string ⟨#[]⟩), (.int .u64 0)] [(0, 1), (1, 1)] [0]) (.cons (.bv 2) .nil)) .nil)) (.isb none (.bv 0) (.done [] (some (.bv 3)))))))))) (.isb none (.bv 0) (.done [] (some (.cst (.bool false)))))))))) h6_2 .skip)
@[simp] theorem h6_3_wp {P : Program} {F : PF P} {Q : EX → List Value → World → Prop} {env : List Value} {w : World} : h6_3.wp F Q env w = HC.wp F (.brq (some 0) (.chk none (.bin .eql) (.cons (.inp 14) (.cons (.cst (.int .i64 1)) .nil)) (.bnd (.op (.bin .eql) (.cons (.inp 14) (.cons (.cst (.int .i64 1)) .nil))) (.chk (some ((.bv 0), true)) .lenL (.cons (.inp 9) .nil) (.chk (some ((.bv 0), true)) (.idxL 2) (.cons (.inp 13) (.cons (.op .lenL (.cons (.inp 9) .nil)) .nil)) (.ite (.bv 0) true (.eff (.ld true 2) (.cons (.ite (.bv 0) true (.op (.idxL 2) (.cons (.inp 13) (.cons (.op .lenL (.cons (.inp 9) .nil)) .nil))) (.cst (.tuple #[]))) .nil) (.chk none (.idxL 6) (.cons (.inp 3) (.cons (.inp 7) .nil)) (.chk none (.fld 5) (.cons (.op (.idxL 6) (.cons (.inp 3) (.cons (.inp 7) .nil))) .nil) (.eff (.ld false 1) (.cons (.op (.fld 5) (.cons (.op (.idxL 6) (.cons (.inp 3) (.cons (.inp 7) .nil))) .nil)) .nil) (.chk none (.build #[(.string ⟨#[]⟩), (.int .u64 0)] [(0, 1), (1, 1)] [0]) (.cons (.bv 2) .nil) (.eff (.bin .neq 66 (.tmp 193) (.tmp 199)) (.cons (.bv 1) (.cons (.op (.build #[(.string ⟨#[]⟩), (.int .u64 0)] [(0, 1), (1, 1)] [0]) (.cons (.bv 2) .nil)) .nil)) (.isb none (.bv 0) (.done [] (some (.bv 3)))))))))) (.isb none (.bv 0) (.done [] (some (.cst (.bool false)))))))))) h6_2 .skip) Q env w := rfl
def h6_4 : HC := (.reg (.chk none (.bin .add) (.cons (.inp 17) (.cons (.cst (.int .i64 1)) .nil)) (.done [(17, (.op (.bin .add) (.cons (.inp 17) (.cons (.cst (.int .i64 1)) .nil))))] none)))
@[simp] theorem h6_4_wp {P : Program} {F : PF P} {Q : EX → List Value → World → Prop} {env : List Value} {w : World} : h6_4.wp F Q env w = HC.wp F (.reg (.chk none (.bin .add) (.cons (.inp 17) (.cons (.cst (.int .i64 1)) .nil)) (.done [(17, (.op (.bin .add) (.cons (.inp 17) (.cons (.cst (.int .i64 1)) .nil))))] none))) Q env w := rfl
def h6_5 : HC := (.seq (.reg (.done [(4, (.cst (.bool false)))] none)) .ret)
@[simp] theorem h6_5_wp {P : Program} {F : PF P} {Q : EX → List Value → World → Prop} {env : List Value} {w : World} : h6_5.wp F Q env w = HC.wp F (.seq (.reg (.done [(4, (.cst (.bool false)))] none)) .ret) Q env w := rfl
def h6_6 : HC := (.brq (some 0) (.chk none (.idxL 2) (.cons (.inp 13) (.cons (.inp 17) .nil)) (.chk none (.fld 1) (.cons (.op (.idxL 2) (.cons (.inp 13) (.cons (.inp 17) .nil))) .nil) (.eff (.ld false 1) (.cons (.op (.fld 1) (.cons (.op (.idxL 2) (.cons (.inp 13) (.cons (.inp 17) .nil))) .nil)) .nil) (.chk none (.idxL 2) (.cons (.inp 9) (.cons (.inp 17) .nil)) (.chk none (.fld 1) (.cons (.op (.idxL 2) (.cons (.inp 9) (.cons (.inp 17) .nil))) .nil) (.eff (.ld false 1) (.cons (.op (.fld 1) (.cons (.op (.idxL 2) (.cons (.inp 9) (.cons (.inp 17) .nil))) .nil)) .nil) (.chk none (.bin .add) (.cons (.bv 1) (.cons (.inp 18) .nil)) (.chk none (.bin .neq) (.cons (.bv 0) (.cons (.op (.bin .add) (.cons (.bv 1) (.cons (.inp 18) .nil))) .nil)) (.bnd (.op (.bin .neq) (.cons (.bv 0) (.cons (.op (.bin .add) (.cons (.bv 1) (.cons (.inp 18) .nil))) .nil))) (.chk (some ((.bv 2), false)) (.idxL 2) (.cons (.inp 13) (.cons (.inp 17) .nil)) (.chk (some ((.bv 2), false)) (.fld 0) (.cons (.op (.idxL 2) (.cons (.inp 13) (.cons (.inp 17) .nil))) .nil) (.ite (.bv 2) false (.eff (.ld false 1) (.cons (.ite (.bv 2) false (.op (.fld 0) (.cons (.op (.idxL 2) (.cons (.inp 13) (.cons (.inp 17) .nil))) .nil)) (.cst (.tuple #[]))) .nil) (.chk none (.idxL 2) (.cons (.inp 9) (.cons (.inp 17) .nil)) (.chk none (.fld 0) (.cons (.op (.idxL 2) (.cons (.inp 9) (.cons (.inp 17) .nil))) .nil) (.eff (.ld false 1) (.cons (.op (.fld 0) (.cons (.op (.idxL 2) (.cons (.inp 9) (.cons (.inp 17) .nil))) .nil)) .nil) (.chk none (.bin .neq) (.cons (.bv 3) (.cons (.bv 4) .nil)) (.isb none (.bv 2) (.bnd (.op (.bin .neq) (.cons (.bv 3) (.cons (.bv 4) .nil))) (.chk (some ((.bv 5), false)) (.idxL 2) (.cons (.inp 13) (.cons (.inp 17) .nil)) (.chk (some ((.bv 5), false)) (.fld 1) (.cons (.op (.idxL 2) (.cons (.inp 13) (.cons (.inp 17) .nil))) .nil) (.ite (.bv 5) false (.eff (.ld false 1) (.cons (.ite (.bv 5) false (.op (.fld 1) (.cons (.op (.idxL 2) (.cons (.inp 13) (.cons (.inp 17) .nil))) .nil)) (.cst (.tuple #[]))) .nil) (.chk none (.bin .gtr) (.cons (.bv 6) (.cons (.cst (.int .u64 4611686018427387904)) .nil)) (.isb none (.bv 5) (.done [] (some (.op (.bin .gtr) (.cons (.bv 6) (.cons (.cst (.int .u64 4611686018427387904)) .nil)))))))) (.isb none (.bv 5) (.done [] (some (.cst (.bool true))))))))))))))) (.isb none (.bv 2) (.isb none (.cst (.bool true)) (.done [] (some (.cst (.bool true)))))))))))))))))) h6_5 .skip)
@[simp] theorem h6_6_wp {P : Program} {F : PF P} {Q : EX → List Value → World → Prop} {env : List Value} {w : World} : h6_6.wp F Q env w = HC.wp F (.brq (some 0) (.chk none (.idxL 2) (.cons (.inp 13) (.cons (.inp 17) .nil)) (.chk none (.fld 1) (.cons (.op (.idxL 2) (.cons (.inp 13) (.cons (.inp 17) .nil))) .nil) (.eff (.ld false 1) (.cons (.op (.fld 1) (.cons (.op (.idxL 2) (.cons (.inp 13) (.cons (.inp 17) .nil))) .nil)) .nil) (.chk none (.idxL 2) (.cons (.inp 9) (.cons (.inp 17) .nil)) (.chk none (.fld 1) (.cons (.op (.idxL 2) (.cons (.inp 9) (.cons (.inp 17) .nil))) .nil) (.eff (.ld false 1) (.cons (.op (.fld 1) (.cons (.op (.idxL 2) (.cons (.inp 9) (.cons (.inp 17) .nil))) .nil)) .nil) (.chk none (.bin .add) (.cons (.bv 1) (.cons (.inp 18) .nil)) (.chk none (.bin .neq) (.cons (.bv 0) (.cons (.op (.bin .add) (.cons (.bv 1) (.cons (.inp 18) .nil))) .nil)) (.bnd (.op (.bin .neq) (.cons (.bv 0) (.cons (.op (.bin .add) (.cons (.bv 1) (.cons (.inp 18) .nil))) .nil))) (.chk (some ((.bv 2), false)) (.idxL 2) (.cons (.inp 13) (.cons (.inp 17) .nil)) (.chk (some ((.bv 2), false)) (.fld 0) (.cons (.op (.idxL 2) (.cons (.inp 13) (.cons (.inp 17) .nil))) .nil) (.ite (.bv 2) false (.eff (.ld false 1) (.cons (.ite (.bv 2) false (.op (.fld 0) (.cons (.op (.idxL 2) (.cons (.inp 13) (.cons (.inp 17) .nil))) .nil)) (.cst (.tuple #[]))) .nil) (.chk none (.idxL 2) (.cons (.inp 9) (.cons (.inp 17) .nil)) (.chk none (.fld 0) (.cons (.op (.idxL 2) (.cons (.inp 9) (.cons (.inp 17) .nil))) .nil) (.eff (.ld false 1) (.cons (.op (.fld 0) (.cons (.op (.idxL 2) (.cons (.inp 9) (.cons (.inp 17) .nil))) .nil)) .nil) (.chk none (.bin .neq) (.cons (.bv 3) (.cons (.bv 4) .nil)) (.isb none (.bv 2) (.bnd (.op (.bin .neq) (.cons (.bv 3) (.cons (.bv 4) .nil))) (.chk (some ((.bv 5), false)) (.idxL 2) (.cons (.inp 13) (.cons (.inp 17) .nil)) (.chk (some ((.bv 5), false)) (.fld 1) (.cons (.op (.idxL 2) (.cons (.inp 13) (.cons (.inp 17) .nil))) .nil) (.ite (.bv 5) false (.eff (.ld false 1) (.cons (.ite (.bv 5) false (.op (.fld 1) (.cons (.op (.idxL 2) (.cons (.inp 13) (.cons (.inp 17) .nil))) .nil)) (.cst (.tuple #[]))) .nil) (.chk none (.bin .gtr) (.cons (.bv 6) (.cons (.cst (.int .u64 4611686018427387904)) .nil)) (.isb none (.bv 5) (.done [] (some (.op (.bin .gtr) (.cons (.bv 6) (.cons (.cst (.int .u64 4611686018427387904)) .nil)))))))) (.isb none (.bv 5) (.done [] (some (.cst (.bool true))))))))))))))) (.isb none (.bv 2) (.isb none (.cst (.bool true)) (.done [] (some (.cst (.bool true)))))))))))))))))) h6_5 .skip) Q env w := rfl
def h6_7 : HC := (.seq (.reg (.eff (.ld true 6) (.cons (.inp 8) .nil) (.eff (.call 42) (.cons (.bv 0) (.cons (.inp 17) .nil)) (.chk none (.ext 0) (.cons (.bv 1) .nil) (.chk none (.ext 1) (.cons (.bv 1) .nil) (.chk none (.ext 2) (.cons (.bv 1) .nil) (.done [(18, (.op (.ext 0) (.cons (.bv 1) .nil)))] none))))))) h6_6)
@[simp] theorem h6_7_wp {P : Program} {F : PF P} {Q : EX → List Value → World → Prop} {env : List Value} {w : World} : h6_7.wp F Q env w = HC.wp F (.seq (.reg (.eff (.ld true 6) (.cons (.inp 8) .nil) (.eff (.call 42) (.cons (.bv 0) (.cons (.inp 17) .nil)) (.chk none (.ext 0) (.cons (.bv 1) .nil) (.chk none (.ext 1) (.cons (.bv 1) .nil) (.chk none (.ext 2) (.cons (.bv 1) .nil) (.done [(18, (.op (.ext 0) (.cons (.bv 1) .nil)))] none))))))) h6_6) Q env w := rfl
def h6_8 : HC := (.seq (.block 3 h6_7) h6_4)
@[simp] theorem h6_8_wp {P : Program} {F : PF P} {Q : EX → List Value → World → Prop} {env : List Value} {w : World} : h6_8.wp F Q env w = HC.wp F (.seq (.block 3 h6_7) h6_4) Q env w := rfl
def h6_9 : HC := (.seq (.br (.chk none .lenL (.cons (.inp 9) .nil) (.chk none (.bin .lss) (.cons (.inp 17) (.cons (.op .lenL (.cons (.inp 9) .nil)) .nil)) (.done [] (some (.op (.bin .lss) (.cons (.inp 17) (.cons (.op .lenL (.cons (.inp 9) .nil)) .nil))))))) .skip (.exit 2)) h6_8)
@[simp] theorem h6_9_wp {P : Program} {F : PF P} {Q : EX → List Value → World → Prop} {env : List Value} {w : World} : h6_9.wp F Q env w = HC.wp F (.seq (.br (.chk none .lenL (.cons (.inp 9) .nil) (.chk none (.bin .lss) (.cons (.inp 17) (.cons (.op .lenL (.cons (.inp 9) .nil)) .nil)) (.done [] (some (.op (.bin .lss) (.cons (.inp 17) (.cons (.op .lenL (.cons (.inp 9) .nil)) .nil))))))) .skip (.exit 2)) h6_8) Q env w := rfl
def h6_10 : HC := (.loop h6_9)
@[simp] theorem h6_10_wp {P : Program} {F : PF P} {Q : EX → List Value → World → Prop} {env : List Value} {w : World} : h6_10.wp F Q env w = HC.wp F (.loop h6_9) Q env w := rfl
def h6_11 : HC := (.seq (.block 2 h6_10) h6_3)
@[simp] theorem h6_11_wp {P : Program} {F : PF P} {Q : EX → List Value → World → Prop} {env : List Value} {w : World} : h6_11.wp F Q env w = HC.wp F (.seq (.block 2 h6_10) h6_3) Q env w := rfl
def h6_12 : HC := (.seq (.reg (.done [(17, (.cst (.int .i64 0)))] none)) h6_11)
@[simp] theorem h6_12_wp {P : Program} {F : PF P} {Q : EX → List Value → World → Prop} {env : List Value} {w : World} : h6_12.wp F Q env w = HC.wp F (.seq (.reg (.done [(17, (.cst (.int .i64 0)))] none)) h6_11) Q env w := rfl
def h6_13 : HC := (.seq (.reg (.done [(4, (.cst (.bool false)))] none)) .ret)
@[simp] theorem h6_13_wp {P : Program} {F : PF P} {Q : EX → List Value → World → Prop} {env : List Value} {w : World} : h6_13.wp F Q env w = HC.wp F (.seq (.reg (.done [(4, (.cst (.bool false)))] none)) .ret) Q env w := rfl
def h6_14 : HC := (.seq (.br (.eff (.call 37) (.cons (.inp 5) .nil) (.chk none (.bin .add) (.cons (.inp 10) (.cons (.inp 15) .nil)) (.chk none (.bin .neq) (.cons (.bv 0) (.cons (.op (.bin .add) (.cons (.inp 10) (.cons (.inp 15) .nil))) .nil)) (.bnd (.op (.bin .neq) (.cons (.bv 0) (.cons (.op (.bin .add) (.cons (.inp 10) (.cons (.inp 15) .nil))) .nil))) (.ite (.bv 1) false (.eff (.call 30) (.cons (.ite (.bv 1) false (.inp 5) (.cst (.tuple #[]))) .nil) (.chk none (.bin .add) (.cons (.inp 11) (.cons (.inp 16) .nil)) (.chk none (.bin .neq) (.cons (.bv 2) (.cons (.op (.bin .add) (.cons (.inp 11) (.cons (.inp 16) .nil))) .nil)) (.isb none (.bv 1) (.done [] (some (.op (.bin .neq) (.cons (.bv 2) (.cons (.op (.bin .add) (.cons (.inp 11) (.cons (.inp 16) .nil))) .nil))))))))) (.isb none (.bv 1) (.done [] (some (.cst (.bool true)))))))))) h6_13 .skip) h6_12)
@[simp] theorem h6_14_wp {P : Program} {F : PF P} {Q : EX → List Value → World → Prop} {env : List Value} {w : World} : h6_14.wp F Q env w = HC.wp F (.seq (.br (.eff (.call 37) (.cons (.inp 5) .nil) (.chk none (.bin .add) (.cons (.inp 10) (.cons (.inp 15) .nil)) (.chk none (.bin .neq) (.cons (.bv 0) (.cons (.op (.bin .add) (.cons (.inp 10) (.cons (.inp 15) .nil))) .nil)) (.bnd (.op (.bin .neq) (.cons (.bv 0) (.cons (.op (.bin .add) (.cons (.inp 10) (.cons (.inp 15) .nil))) .nil))) (.ite (.bv 1) false (.eff (.call 30) (.cons (.ite (.bv 1) false (.inp 5) (.cst (.tuple #[]))) .nil) (.chk none (.bin .add) (.cons (.inp 11) (.cons (.inp 16) .nil)) (.chk none (.bin .neq) (.cons (.bv 2) (.cons (.op (.bin .add) (.cons (.inp 11) (.cons (.inp 16) .nil))) .nil)) (.isb none (.bv 1) (.done [] (some (.op (.bin .neq) (.cons (.bv 2) (.cons (.op (.bin .add) (.cons (.inp 11) (.cons (.inp 16) .nil))) .nil))))))))) (.isb none (.bv 1) (.done [] (some (.cst (.bool true)))))))))) h6_13 .skip) h6_12) Q env w := rfl
def h6_15 : HC := (.seq (.reg (.eff (.ld true 6) (.cons (.inp 8) .nil) (.eff (.call 42) (.cons (.bv 0) (.cons (.cst (.int .i64 (-1))) .nil)) (.chk none (.ext 0) (.cons (.bv 1) .nil) (.chk none (.ext 1) (.cons (.bv 1) .nil) (.chk none (.ext 2) (.cons (.bv 1) .nil) (.done [(15, (.op (.ext 1) (.cons (.bv 1) .nil))), (16, (.op (.ext 2) (.cons (.bv 1) .nil)))] none))))))) h6_14)
@[simp] theorem h6_15_wp {P : Program} {F : PF P} {Q : EX → List Value → World → Prop} {env : List Value} {w : World} : h6_15.wp F Q env w = HC.wp F (.seq (.reg (.eff (.ld true 6) (.cons (.inp 8) .nil) (.eff (.call 42) (.cons (.bv 0) (.cons (.cst (.int .i64 (-1))) .nil)) (.chk none (.ext 0) (.cons (.bv 1) .nil) (.chk none (.ext 1) (.cons (.bv 1) .nil) (.chk none (.ext 2) (.cons (.bv 1) .nil) (.done [(15, (.op (.ext 1) (.cons (.bv 1) .nil))), (16, (.op (.ext 2) (.cons (.bv 1) .nil)))] none))))))) h6_14) Q env w := rfl
def h6_16 : HC := (.reg (.chk none (.build #[(.int .i64 0), (.int .i64 0), (.int .i64 0), (.int .i64 0), (.int .u64 0), (.string ⟨#[]⟩)] [(0, 1), (1, 1), (2, 1), (3, 1), (4, 1), (5, 1)] []) .nil (.eff (.st 6) (.cons (.inp 8) (.cons (.op (.build #[(.int .i64 0), (.int .i64 0), (.int .i64 0), (.int .i64 0), (.int .u64 0), (.string ⟨#[]⟩)] [(0, 1), (1, 1), (2, 1), (3, 1), (4, 1), (5, 1)] []) .nil) .nil)) (.done [] none))))
@[simp] theorem h6_16_wp {P : Program} {F : PF P} {Q : EX → List Value → World → Prop} {env : List Value} {w : World} : h6_16.wp F Q env w = HC.wp F (.reg (.chk none (.build #[(.int .i64 0), (.int .i64 0), (.int .i64 0), (.int .i64 0), (.int .u64 0), (.string ⟨#[]⟩)] [(0, 1), (1, 1), (2, 1), (3, 1), (4, 1), (5, 1)] []) .nil (.eff (.st 6) (.cons (.inp 8) (.cons (.op (.build #[(.int .i64 0), (.int .i64 0), (.int .i64 0), (.int .i64 0), (.int .u64 0), (.string ⟨#[]⟩)] [(0, 1), (1, 1), (2, 1), (3, 1), (4, 1), (5, 1)] []) .nil) .nil)) (.done [] none)))) Q env w := rfl
def h6_17 : HC := (.seq (.br (.chk none (.bin .neq) (.cons (.inp 12) (.cons (.cst (.int .i64 0)) .nil)) (.bnd (.op (.bin .neq) (.cons (.inp 12) (.cons (.cst (.int .i64 0)) .nil))) (.chk (some ((.bv 0), false)) (.fld 1) (.cons (.inp 8) .nil) (.ite (.bv 0) false (.eff (.ld false 1) (.cons (.ite (.bv 0) false (.op (.fld 1) (.cons (.inp 8) .nil)) (.cst (.tuple #[]))) .nil) (.chk none (.bin .eql) (.cons (.bv 1) (.cons (.cst (.int .i64 1)) .nil)) (.isb none (.bv 0) (.done [] (some (.op (.bin .eql) (.cons (.bv 1) (.cons (.cst (.int .i64 1)) .nil)))))))) (.isb none (.bv 0) (.done [] (some (.cst (.bool true))))))))) h6_16 .skip) h6_15)
@[simp] theorem h6_17_wp {P : Program} {F : PF P} {Q : EX → List Value → World → Prop} {env : List Value} {w : World} : h6_17.wp F Q env w = HC.wp F (.seq (.br (.chk none (.bin .neq) (.cons (.inp 12) (.cons (.cst (.int .i64 0)) .nil)) (.bnd (.op (.bin .neq) (.cons (.inp 12) (.cons (.cst (.int .i64 0)) .nil))) (.chk (some ((.bv 0), false)) (.fld 1) (.cons (.inp 8) .nil) (.ite (.bv 0) false (.eff (.ld false 1) (.cons (.ite (.bv 0) false (.op (.fld 1) (.cons (.inp 8) .nil)) (.cst (.tuple #[]))) .nil) (.chk none (.bin .eql) (.cons (.bv 1) (.cons (.cst (.int .i64 1)) .nil)) (.isb none (.bv 0) (.done [] (some (.op (.bin .eql) (.cons (.bv 1) (.cons (.cst (.int .i64 1)) .nil)))))))) (.isb none (.bv 0) (.done [] (some (.cst (.bool true))))))))) h6_16 .skip) h6_15) Q env w := rfl
def h6_18 : HC := (.seq (.reg (.done [(4, (.cst (.bool false)))] none)) .ret)
@[simp] theorem h6_18_wp {P : Program} {F : PF P} {Q : EX → List Value → World → Prop} {env : List Value} {w : World} : h6_18.wp F Q env w = HC.wp F (.seq (.reg (.done [(4, (.cst (.bool false)))] none)) .ret) Q env w := rfl
def h6_19 : HC := (.seq (.br (.chk none .lenL (.cons (.inp 13) .nil) (.chk none .lenL (.cons (.inp 9) .nil) (.chk none (.bin .add) (.cons (.op .lenL (.cons (.inp 9) .nil)) (.cons (.inp 14) .nil)) (.chk none (.bin .neq) (.cons (.op .lenL (.cons (.inp 13) .nil)) (.cons (.op (.bin .add) (.cons (.op .lenL (.cons (.inp 9) .nil)) (.cons (.inp 14) .nil))) .nil)) (.done [] (some (.op (.bin .neq) (.cons (.op .lenL (.cons (.inp 13) .nil)) (.cons (.op (.bin .add) (.cons (.op .lenL (.cons (.inp 9) .nil)) (.cons (.inp 14) .nil))) .nil))))))))) h6_18 .skip) h6_17)
@[simp] theorem h6_19_wp {P : Program} {F : PF P} {Q : EX → List Value → World → Prop} {env : List Value} {w : World} : h6_19.wp F Q env w = HC.wp F (.seq (.br (.chk none .lenL (.cons (.inp 13) .nil) (.chk none .lenL (.cons (.inp 9) .nil) (.chk none (.bin .add) (.cons (.op .lenL (.cons (.inp 9) .nil)) (.cons (.inp 14) .nil)) (.chk none (.bin .neq) (.cons (.op .lenL (.cons (.inp 13) .nil)) (.cons (.op (.bin .add) (.cons (.op .lenL (.cons (.inp 9) .nil)) (.cons (.inp 14) .nil))) .nil)) (.done [] (some (.op (.bin .neq) (.cons (.op .lenL (.cons (.inp 13) .nil)) (.cons (.op (.bin .add) (.cons (.op .lenL (.cons (.inp 9) .nil)) (.cons (.inp 14) .nil))) .nil))))))))) h6_18 .skip) h6_17) Q env w := rfl
def h6_20 : HC := (.reg (.done [(14, (.cst (.int .i64 1)))] none))
@[simp] theorem h6_20_wp {P : Program} {F : PF P} {Q : EX → List Value → World → Prop} {env : List Value} {w : World} : h6_20.wp F Q env w = HC.wp F (.reg (.done [(14, (.cst (.int .i64 1)))] none)) Q env w := rfl
def h6_21 : HC := (.seq (.br (.chk none (.fld 1) (.cons (.inp 8) .nil) (.eff (.ld false 1) (.cons (.op (.fld 1) (.cons (.inp 8) .nil)) .nil) (.chk none (.bin .eql) (.cons (.bv 0) (.cons (.cst (.int .i64 1)) .nil)) (.bnd (.op (.bin .eql) (.cons (.bv 0) (.cons (.cst (.int .i64 1)) .nil))) (.chk (some ((.bv 1), true)) (.bin .eql) (.cons (.inp 12) (.cons (.cst (.int .i64 0)) .nil)) (.isb none (.bv 1) (.done [] (some (.ite (.bv 1) true (.op (.bin .eql) (.cons (.inp 12) (.cons (.cst (.int .i64 0)) .nil))) (.cst (.bool false))))))))))) h6_20 .skip) h6_19)
@[simp] theorem h6_21_wp {P : Program} {F : PF P} {Q : EX → List Value → World → Prop} {env : List Value} {w : World} : h6_21.wp F Q env w = HC.wp F (.seq (.br (.chk none (.fld 1) (.cons (.inp 8) .nil) (.eff (.ld false 1) (.cons (.op (.fld 1) (.cons (.inp 8) .nil)) .nil) (.chk none (.bin .eql) (.cons (.bv 0) (.cons (.cst (.int .i64 1)) .nil)) (.bnd (.op (.bin .eql) (.cons (.bv 0) (.cons (.cst (.int .i64 1)) .nil))) (.chk (some ((.bv 1), true)) (.bin .eql) (.cons (.inp 12) (.cons (.cst (.int .i64 0)) .nil)) (.isb none (.bv 1) (.done [] (some (.ite (.bv 1) true (.op (.bin .eql) (.cons (.inp 12) (.cons (.cst (.int .i64 0)) .nil))) (.cst (.bool false))))))))))) h6_20 .skip) h6_19) Q env w := rfl
def h6_22 : HC := (.seq (.reg (.done [(14, (.cst (.int .i64 0)))] none)) h6_21)
@[simp] theorem h6_22_wp {P : Program} {F : PF P} {Q : EX → List Value → World → Prop} {env : List Value} {w : World} : h6_22.wp F Q env w = HC.wp F (.seq (.reg (.done [(14, (.cst (.int .i64 0)))] none)) h6_21) Q env w := rfl
def h6_23 : HC := (.seq (.reg (.done [(4, (.cst (.bool false)))] none)) .ret)
@[simp] theorem h6_23_wp {P : Program} {F : PF P} {Q : EX → List Value → World → Prop} {env : List Value} {w : World} : h6_23.wp F Q env w = HC.wp F (.seq (.reg (.done [(4, (.cst (.bool false)))] none)) .ret) Q env w := rfl
def h6_24 : HC := (.seq (.br (.eff (.call 41) (.cons (.inp 5) .nil) (.eff (.call 30) (.cons (.inp 5) .nil) (.chk none (.bin .neq) (.cons (.bv 0) (.cons (.bv 1) .nil)) (.bnd (.op (.bin .neq) (.cons (.bv 0) (.cons (.bv 1) .nil))) (.ite (.bv 2) false (.eff (.call 30) (.cons (.ite (.bv 2) false (.inp 5) (.cst (.tuple #[]))) .nil) (.chk none (.bin .gtr) (.cons (.bv 3) (.cons (.cst (.int .u64 4611686018427387904)) .nil)) (.isb none (.bv 2) (.bnd (.op (.bin .gtr) (.cons (.bv 3) (.cons (.cst (.int .u64 4611686018427387904)) .nil))) (.ite (.bv 4) false (.eff (.call 37) (.cons (.ite (.bv 4) false (.inp 5) (.cst (.tuple #[]))) .nil) (.eff (.call 30) (.cons (.inp 5) .nil) (.chk none (.bin .gtr) (.cons (.bv 5) (.cons (.bv 6) .nil)) (.isb none (.bv 4) (.bnd (.op (.bin .gtr) (.cons (.bv 5) (.cons (.bv 6) .nil))) (.chk (some ((.bv 7), false)) .lenL (.cons (.inp 13) .nil) (.chk (some ((.bv 7), false)) (.bin .gtr) (.cons (.op .lenL (.cons (.inp 13) .nil)) (.cons (.inp 0) .nil)) (.isb none (.bv 7) (.bnd (.ite (.bv 7) true (.cst (.bool true)) (.op (.bin .gtr) (.cons (.op .lenL (.cons (.inp 13) .nil)) (.cons (.inp 0) .nil)))) (.ite (.bv 8) false (.eff (.call 18) (.cons (.ite (.bv 8) false (.inp 5) (.cst (.tuple #[]))) .nil) (.chk none .lenL (.cons (.inp 13) .nil) (.chk none (.bin .neq) (.cons (.bv 9) (.cons (.op .lenL (.cons (.inp 13) .nil)) .nil)) (.isb none (.bv 8) (.bnd (.op (.bin .neq) (.cons (.bv 9) (.cons (.op .lenL (.cons (.inp 13) .nil)) .nil))) (.ite (.bv 10) false (.eff (.call 28) (.cons (.ite (.bv 10) false (.inp 5) (.cst (.tuple #[]))) .nil) (.chk none (.bin .neq) (.cons (.bv 11) (.cons (.inp 0) .nil)) (.isb none (.bv 10) (.done [] (some (.op (.bin .neq) (.cons (.bv 11) (.cons (.inp 0) .nil)))))))) (.isb none (.bv 10) (.done [] (some (.cst (.bool true))))))))))) (.isb none (.bv 8) (.isb none (.cst (.bool true)) (.done [] (some (.cst (.bool true)))))))))))))))) (.isb none (.bv 4) (.isb none (.cst (.bool true)) (.isb none (.cst (.bool true)) (.isb none (.cst (.bool true)) (.done [] (some (.cst (.bool true))))))))))))) (.isb none (.bv 2) (.isb none (.cst (.bool true)) (.isb none (.cst (.bool true)) (.isb none (.cst (.bool true)) (.isb none (.cst (.bool true)) (.done [] (some (.cst (.bool true)))))))))))))) h6_23 .skip) h6_22)
@[simp] theorem h6_24_wp {P : Program} {F : PF P} {Q : EX → List Value → World → Prop} {env : List Value} {w : World} : h6_24.wp F Q env w = HC.wp F (.seq (.br (.eff (.call 41) (.cons (.inp 5) .nil) (.eff (.call 30) (.cons (.inp 5) .nil) (.chk none (.bin .neq) (.cons (.bv 0) (.cons (.bv 1) .nil)) (.bnd (.op (.bin .neq) (.cons (.bv 0) (.cons (.bv 1) .nil))) (.ite (.bv 2) false (.eff (.call 30) (.cons (.ite (.bv 2) false (.inp 5) (.cst (.tuple #[]))) .nil) (.chk none (.bin .gtr) (.cons (.bv 3) (.cons (.cst (.int .u64 4611686018427387904)) .nil)) (.isb none (.bv 2) (.bnd (.op (.bin .gtr) (.cons (.bv 3) (.cons (.cst (.int .u64 4611686018427387904)) .nil))) (.ite (.bv 4) false (.eff (.call 37) (.cons (.ite (.bv 4) false (.inp 5) (.cst (.tuple #[]))) .nil) (.eff (.call 30) (.cons (.inp 5) .nil) (.chk none (.bin .gtr) (.cons (.bv 5) (.cons (.bv 6) .nil)) (.isb none (.bv 4) (.bnd (.op (.bin .gtr) (.cons (.bv 5) (.cons (.bv 6) .nil))) (.chk (some ((.bv 7), false)) .lenL (.cons (.inp 13) .nil) (.chk (some ((.bv 7), false)) (.bin .gtr) (.cons (.op .lenL (.cons (.inp 13) .nil)) (.cons (.inp 0) .nil)) (.isb none (.bv 7) (.bnd (.ite (.bv 7) true (.cst (.bool true)) (.op (.bin .gtr) (.cons (.op .lenL (.cons (.inp 13) .nil)) (.cons (.inp 0) .nil)))) (.ite (.bv 8) false (.eff (.call 18) (.cons (.ite (.bv 8) false (.inp 5) (.cst (.tuple #[]))) .nil) (.chk none .lenL (.cons (.inp 13) .nil) (.chk none (.bin .neq) (.cons (.bv 9) (.cons (.op .lenL (.cons (.inp 13) .nil)) .nil)) (.isb none (.bv 8) (.bnd (.op (.bin .neq) (.cons (.bv 9) (.cons (.op .lenL (.cons (.inp 13) .nil)) .nil))) (.ite (.bv 10) false (.eff (.call 28) (.cons (.ite (.bv 10) false (.inp 5) (.cst (.tuple #[]))) .nil) (.chk none (.bin .neq) (.cons (.bv 11) (.cons (.inp 0) .nil)) (.isb none (.bv 10) (.done [] (some (.op (.bin .neq) (.cons (.bv 11) (.cons (.inp 0) .nil)))))))) (.isb none (.bv 10) (.done [] (some (.cst (.bool true))))))))))) (.isb none (.bv 8) (.isb none (.cst (.bool true)) (.done [] (some (.cst (.bool true)))))))))))))))) (.isb none (.bv 4) (.isb none (.cst (.bool true)) (.isb none (.cst (.bool true)) (.isb none (.cst (.bool true)) (.done [] (some (.cst (.bool true))))))))))))) (.isb none (.bv 2) (.isb none (.cst (.bool true)) (.isb none (.cst (.bool true)) (.isb none (.cst (.bool true)) (.isb none (.cst (.bool true)) (.done [] (some (.cst (.bool true)))))))))))))) h6_23 .skip) h6_22) Q env w := rfl
def h6_25 : HC := (.seq (.reg (.eff (.call 29) (.cons (.inp 5) .nil) (.done [(13, (.bv 0))] none))) h6_24)
@[simp] theorem h6_25_wp {P : Program} {F : PF P} {Q : EX → List Value → World → Prop} {env : List Value} {w : World} : h6_25.wp F Q env w = HC.wp F (.seq (.reg (.eff (.call 29) (.cons (.inp 5) .nil) (.done [(13, (.bv 0))] none))) h6_24) Q env w := rfl
def h6_26 : HC := (.seq (.reg (.eff (.ld true 6) (.cons (.inp 8) .nil) (.eff (.call 40) (.cons (.inp 5) (.cons (.bv 0) .nil)) (.done [(12, (.bv 1))] none)))) h6_25)
@[simp] theorem h6_26_wp {P : Program} {F : PF P} {Q : EX → List Value → World → Prop} {env : List Value} {w : World} : h6_26.wp F Q env w = HC.wp F (.seq (.reg (.eff (.ld true 6) (.cons (.inp 8) .nil) (.eff (.call 40) (.cons (.inp 5) (.cons (.bv 0) .nil)) (.done [(12, (.bv 1))] none)))) h6_25) Q env w := rfl
def h6_27 : HC := (.seq (.reg (.eff (.call 30) (.cons (.inp 5) .nil) (.done [(11, (.bv 0))] none))) h6_26)
@[simp] theorem h6_27_wp {P : Program} {F : PF P} {Q : EX → List Value → World → Prop} {env : List Value} {w : World} : h6_27.wp F Q env w = HC.wp F (.seq (.reg (.eff (.call 30) (.cons (.inp 5) .nil) (.done [(11, (.bv 0))] none))) h6_26) Q env w := rfl
def h6_28 : HC := (.seq (.reg (.eff (.call 37) (.cons (.inp 5) .nil) (.done [(10, (.bv 0))] none))) h6_27)
@[simp] theorem h6_28_wp {P : Program} {F : PF P} {Q : EX → List Value → World → Prop} {env : List Value} {w : World} : h6_28.wp F Q env w = HC.wp F (.seq (.reg (.eff (.call 37) (.cons (.inp 5) .nil) (.done [(10, (.bv 0))] none))) h6_27) Q env w := rfl
def h6_29 : HC := (.seq (.reg (.eff (.call 29) (.cons (.inp 5) .nil) (.done [(9, (.bv 0))] none))) h6_28)
@[simp] theorem h6_29_wp {P : Program} {F : PF P} {Q : EX → List Value → World → Prop} {env : List Value} {w : World} : h6_29.wp F Q env w = HC.wp F (.seq (.reg (.eff (.call 29) (.cons (.inp 5) .nil) (.done [(9, (.bv 0))] none))) h6_28) Q env w := rfl
def h6_30 : HC := (.seq (.reg (.chk none (.idxL 6) (.cons (.inp 3) (.cons (.inp 7) .nil)) (.eff (.ld true 6) (.cons (.op (.idxL 6) (.cons (.inp 3) (.cons (.inp 7) .nil))) .nil) (.eff (.new 53 (.agg #[(.int .i64 0), (.int .i64 0), (.int .i64 0), (.int .i64 0), (.int .u64 0), (.string ⟨#[]⟩)])) .nil (.eff (.st 6) (.cons (.bv 1) (.cons (.bv 0) .nil)) (.done [(8, (.bv 1))] none)))))) h6_29)
@[simp] theorem h6_30_wp {P : Program} {F : PF P} {Q : EX → List Value → World → Prop} {env : List Value} {w : World} : h6_30.wp F Q env w = HC.wp F (.seq (.reg (.chk none (.idxL 6) (.cons (.inp 3) (.cons (.inp 7) .nil)) (.eff (.ld true 6) (.cons (.op (.idxL 6) (.cons (.inp 3) (.cons (.inp 7) .nil))) .nil) (.eff (.new 53 (.agg #[(.int .i64 0), (.int .i64 0), (.int .i64 0), (.int .i64 0), (.int .u64 0), (.string ⟨#[]⟩)])) .nil (.eff (.st 6) (.cons (.bv 1) (.cons (.bv 0) .nil)) (.done [(8, (.bv 1))] none)))))) h6_29) Q env w := rfl
def h6_31 : HC := (.seq (.block 1 h6_30) h6_1)
@[simp] theorem h6_31_wp {P : Program} {F : PF P} {Q : EX → List Value → World → Prop} {env : List Value} {w : World} : h6_31.wp F Q env w = HC.wp F (.seq (.block 1 h6_30) h6_1) Q env w := rfl
def h6_32 : HC := (.seq (.br (.chk none .lenL (.cons (.inp 3) .nil) (.chk none (.bin .lss) (.cons (.inp 7) (.cons (.op .lenL (.cons (.inp 3) .nil)) .nil)) (.done [] (some (.op (.bin .lss) (.cons (.inp 7) (.cons (.op .lenL (.cons (.inp 3) .nil)) .nil))))))) .skip (.exit 0)) h6_31)
@[simp] theorem h6_32_wp {P : Program} {F : PF P} {Q : EX → List Value → World → Prop} {env : List Value} {w : World} : h6_32.wp F Q env w = HC.wp F (.seq (.br (.chk none .lenL (.cons (.inp 3) .nil) (.chk none (.bin .lss) (.cons (.inp 7) (.cons (.op .lenL (.cons (.inp 3) .nil)) .nil)) (.done [] (some (.op (.bin .lss) (.cons (.inp 7) (.cons (.op .lenL (.cons (.inp 3) .nil)) .nil))))))) .skip (.exit 0)) h6_31) Q env w := rfl
def h6_33 : HC := (.loop h6_32)
@[simp] theorem h6_33_wp {P : Program} {F : PF P} {Q : EX → List Value → World → Prop} {env : List Value} {w : World} : h6_33.wp F Q env w = HC.wp F (.loop h6_32) Q env w := rfl
def h6_34 : HC := (.seq (.block 0 h6_33) h6_0)
@[simp] theorem h6_34_wp {P : Program} {F : PF P} {Q : EX → List Value → World → Prop} {env : List Value} {w : World} : h6_34.wp F Q env w = HC.wp F (.seq (.block 0 h6_33) h6_0) Q env w := rfl
def h6_35 : HC := (.seq (.reg (.done [(7, (.cst (.int .i64 0)))] none)) h6_34)
@[simp] theorem h6_35_wp {P : Program} {F : PF P} {Q : EX → List Value → World → Prop} {env : List Value} {w : World} : h6_35.wp F Q env w = HC.wp F (.seq (.reg (.done [(7, (.cst (.int .i64 0)))] none)) h6_34) Q env w := rfl
def h6_36 : HC := (.seq (.reg (.chk none (.eqNil false (.pointer 81) (.pointer none)) (.cons (.inp 5) .nil) (.done [(4, (.op (.eqNil false (.pointer 81) (.pointer none)) (.cons (.inp 5) .nil)))] none))) .ret)
@[simp] theorem h6_36_wp {P : Program} {F : PF P} {Q : EX → List Value → World → Prop} {env : List Value} {w : World} : h6_36.wp F Q env w = HC.wp F (.seq (.reg (.chk none (.eqNil false (.pointer 81) (.pointer none)) (.cons (.inp 5) .nil) (.done [(4, (.op (.eqNil false (.pointer 81) (.pointer none)) (.cons (.inp 5) .nil)))] none))) .ret) Q env w := rfl
def h6_37 : HC := (.seq (.br (.chk none (.cal 10) (.cons (.inp 6) .nil) (.chk none (.bin .neq) (.cons (.op (.cal 10) (.cons (.inp 6) .nil)) (.cons (.cst (.int .i64 0)) .nil)) (.done [] (some (.op (.bin .neq) (.cons (.op (.cal 10) (.cons (.inp 6) .nil)) (.cons (.cst (.int .i64 0)) .nil))))))) h6_36 .skip) h6_35)
@[simp] theorem h6_37_wp {P : Program} {F : PF P} {Q : EX → List Value → World → Prop} {env : List Value} {w : World} : h6_37.wp F Q env w = HC.wp F (.seq (.br (.chk none (.cal 10) (.cons (.inp 6) .nil) (.chk none (.bin .neq) (.cons (.op (.cal 10) (.cons (.inp 6) .nil)) (.cons (.cst (.int .i64 0)) .nil)) (.done [] (some (.op (.bin .neq) (.cons (.op (.cal 10) (.cons (.inp 6) .nil)) (.cons (.cst (.int .i64 0)) .nil))))))) h6_36 .skip) h6_35) Q env w := rfl
def h6_38 : HC := (.seq (.reg (.eff (.call 20) (.cons (.inp 0) (.cons (.inp 1) (.cons (.inp 2) .nil))) (.chk none (.ext 0) (.cons (.bv 0) .nil) (.chk none (.ext 1) (.cons (.bv 0) .nil) (.done [(5, (.op (.ext 0) (.cons (.bv 0) .nil))), (6, (.op (.ext 1) (.cons (.bv 0) .nil)))] none))))) h6_37)
@[simp] theorem h6_38_wp {P : Program} {F : PF P} {Q : EX → List Value → World → Prop} {env : List Value} {w : World} : h6_38.wp F Q env w = HC.wp F (.seq (.reg (.eff (.call 20) (.cons (.inp 0) (.cons (.inp 1) (.cons (.inp 2) .nil))) (.chk none (.ext 0) (.cons (.bv 0) .nil) (.chk none (.ext 1) (.cons (.bv 0) .nil) (.done [(5, (.op (.ext 0) (.cons (.bv 0) .nil))), (6, (.op (.ext 1) (.cons (.bv 0) .nil)))] none))))) h6_37) Q env w := rfl
def h6_39 : HC := (.seq (.reg (.done [(4, (.cst (.bool false)))] none)) .ret)
@[simp] theorem h6_39_wp {P : Program} {F : PF P} {Q : EX → List Value → World → Prop} {env : List Value} {w : World} : h6_39.wp F Q env w = HC.wp F (.seq (.reg (.done [(4, (.cst (.bool false)))] none)) .ret) Q env w := rfl
def h6_40 : HC := (.seq (.br (.eff (.call 8) .nil (.chk none (.un .not) (.cons (.bv 0) .nil) (.done [] (some (.op (.un .not) (.cons (.bv 0) .nil)))))) h6_39 .skip) h6_38)
@[simp] theorem h6_40_wp {P : Program} {F : PF P} {Q : EX → List Value → World → Prop} {env : List Value} {w : World} : h6_40.wp F Q env w = HC.wp F (.seq (.br (.eff (.call 8) .nil (.chk none (.un .not) (.cons (.bv 0) .nil) (.done [] (some (.op (.un .not) (.cons (.bv 0) .nil)))))) h6_39 .skip) h6_38) Q env w := rfl
def l6 : Lifted := ⟨[0, 1, 2, 3, 8, 9, 10, 11, 12, 13, 14, 15, 16, 17, 18, 20, 21, 22, 23], 202, [.slot 4], (.seq (.reg (.done [(4, (.cst (.bool false)))] none)) h6_40)⟩
theorem l6_ok : liftFn U1 6 400 = some l6 := by kernel_rfl


def sps (l : List Sp) : List Value := l.flatMap Sp.cs
theorem sps_at {l : List Sp} {i : Nat} (h : i < l.length) : ∀ j u, (l[i].cs)[j]? = some u → (sps l)[i * 6 + j]? = some u := by
  intro j u hu
  have hj : j < 6 := (List.getElem?_eq_some_iff.1 hu).1
  rw [← hu]
  exact flat_get Sp.cs 6 (fun _ => rfl) l i j h hj
theorem all_walk (lim : Int) (rows : List Ac) (sup : Int) (ops : List Sp) (v1 v3 : Value) (w0 w : World) (A : Asn) (hlim : -9223372036854775808 ≤ lim ∧ lim ≤ 9223372036854775807) (hsup : 0 ≤ sup ∧ sup ≤ 18446744073709551615) (hl1 : rows.length ≤ 1048576) (hl2 : ops.length ≤ 1048576)
    (hr1 : Row w0 A v1 rows.length 2 (flat rows)) (hr2 : Row w0 A v3 ops.length 6 (sps ops)) (hx1 : ∀ x ∈ rows, x.name.length ≤ 1048576 ∧ 0 ≤ x.coins ∧ x.coins ≤ 18446744073709551615) (hx2 : ∀ x ∈ ops, x.name.length ≤ 1048576 ∧ 0 ≤ x.coins ∧ x.coins ≤ 18446744073709551615) (s : St w0 A w) :
    CallW Try.prog 6 [.int .i64 lim, v1, .int .u64 sup, v3] (fun r w' => r = .bool true ∧ St w0 A w') w := by
  obtain ⟨sa, scap, rfl⟩ := hr2.val
  refine callW_of_lift l6_ok (by simp [l6]) ?_
  simp [l6]
  refine eff_call ((awake_spec w0 w A s).mono ?_)
  rintro r w1 ⟨rfl, s1⟩
  simp
  refine eff_call ((Load_spec lim rows sup v1 w0 w1 A hl1 (by omega) (fun x hx => (hx1 x hx).1) (fun x hx => by have := hx1 x hx; omega) hr1 s1).mono ?_)
  intro r w2 h2
  by_cases hld : (loadF lim rows sup).1 = 0
  · rw [if_pos hld] at h2
    obtain ⟨p, rfl, s2⟩ := h2
    obtain ⟨_, hpi⟩ := load_PI hld hsup.1 (fun x hx => (hx1 x hx).2.1) (fun i h => (hx1 _ (List.getElem_mem h)).1)
    generalize (loadF lim rows sup).2 = P at *
    simp
    refine loopI (fun env w' => ∃ (i : Nat) (P : Ps) (o8 o9 o10 o11 o12 o13 o14 o15 o16 o17 o18 : Value), env = [.int .i64 lim, v1, .int .u64 sup, .slice sa ops.length scap, .bool false, .pointer (some ⟨p, 0, none⟩), .int .i64 0, .int .i64 i, o8, o9, o10, o11, o12, o13, o14, o15, o16, o17, o18] ∧ i ≤ ops.length ∧ PI lim P ∧ St w0 (A * pur p P) w')
      (fun env _ => ops.length - slotN env 7) ⟨0, P, _, _, _, _, _, _, _, _, _, _, _, rfl, by omega, hpi, s2⟩ ?_
    clear s s1 s2 hpi
    rintro LQ env w' ⟨i, P, o8, o9, o10, o11, o12, o13, o14, o15, o16, o17, o18, rfl, hi, hP, s⟩ hN hE hR
    have hb := hP.bd
    have hPl := hb.len
    simp
    refine cndI (fun h => ?_) (fun h => ?_)
    · simp at h
      obtain ⟨g, o, gcap, hv, hcell⟩ := hr2.at (by omega)
      cases hv
      simp [h]
      have hopn : ∀ {w}, St w0 A w → ∀ j u, (ops[i].cs)[j]? = some u → w.cell? ⟨g, o + (i * 6 + j), none⟩ = some u := fun s j u hu => hcell _ s _ _ (sps_at h j u hu)
      have hok : ops[i].ok := by have := hx2 _ (List.getElem_mem h); exact ⟨by omega, this.1⟩
      obtain ⟨x, hx⟩ : ∃ x, ops[i] = x := ⟨_, rfl⟩
      rw [hx] at hopn hok
      refine eff_ldcs (vs := x.cs) (fun j u hu => by rw [Nat.add_assoc]; exact hopn s.drop j u hu) rfl ?_
      simp
      refine eff_new s ?_
      intro c w3 s3
      simp
      refine eff_stA (vs := x.cs) s3 rfl rfl (sp_one x) (by simp) ?_
      intro w4 s4
      have s4 : St w0 (A * pur p P * pt c (.cells x.cs.toArray 53 (0, 0))) w4 := by simpa using s4
      simp
      refine eff_call ((Rows_spec p P w0 w4 (A * pt c (.cells x.cs.toArray 53 (0, 0))) (by omega) s4.swap).mono ?_)
      intro wv w5 s5
      obtain ⟨wa, wcap, rfl, _⟩ := s5.own_val
      simp
      refine eff_call ((Held_spec p P w0 w5 (A * pt c (.cells x.cs.toArray 53 (0, 0)) * own 66 2 (.slice wa P.rows.length wcap) P.rows.length (flat P.rows)) s5.swap).mono ?_)
      rintro r w6 ⟨rfl, s6⟩
      simp
      refine eff_call ((Supply_spec p P w0 w6 _ s6).mono ?_)
      rintro r w7 ⟨rfl, s7⟩
      simp
      refine eff_ldcs (vs := x.cs) (fun j u hu => s7.drop.drop.row_cells j u hu) rfl ?_
      simp
      refine eff_call ((does_spec p P x w0 w7 _ hb hP.names hok s7).mono ?_)
      rintro r w8 ⟨rfl, s8⟩
      obtain ⟨hP', hlen', hturn, hlast⟩ := does_step hP hok
      have hadj : adj P x = if (doesF P x).1 ≠ 0 ∨ x.kind = 1 then zeroSp else x := rfl
      have hmore : more P x = if x.kind = 1 ∧ (doesF P x).1 = 0 then 1 else 0 := rfl
      generalize adj P x = xz at *
      generalize more P x = mo at *
      generalize (doesF P x).1 = no at *
      generalize (doesF P x).2 = P' at *
      have hb' := hP'.bd
      have hPl' := hb'.len
      simp
      refine eff_call ((Rows_spec p P' w0 w8 _ (by omega) s8).mono ?_)
      intro iv w9 s9
      obtain ⟨ia, icap, rfl, _⟩ := s9.own_val
      simp
      have s9 := s9.swap
      clear s8 s7 s6 s5 s4 s3 s
      refine eff_call ((all_spec p lim P' w0 w9 _ hP' s9).mono ?_)
      rintro r w10 ⟨rfl, s10⟩
      simp
      refine eff_call ((Supply_spec p P' w0 w10 _ s10).mono ?_)
      rintro r w11 ⟨rfl, s11⟩
      simp
      refine eff_call ((Supply_spec p P' w0 w11 _ s11).mono ?_)
      rintro r w12 ⟨rfl, s12⟩
      have q1 : ¬ 4611686018427387904 < P'.sup := by have := hP'.sup; omega
      simp [q1]
      refine eff_call ((Held_spec p P' w0 w12 _ s12).mono ?_)
      rintro r w13 ⟨rfl, s13⟩
      simp
      refine eff_call ((Supply_spec p P' w0 w13 _ s13).mono ?_)
      rintro r w14 ⟨rfl, s14⟩
      have q2 : ¬ P'.sup < P'.held := by have := hP'.sum; have := total_pos hP'.coins; omega
      have q3 : ¬ lim < (P'.rows.length : Int) := by have := hP'.len; omega
      simp [q2, q3]
      refine eff_call ((Len_spec p P' w0 w14 _ s14).mono ?_)
      rintro r w15 ⟨rfl, s15⟩
      simp
      refine eff_call ((Limit_spec p P' w0 w15 _ s15).mono ?_)
      rintro r w16 ⟨rfl, s16⟩
      have q4 := hP'.eqlim
      simp [q4]
      clear s9 s10 s11 s12 s13 s14 s15
      refine eff_ldc (v := .int .i64 x.kind) (s16.drop.drop.drop.row_cells 1 _ rfl) ?_
      simp
      have go : ∀ (mo' : Nat) w, mo' = mo → St w0 (A * pt c (.cells x.cs.toArray 53 (0, 0)) * own 66 2 (.slice wa P.rows.length wcap) P.rows.length (flat P.rows) * own 66 2 (.slice ia P'.rows.length icap) P'.rows.length (flat P'.rows) * pur p P') w →
          HC.wp U1 h6_19 (blockQ 1 (seqQ U1 h6_1 LQ)) [.int .i64 lim, v1, .int .u64 sup, .slice (some ⟨g, o, none⟩) ops.length scap, .bool false, .pointer (some ⟨p, 0, none⟩), .int .i64 0, .int .i64 i, .pointer (some ⟨c, 0, none⟩), .slice wa P.rows.length wcap, .int .u64 P.held, .int .u64 P.sup, .int .i64 no, .slice ia P'.rows.length icap, .int .i64 mo', o15, o16, o17, o18] w := by
        clear s16
        intro mo' w e s
        subst e
        have hmo : mo' ≤ 1 := by rw [hmore]; split <;> omega
        have hwl : IntKind.i64.wrap ((P.rows.length : Int) + (mo' : Int)) = (P.rows.length : Int) + (mo' : Int) := wrap64 (by omega) (by omega)
        have hll : (P'.rows.length : Int) = (P.rows.length : Int) + (mo' : Int) := by omega
        simp [hwl]
        refine cndI (fun hq => ?_) (fun hq => ?_)
        · simp at hq
          exact absurd hll hq
        simp
        have fin : ∀ w, St w0 (A * pt c (.cells xz.cs.toArray 53 (0, 0)) * own 66 2 (.slice wa P.rows.length wcap) P.rows.length (flat P.rows) * own 66 2 (.slice ia P'.rows.length icap) P'.rows.length (flat P'.rows) * pur p P') w →
          HC.wp U1 h6_15 (blockQ 1 (seqQ U1 h6_1 LQ)) [.int .i64 lim, v1, .int .u64 sup, .slice (some ⟨g, o, none⟩) ops.length scap, .bool false, .pointer (some ⟨p, 0, none⟩), .int .i64 0, .int .i64 i, .pointer (some ⟨c, 0, none⟩), .slice wa P.rows.length wcap, .int .u64 P.held, .int .u64 P.sup, .int .i64 no, .slice ia P'.rows.length icap, .int .i64 mo', o15, o16, o17, o18] w := by
          clear s
          intro w s
          simp
          refine eff_ldcs (vs := xz.cs) (fun j u hu => s.drop.drop.drop.row_cells j u hu) rfl ?_
          simp
          refine eff_call ((moved_spec xz (-1) w0 w _ s).mono ?_)
          rintro r w2 ⟨rfl, s2⟩
          simp
          refine eff_call ((Held_spec p P' w0 w2 _ s2).mono ?_)
          rintro r w3 ⟨rfl, s3⟩
          have t1 := hturn.held
          have t2 := hturn.sup
          simp [← t1]
          refine eff_call ((Supply_spec p P' w0 w3 _ s3).mono ?_)
          rintro r w4 ⟨rfl, s4⟩
          simp [← t2]
          refine loopI (fun env w' => ∃ (k : Nat) (u18 : Value), env = [.int .i64 lim, v1, .int .u64 sup, .slice (some ⟨g, o, none⟩) ops.length scap, .bool false, .pointer (some ⟨p, 0, none⟩), .int .i64 0, .int .i64 i, .pointer (some ⟨c, 0, none⟩), .slice wa P.rows.length wcap, .int .u64 P.held, .int .u64 P.sup, .int .i64 no, .slice ia P'.rows.length icap, .int .i64 mo', .int .u64 (movedF xz (-1)).2.1, .int .u64 (movedF xz (-1)).2.2, .int .i64 k, u18] ∧ k ≤ P.rows.length ∧
              St w0 (A * pt c (.cells xz.cs.toArray 53 (0, 0)) * own 66 2 (.slice wa P.rows.length wcap) P.rows.length (flat P.rows) * own 66 2 (.slice ia P'.rows.length icap) P'.rows.length (flat P'.rows) * pur p P') w')
            (fun env _ => P.rows.length - slotN env 17) ⟨0, _, rfl, by omega, s4⟩ ?_
          clear s s2 s3 s4 t1 t2
          rintro LQ2 env w' ⟨k, u18, rfl, hk, s⟩ hN2 hE2 hR2
          simp
          refine cndI (fun h2 => ?_) (fun h2 => ?_)
          · simp at h2
            have h2 : k < P.rows.length := by omega
            obtain ⟨h2', t4, t5⟩ := hturn.each k h2
            simp
            refine eff_ldcs (vs := xz.cs) (fun j u hu => s.drop.drop.drop.row_cells j u hu) rfl ?_
            simp
            refine eff_call ((moved_spec xz k w0 w' _ s).mono ?_)
            rintro r w2 ⟨rfl, s2⟩
            simp
            obtain ⟨wg, _, hv, _, hcw⟩ := s2.drop.drop.own_at (by omega)
            cases hv
            obtain ⟨ig, _, hv, _, hci⟩ := s2.drop.own_at (by omega)
            cases hv
            generalize hS : (A * pt c (.cells xz.cs.toArray 53 (0, 0)) * own 66 2 (.slice (some ⟨wg, 0, none⟩) P.rows.length wcap) P.rows.length (flat P.rows) * own 66 2 (.slice (some ⟨ig, 0, none⟩) P'.rows.length icap) P'.rows.length (flat P'.rows) * pur p P') = S at s2
            have hW : ∀ {w}, St w0 S w → ∀ j u, (flat P.rows)[j]? = some u → w.cell? ⟨wg, j, none⟩ = some u := fun h => by
              rw [← hS] at h
              obtain ⟨_, _, hv, _, hc⟩ := h.drop.drop.own_at (by omega)
              cases hv; exact hc
            have hI : ∀ {w}, St w0 S w → ∀ j u, (flat P'.rows)[j]? = some u → w.cell? ⟨ig, j, none⟩ = some u := fun h => by
              rw [← hS] at h
              obtain ⟨_, _, hv, _, hc⟩ := h.drop.own_at (by omega)
              cases hv; exact hc
            have hcb := hb'.coins k h2'
            have ecb : P'.rows.getD k ⟨[], 0⟩ = P'.rows[k] := by simp [h2']
            rw [ecb] at hcb
            have q5 : ¬ 4611686018427387904 < P'.rows[k].coins := by omega
            refine brqI s2 ?_
            simp [h2, h2']
            refine effq_ldc (fun w s => hI s _ _ (flat_coins h2')) ?_
            simp [h2]
            refine effq_ldc (fun w s => hW s _ _ (flat_coins h2)) ?_
            simp [← t5, h2']
            refine effq_ldc (fun w s => hI s _ _ (flat_name h2')) ?_
            simp [h2]
            refine effq_ldc (fun w s => hW s _ _ (flat_name h2)) ?_
            simp [t4, h2']
            refine effq_ldc (fun w s => hI s _ _ (flat_coins h2')) ?_
            simp [q5]
            intro w9 s9
            try simp (disch := omega) only [wrap64]
            refine hN2 _ _ ⟨k + 1, _, by simp; exact rfl, by omega, by rw [hS]; exact s9⟩ (by simp [slotN]; omega)
          simp at h2
          simp
          refine hE2 _ _ _ ?_
          simp
          have hke : k = P.rows.length := by omega
          have next : ∀ (w : World) (o17 o18 : Value), St w0 (A * pt c (.cells xz.cs.toArray 53 (0, 0)) * own 66 2 (.slice wa P.rows.length wcap) P.rows.length (flat P.rows) * own 66 2 (.slice ia P'.rows.length icap) P'.rows.length (flat P'.rows) * pur p P') w →
              LQ .nrm [.int .i64 lim, v1, .int .u64 sup, .slice (some ⟨g, o, none⟩) ops.length scap, .bool false, .pointer (some ⟨p, 0, none⟩), .int .i64 0, .int .i64 (i + 1), .pointer (some ⟨c, 0, none⟩), .slice wa P.rows.length wcap, .int .u64 P.held, .int .u64 P.sup, .int .i64 no, .slice ia P'.rows.length icap, .int .i64 mo', .int .u64 (movedF xz (-1)).2.1, .int .u64 (movedF xz (-1)).2.2, o17, o18] w := by
            intro w o17 o18 s
            refine hN _ _ ⟨i + 1, P', _, _, _, _, _, _, _, _, _, _, _, by simp; exact ⟨rfl, rfl, rfl, rfl, rfl, rfl, rfl, rfl, rfl, rfl, rfl⟩, by omega, hP', St.cut (pt c (.cells xz.cs.toArray 53 (0, 0)) * own 66 2 (.slice wa P.rows.length wcap) P.rows.length (flat P.rows) * own 66 2 (.slice ia P'.rows.length icap) P'.rows.length (flat P'.rows)) s (by ac_rfl)⟩ (by simp [slotN]; omega)
          by_cases hm1 : mo' = 1
          · subst hm1
            have hl1 := hlast rfl
            have hl3 : P.rows.length < P'.rows.length := by omega
            obtain ⟨_, hl4⟩ := List.getElem?_eq_some_iff.1 hl1
            obtain ⟨ig, _, hv, _, hci⟩ := s.drop.own_at (by omega)
            cases hv
            generalize hS : (A * pt c (.cells xz.cs.toArray 53 (0, 0)) * own 66 2 (.slice wa P.rows.length wcap) P.rows.length (flat P.rows) * own 66 2 (.slice (some ⟨ig, 0, none⟩) P'.rows.length icap) P'.rows.length (flat P'.rows) * pur p P') = S at s
            have hI : ∀ {w}, St w0 S w → ∀ j u, (flat P'.rows)[j]? = some u → w.cell? ⟨ig, j, none⟩ = some u := fun h => by
              rw [← hS] at h
              obtain ⟨_, _, hv, _, hc⟩ := h.drop.own_at (by omega)
              cases hv; exact hc
            refine brqI s ?_
            simp [hl3]
            refine effq_ldcs (vs := P'.rows[P.rows.length].cs) (fun w s j u hu => by simpa using hI s _ _ (flat_at hl3 j u hu)) rfl ?_
            simp [h]
            refine effq_ldc (v := .string (mk x.name)) (fun w s => by rw [← hS] at s; exact hopn s.drop.drop.drop.drop 5 _ rfl) ?_
            simp [Instr.fill, Value.cells]
            refine effq_neqP accT P'.rows[P.rows.length].pv (⟨x.name, 0⟩ : Ac).pv rfl rfl ?_
            rw [Ac.pv_eq, hl4]
            simp
            intro w9 s9
            try simp (disch := omega) only [wrap64]
            exact next w9 _ _ (by rw [hS]; exact s9)
          · have hm0 : mo' = 0 := by omega
            subst hm0
            refine brqI s ?_
            simp
            intro w9 s9
            try simp (disch := omega) only [wrap64]
            exact next w9 _ _ s9
        by_cases hno : no = 0
        · simp [hno]
          refine eff_ldc (v := .int .i64 x.kind) (s.drop.drop.drop.row_cells 1 _ rfl) ?_
          simp
          refine cndI (fun hk1 => ?_) (fun hk1 => ?_)
          · simp at hk1
            have hz : xz = zeroSp := by rw [hadj, if_pos (.inr hk1)]
            simp [Instr.fill, Value.cells]
            refine eff_stA (vs := zeroSp.cs) (s.to (B := A * own 66 2 (.slice wa P.rows.length wcap) P.rows.length (flat P.rows) * own 66 2 (.slice ia P'.rows.length icap) P'.rows.length (flat P'.rows) * pur p P' * pt c (.cells x.cs.toArray 53 (0, 0))) (by ac_rfl)) rfl rfl (sp_one _) (by simp [Sp.cs]) ?_
            intro w9 s9
            have s9 : St w0 (A * own 66 2 (.slice wa P.rows.length wcap) P.rows.length (flat P.rows) * own 66 2 (.slice ia P'.rows.length icap) P'.rows.length (flat P'.rows) * pur p P' * pt c (.cells xz.cs.toArray 53 (0, 0))) w9 := by rw [hz]; simpa [Sp.cs] using s9
            simpa [hno] using fin w9 (s9.to (by ac_rfl))
          · simp at hk1
            have hz : xz = x := by rw [hadj, if_neg (fun e => e.elim (fun e => e hno) hk1)]
            simpa [hno] using fin w (by rw [hz]; exact s)
        · have hz : xz = zeroSp := by rw [hadj, if_pos (.inl hno)]
          simp [hno, Instr.fill, Value.cells]
          refine eff_stA (vs := zeroSp.cs) (s.to (B := A * own 66 2 (.slice wa P.rows.length wcap) P.rows.length (flat P.rows) * own 66 2 (.slice ia P'.rows.length icap) P'.rows.length (flat P'.rows) * pur p P' * pt c (.cells x.cs.toArray 53 (0, 0))) (by ac_rfl)) rfl rfl (sp_one _) (by simp [Sp.cs]) ?_
          intro w9 s9
          have s9 : St w0 (A * own 66 2 (.slice wa P.rows.length wcap) P.rows.length (flat P.rows) * own 66 2 (.slice ia P'.rows.length icap) P'.rows.length (flat P'.rows) * pur p P' * pt c (.cells xz.cs.toArray 53 (0, 0))) w9 := by rw [hz]; simpa [Sp.cs] using s9
          simpa using fin w9 (s9.to (by ac_rfl))
      refine cndI (fun k1 => ?_) (fun k1 => ?_)
      · simp at k1
        have hm1 : mo = 1 := by rw [hmore, if_pos k1]
        simpa [hm1] using go 1 w16 hm1.symm (s16.to (by ac_rfl))
      · simp at k1
        have hm0 : mo = 0 := by rw [hmore, if_neg (fun h => k1 h.1 h.2)]
        simpa [hm0] using go 0 w16 hm0.symm (s16.to (by ac_rfl))
    simp at h
    simp
    refine hE _ _ _ ?_
    simp
    exact s.drop
  · rw [if_neg hld] at h2
    obtain ⟨rfl, s2⟩ := h2
    simp [hld]
    exact s2
end Go.HL.Pu
