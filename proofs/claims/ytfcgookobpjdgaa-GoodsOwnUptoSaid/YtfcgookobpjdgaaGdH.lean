/-
  Goods: what an act does, in plain Lean; known; the law GoodsOnce: the walk. Conditions: so many acts at most.
-/
import Derived.Test.YtfcgookobpjdgaaGdG
import Derived.Test.YtfcgookobpjdgaaOpen
namespace Go.HL.Gd
open Go.HL Go.Proofs
set_option maxRecDepth 4000
set_option linter.unusedSimpArgs false
set_option linter.unusedVariables false
theorem gi_nil {lim : Int} (h : 0 ≤ lim) (h2 : lim ≤ 512) : GI lim [] where
  num i h := by simp at h
  kind x h := by cases h
  len := by simpa using h
  lim := h2
  place x h := by cases h
theorem gi_make {lim : Int} {its : List It} (hg : GI lim its) {k a : Int} (ha : accF a = true) (hk : kindF k = true) (hl : ¬ lim ≤ its.length) : GI lim (its ++ [⟨its.length + 1, k, a, 0⟩]) where
  num i h := by
    by_cases e : i < its.length
    · rw [List.getElem_append_left e]; exact hg.num i e
    · have : i = its.length := by simp at h; omega
      subst this
      simp
  kind x h := by
    rcases List.mem_append.1 h with h | h
    · exact hg.kind x h
    · have : x = ⟨its.length + 1, k, a, 0⟩ := by simpa using h
      subst this
      simpa [kindF] using hk
  len := by simp; omega
  lim := hg.lim
  place x h := by
    rcases List.mem_append.1 h with h | h
    · exact hg.place x h
    · have : x = ⟨its.length + 1, k, a, 0⟩ := by simpa using h
      subst this
      left
      simpa [accF] using ha
theorem gi_put {lim : Int} {its : List It} (hg : GI lim its) {item : Int} {held : Bool} {a c : Int} (hp : (c = 0 ∧ 0 ≤ a ∧ a < 64) ∨ (0 < c ∧ a = -1)) : GI lim (putF its item held a c).2 := by
  unfold putF
  split
  · rename_i hi
    split
    · have hlt : item.toNat - 1 < its.length := by omega
      have hgd : its.getD (item.toNat - 1) ⟨0, 0, 0, 0⟩ = its[item.toNat - 1] := by simp [hlt]
      rw [hgd]
      refine ⟨⟨fun i h => ?_, fun x hx => ?_⟩, by rw [List.length_set]; exact hg.len, hg.lim, fun x hx => ?_⟩
      · rw [List.length_set] at h
        rw [List.getElem_set]
        split
        · rename_i e; subst e; exact hg.num _ h
        · exact hg.num i h
      · rcases List.mem_or_eq_of_mem_set hx with h | rfl
        · exact hg.kind x h
        · exact hg.kind its[item.toNat - 1] (List.getElem_mem hlt)
      · rcases List.mem_or_eq_of_mem_set hx with h | rfl
        · exact hg.place x h
        · exact hp
    · exact hg
  · exact hg
theorem acc_iff (a : Int) : accF a = true ↔ 0 ≤ a ∧ a < 64 := by simp [accF]
theorem gi_act {lim : Int} {its : List It} (hg : GI lim its) (x : Ac) : GI lim (actF lim its x).2 := by
  unfold actF
  split
  · unfold makeF
    split
    · exact hg
    split
    · exact hg
    split
    · exact hg
    · rename_i h1 h2 h3
      exact gi_make hg (by simpa using h1) (by simpa using h2) h3
  split
  · unfold moveF
    split
    · rename_i h; exact gi_put hg (.inl ⟨rfl, (acc_iff _).1 h⟩)
    · exact hg
  split
  · unfold holdF
    split
    · exact hg
    · rename_i h; exact gi_put hg (.inr ⟨by omega, rfl⟩)
  split
  · unfold freeF
    split
    · rename_i h; exact gi_put hg (.inl ⟨rfl, (acc_iff _).1 h⟩)
    · exact hg
  · exact hg
theorem put_no {its : List It} {item : Int} {held : Bool} {a c : Int} (h : (putF its item held a c).1 ≠ 0) : (putF its item held a c).2 = its := by
  unfold putF at h ⊢
  split
  · split
    · rename_i h1 h2; rw [if_pos h1, if_pos h2] at h; exact absurd rfl h
    · rfl
  · rfl
theorem act_no {lim : Int} {its : List It} {x : Ac} (h : (actF lim its x).1 ≠ 0) : (actF lim its x).2 = its := by
  unfold actF at h ⊢
  split
  · rename_i e1
    rw [if_pos e1] at h
    unfold makeF at h ⊢
    split
    · rfl
    split
    · rfl
    split
    · rfl
    · rename_i h1 h2 h3; simp [h1, h2, h3] at h
  rename_i e1
  rw [if_neg e1] at h
  split
  · rename_i e2
    rw [if_pos e2] at h
    unfold moveF at h ⊢
    split
    · rename_i h1; rw [if_pos h1] at h; exact put_no h
    · rfl
  rename_i e2
  rw [if_neg e2] at h
  split
  · rename_i e3
    rw [if_pos e3] at h
    unfold holdF at h ⊢
    split
    · rfl
    · rename_i h1; rw [if_neg h1] at h; exact put_no h
  rename_i e3
  rw [if_neg e3] at h
  split
  · rename_i e4
    rw [if_pos e4] at h
    unfold freeF at h ⊢
    split
    · rename_i h1; rw [if_pos h1] at h; exact put_no h
    · rfl
  · rfl
theorem put_moved {lim : Int} {its : List It} (hg : GI lim its) {x : Ac} {held : Bool} {a c : Int} (hk : x.kind = 2 ∨ x.kind = 3 ∨ x.kind = 4) (hh : held = decide (x.kind = 4)) (ha : a = if x.kind = 3 then -1 else x.b) (hc : c = if x.kind = 3 then x.b else 0)
    (h : (putF its x.a held a c).1 = 0) : movedF its (putF its x.a held a c).2 x = true := by
  have k1 : ¬ x.kind = 1 := by omega
  unfold putF at h ⊢
  split
  · rename_i hi
    rw [if_pos hi] at h
    split
    · rename_i h2
      have hlt : x.a.toNat - 1 < its.length := by omega
      have hgd : its.getD (x.a.toNat - 1) ⟨0, 0, 0, 0⟩ = its[x.a.toNat - 1] := by simp [hlt]
      have hp := hg.place its[x.a.toNat - 1] (List.getElem_mem hlt)
      rw [hgd] at h2
      have e : decide (its[x.a.toNat - 1].con ≠ 0) = decide (x.kind = 4) := by
        rw [← hh, ← h2, decide_eq_decide]
        omega
      unfold movedF wantF
      rw [if_neg k1, if_pos hk, if_pos hi, hgd, if_pos e]
      simp [ha, hc]
    · rename_i h2; rw [if_neg h2] at h; simp at h
  · rename_i hi; rw [if_neg hi] at h; simp at h
theorem act_moved {lim : Int} {its : List It} (hg : GI lim its) {x : Ac} (h : (actF lim its x).1 = 0) : movedF its (actF lim its x).2 x = true := by
  unfold actF at h ⊢
  split
  · rename_i e1
    rw [if_pos e1] at h
    unfold makeF at h ⊢
    split
    · rename_i h1; simp [h1] at h
    split
    · rename_i h1 h2; simp [h1, h2] at h
    split
    · rename_i h1 h2 h3; simp [h1, h2, h3] at h
    · simp [movedF, wantF, e1]
  rename_i e1
  rw [if_neg e1] at h
  split
  · rename_i e2
    rw [if_pos e2] at h
    unfold moveF at h ⊢
    split
    · rename_i h1; rw [if_pos h1] at h; exact put_moved hg (.inl e2) (by simp [e2]) (by simp [e2]) (by simp [e2]) h
    · rename_i h1; rw [if_neg h1] at h; simp at h
  rename_i e2
  rw [if_neg e2] at h
  split
  · rename_i e3
    rw [if_pos e3] at h
    unfold holdF at h ⊢
    split
    · rename_i h1; rw [if_pos h1] at h; simp at h
    · rename_i h1; rw [if_neg h1] at h; exact put_moved hg (.inr (.inl e3)) (by simp [e3]) (by simp [e3]) (by simp [e3]) h
  rename_i e3
  rw [if_neg e3] at h
  split
  · rename_i e4
    rw [if_pos e4] at h
    unfold freeF at h ⊢
    split
    · rename_i h1; rw [if_pos h1] at h; exact put_moved hg (.inr (.inr e4)) (by simp [e4]) (by simp [e4]) (by simp [e4]) h
    · rename_i h1; rw [if_neg h1] at h; simp at h
  · rename_i e4
    simp [movedF, wantF, e1, e2, e3, e4]
-- bazaar/bazaarlaw15.known
def h7_0 : HC := (.seq (.reg (.chk none (.cal 10) (.cons (.inp 4) .nil) (.chk none (.bin .eql) (.cons (.op (.cal 10) (.cons (.inp 4) .nil)) (.cons (.cst (.int .i64 0)) .nil)) (.bnd (.op (.bin .eql) (.cons (.op (.cal 10) (.cons (.inp 4) .nil)) (.cons (.cst (.int .i64 0)) .nil))) (.chk (some ((.bv 0), true)) (.bin .eql) (.cons (.inp 3) (.cons (.cst (.int .i64 1)) .nil)) (.isb none (.bv 0) (.bnd (.ite (.bv 0) true (.op (.bin .eql) (.cons (.inp 3) (.cons (.cst (.int .i64 1)) .nil))) (.cst (.bool false))) (.chk (some ((.bv 1), true)) (.cal 10) (.cons (.inp 6) .nil) (.chk (some ((.bv 1), true)) (.bin .eql) (.cons (.op (.cal 10) (.cons (.inp 6) .nil)) (.cons (.cst (.int .i64 0)) .nil)) (.isb none (.bv 1) (.bnd (.ite (.bv 1) true (.op (.bin .eql) (.cons (.op (.cal 10) (.cons (.inp 6) .nil)) (.cons (.cst (.int .i64 0)) .nil))) (.cst (.bool false))) (.chk (some ((.bv 2), true)) (.bin .eql) (.cons (.inp 5) (.cons (.cst (.int .i64 2)) .nil)) (.isb none (.bv 2) (.bnd (.ite (.bv 2) true (.op (.bin .eql) (.cons (.inp 5) (.cons (.cst (.int .i64 2)) .nil))) (.cst (.bool false))) (.chk (some ((.bv 3), true)) (.cal 10) (.cons (.inp 7) .nil) (.chk (some ((.bv 3), true)) (.bin .eql) (.cons (.op (.cal 10) (.cons (.inp 7) .nil)) (.cons (.cst (.int .i64 150)) .nil)) (.isb none (.bv 3) (.bnd (.ite (.bv 3) true (.op (.bin .eql) (.cons (.op (.cal 10) (.cons (.inp 7) .nil)) (.cons (.cst (.int .i64 150)) .nil))) (.cst (.bool false))) (.ite (.bv 4) true (.eff (.call 27) (.cons (.ite (.bv 4) true (.inp 1) (.cst (.tuple #[]))) (.cons (.cst (.int .i64 1)) (.cons (.cst (.int .i64 7)) .nil))) (.chk none (.cal 10) (.cons (.bv 5) .nil) (.chk none (.bin .eql) (.cons (.op (.cal 10) (.cons (.bv 5) .nil)) (.cons (.cst (.int .i64 0)) .nil)) (.isb none (.bv 4) (.bnd (.op (.bin .eql) (.cons (.op (.cal 10) (.cons (.bv 5) .nil)) (.cons (.cst (.int .i64 0)) .nil))) (.ite (.bv 6) true (.eff (.call 20) (.cons (.ite (.bv 6) true (.inp 1) (.cst (.tuple #[]))) (.cons (.cst (.int .i64 7)) .nil)) (.eff (.bsl 3 1 1 #[(.int .i64 0)] [0]) (.cons (.cst (.int .i64 1)) .nil) (.eff (.call 21) (.cons (.bv 7) (.cons (.bv 8) .nil)) (.isb none (.bv 6) (.ite (.bv 9) true (.eff (.call 19) (.cons (.ite (.bv 9) true (.inp 1) (.cst (.tuple #[]))) (.cons (.cst (.int .i64 5)) .nil)) (.eff (.bsl 3 1 1 #[(.int .i64 0)] [0]) (.cons (.cst (.int .i64 2)) .nil) (.eff (.call 21) (.cons (.bv 10) (.cons (.bv 11) .nil)) (.isb none (.bv 9) (.ite (.bv 12) true (.eff (.call 28) (.cons (.ite (.bv 12) true (.inp 1) (.cst (.tuple #[]))) (.cons (.cst (.int .i64 1)) (.cons (.cst (.int .i64 5)) .nil))) (.chk none (.cal 10) (.cons (.bv 13) .nil) (.chk none (.bin .eql) (.cons (.op (.cal 10) (.cons (.bv 13) .nil)) (.cons (.cst (.int .i64 0)) .nil)) (.isb none (.bv 12) (.bnd (.op (.bin .eql) (.cons (.op (.cal 10) (.cons (.bv 13) .nil)) (.cons (.cst (.int .i64 0)) .nil))) (.ite (.bv 14) true (.eff (.call 19) (.cons (.ite (.bv 14) true (.inp 1) (.cst (.tuple #[]))) (.cons (.cst (.int .i64 5)) .nil)) (.eff (.bsl 3 2 1 #[(.int .i64 0)] [0, 1]) (.cons (.cst (.int .i64 1)) (.cons (.cst (.int .i64 2)) .nil)) (.eff (.call 21) (.cons (.bv 15) (.cons (.bv 16) .nil)) (.isb none (.bv 14) (.done [(0, (.bv 17))] none))))) (.isb none (.bv 14) (.done [(0, (.cst (.bool false)))] none)))))))) (.isb none (.bv 12) (.isb none (.cst (.bool false)) (.done [(0, (.cst (.bool false)))] none)))))))) (.isb none (.bv 9) (.isb none (.cst (.bool false)) (.isb none (.cst (.bool false)) (.done [(0, (.cst (.bool false)))] none))))))))) (.isb none (.bv 6) (.isb none (.cst (.bool false)) (.isb none (.cst (.bool false)) (.isb none (.cst (.bool false)) (.done [(0, (.cst (.bool false)))] none))))))))))) (.isb none (.bv 4) (.isb none (.cst (.bool false)) (.isb none (.cst (.bool false)) (.isb none (.cst (.bool false)) (.isb none (.cst (.bool false)) (.done [(0, (.cst (.bool false)))] none))))))))))))))))))))))))) .ret)
@[simp] theorem h7_0_wp {P : Program} {F : PF P} {Q : EX → List Value → World → Prop} {env : List Value} {w : World} : h7_0.wp F Q env w = HC.wp F (.seq (.reg (.chk none (.cal 10) (.cons (.inp 4) .nil) (.chk none (.bin .eql) (.cons (.op (.cal 10) (.cons (.inp 4) .nil)) (.cons (.cst (.int .i64 0)) .nil)) (.bnd (.op (.bin .eql) (.cons (.op (.cal 10) (.cons (.inp 4) .nil)) (.cons (.cst (.int .i64 0)) .nil))) (.chk (some ((.bv 0), true)) (.bin .eql) (.cons (.inp 3) (.cons (.cst (.int .i64 1)) .nil)) (.isb none (.bv 0) (.bnd (.ite (.bv 0) true (.op (.bin .eql) (.cons (.inp 3) (.cons (.cst (.int .i64 1)) .nil))) (.cst (.bool false))) (.chk (some ((.bv 1), true)) (.cal 10) (.cons (.inp 6) .nil) (.chk (some ((.bv 1), true)) (.bin .eql) (.cons (.op (.cal 10) (.cons (.inp 6) .nil)) (.cons (.cst (.int .i64 0)) .nil)) (.isb none (.bv 1) (.bnd (.ite (.bv 1) true (.op (.bin .eql) (.cons (.op (.cal 10) (.cons (.inp 6) .nil)) (.cons (.cst (.int .i64 0)) .nil))) (.cst (.bool false))) (.chk (some ((.bv 2), true)) (.bin .eql) (.cons (.inp 5) (.cons (.cst (.int .i64 2)) .nil)) (.isb none (.bv 2) (.bnd (.ite (.bv 2) true (.op (.bin .eql) (.cons (.inp 5) (.cons (.cst (.int .i64 2)) .nil))) (.cst (.bool false))) (.chk (some ((.bv 3), true)) (.cal 10) (.cons (.inp 7) .nil) (.chk (some ((.bv 3), true)) (.bin .eql) (.cons (.op (.cal 10) (.cons (.inp 7) .nil)) (.cons (.cst (.int .i64 150)) .nil)) (.isb none (.bv 3) (.bnd (.ite (.bv 3) true (.op (.bin .eql) (.cons (.op (.cal 10) (.cons (.inp 7) .nil)) (.cons (.cst (.int .i64 150)) .nil))) (.cst (.bool false))) (.ite (.bv 4) true (.eff (.call 27) (.cons (.ite (.bv 4) true (.inp 1) (.cst (.tuple #[]))) (.cons (.cst (.int .i64 1)) (.cons (.cst (.int .i64 7)) .nil))) (.chk none (.cal 10) (.cons (.bv 5) .nil) (.chk none (.bin .eql) (.cons (.op (.cal 10) (.cons (.bv 5) .nil)) (.cons (.cst (.int .i64 0)) .nil)) (.isb none (.bv 4) (.bnd (.op (.bin .eql) (.cons (.op (.cal 10) (.cons (.bv 5) .nil)) (.cons (.cst (.int .i64 0)) .nil))) (.ite (.bv 6) true (.eff (.call 20) (.cons (.ite (.bv 6) true (.inp 1) (.cst (.tuple #[]))) (.cons (.cst (.int .i64 7)) .nil)) (.eff (.bsl 3 1 1 #[(.int .i64 0)] [0]) (.cons (.cst (.int .i64 1)) .nil) (.eff (.call 21) (.cons (.bv 7) (.cons (.bv 8) .nil)) (.isb none (.bv 6) (.ite (.bv 9) true (.eff (.call 19) (.cons (.ite (.bv 9) true (.inp 1) (.cst (.tuple #[]))) (.cons (.cst (.int .i64 5)) .nil)) (.eff (.bsl 3 1 1 #[(.int .i64 0)] [0]) (.cons (.cst (.int .i64 2)) .nil) (.eff (.call 21) (.cons (.bv 10) (.cons (.bv 11) .nil)) (.isb none (.bv 9) (.ite (.bv 12) true (.eff (.call 28) (.cons (.ite (.bv 12) true (.inp 1) (.cst (.tuple #[]))) (.cons (.cst (.int .i64 1)) (.cons (.cst (.int .i64 5)) .nil))) (.chk none (.cal 10) (.cons (.bv 13) .nil) (.chk none (.bin .eql) (.cons (.op (.cal 10) (.cons (.bv 13) .nil)) (.cons (.cst (.int .i64 0)) .nil)) (.isb none (.bv 12) (.bnd (.op (.bin .eql) (.cons (.op (.cal 10) (.cons (.bv 13) .nil)) (.cons (.cst (.int .i64 0)) .nil))) (.ite (.bv 14) true (.eff (.call 19) (.cons (.ite (.bv 14) true (.inp 1) (.cst (.tuple #[]))) (.cons (.cst (.int .i64 5)) .nil)) (.eff (.bsl 3 2 1 #[(.int .i64 0)] [0, 1]) (.cons (.cst (.int .i64 1)) (.cons (.cst (.int .i64 2)) .nil)) (.eff (.call 21) (.cons (.bv 15) (.cons (.bv 16) .nil)) (.isb none (.bv 14) (.done [(0, (.bv 17))] none))))) (.isb none (.bv 14) (.done [(0, (.cst (.bool false)))] none)))))))) (.isb none (.bv 12) (.isb none (.cst (.bool false)) (.done [(0, (.cst (.bool false)))] none)))))))) (.isb none (.bv 9) (.isb none (.cst (.bool false)) (.isb none (.cst (.bool false)) (.done [(0, (.cst (.bool false)))] none))))))))) (.isb none (.bv 6) (.isb none (.cst (.bool false)) (.isb none (.cst (.bool false)) (.isb none (.cst (.bool false)) (.done [(0, (.cst (.bool false)))] none))))))))))) (.isb none (.bv 4) (.isb none (.cst (.bool false)) (.isb none (.cst (.bool false)) (.isb none (.cst (.bool false)) (.isb none (.cst (.bool false)) (.done [(0, (.cst (.bool false)))] none))))))))))))))))))))))))) .ret) Q env w := rfl
def h7_1 : HC := (.seq (.reg (.eff (.call 26) (.cons (.inp 1) (.cons (.cst (.int .i64 1)) (.cons (.cst (.int .i64 5)) .nil))) (.chk none (.ext 0) (.cons (.bv 0) .nil) (.chk none (.ext 1) (.cons (.bv 0) .nil) (.done [(7, (.op (.ext 1) (.cons (.bv 0) .nil)))] none))))) h7_0)
@[simp] theorem h7_1_wp {P : Program} {F : PF P} {Q : EX → List Value → World → Prop} {env : List Value} {w : World} : h7_1.wp F Q env w = HC.wp F (.seq (.reg (.eff (.call 26) (.cons (.inp 1) (.cons (.cst (.int .i64 1)) (.cons (.cst (.int .i64 5)) .nil))) (.chk none (.ext 0) (.cons (.bv 0) .nil) (.chk none (.ext 1) (.cons (.bv 0) .nil) (.done [(7, (.op (.ext 1) (.cons (.bv 0) .nil)))] none))))) h7_0) Q env w := rfl
def h7_2 : HC := (.seq (.reg (.eff (.call 26) (.cons (.inp 1) (.cons (.cst (.int .i64 1)) (.cons (.cst (.int .i64 5)) .nil))) (.chk none (.ext 0) (.cons (.bv 0) .nil) (.chk none (.ext 1) (.cons (.bv 0) .nil) (.done [(5, (.op (.ext 0) (.cons (.bv 0) .nil))), (6, (.op (.ext 1) (.cons (.bv 0) .nil)))] none))))) h7_1)
@[simp] theorem h7_2_wp {P : Program} {F : PF P} {Q : EX → List Value → World → Prop} {env : List Value} {w : World} : h7_2.wp F Q env w = HC.wp F (.seq (.reg (.eff (.call 26) (.cons (.inp 1) (.cons (.cst (.int .i64 1)) (.cons (.cst (.int .i64 5)) .nil))) (.chk none (.ext 0) (.cons (.bv 0) .nil) (.chk none (.ext 1) (.cons (.bv 0) .nil) (.done [(5, (.op (.ext 0) (.cons (.bv 0) .nil))), (6, (.op (.ext 1) (.cons (.bv 0) .nil)))] none))))) h7_1) Q env w := rfl
def h7_3 : HC := (.seq (.reg (.eff (.call 26) (.cons (.inp 1) (.cons (.cst (.int .i64 3)) (.cons (.cst (.int .i64 0)) .nil))) (.chk none (.ext 0) (.cons (.bv 0) .nil) (.chk none (.ext 1) (.cons (.bv 0) .nil) (.done [(3, (.op (.ext 0) (.cons (.bv 0) .nil))), (4, (.op (.ext 1) (.cons (.bv 0) .nil)))] none))))) h7_2)
@[simp] theorem h7_3_wp {P : Program} {F : PF P} {Q : EX → List Value → World → Prop} {env : List Value} {w : World} : h7_3.wp F Q env w = HC.wp F (.seq (.reg (.eff (.call 26) (.cons (.inp 1) (.cons (.cst (.int .i64 3)) (.cons (.cst (.int .i64 0)) .nil))) (.chk none (.ext 0) (.cons (.bv 0) .nil) (.chk none (.ext 1) (.cons (.bv 0) .nil) (.done [(3, (.op (.ext 0) (.cons (.bv 0) .nil))), (4, (.op (.ext 1) (.cons (.bv 0) .nil)))] none))))) h7_2) Q env w := rfl
def h7_4 : HC := (.seq (.reg (.done [(0, (.cst (.bool false)))] none)) .ret)
@[simp] theorem h7_4_wp {P : Program} {F : PF P} {Q : EX → List Value → World → Prop} {env : List Value} {w : World} : h7_4.wp F Q env w = HC.wp F (.seq (.reg (.done [(0, (.cst (.bool false)))] none)) .ret) Q env w := rfl
def h7_5 : HC := (.seq (.br (.chk none (.cal 10) (.cons (.inp 2) .nil) (.chk none (.bin .neq) (.cons (.op (.cal 10) (.cons (.inp 2) .nil)) (.cons (.cst (.int .i64 0)) .nil)) (.bnd (.op (.bin .neq) (.cons (.op (.cal 10) (.cons (.inp 2) .nil)) (.cons (.cst (.int .i64 0)) .nil))) (.chk (some ((.bv 0), false)) (.eqNil false (.pointer 71) (.pointer none)) (.cons (.inp 1) .nil) (.isb none (.bv 0) (.done [] (some (.ite (.bv 0) true (.cst (.bool true)) (.op (.eqNil false (.pointer 71) (.pointer none)) (.cons (.inp 1) .nil)))))))))) h7_4 .skip) h7_3)
@[simp] theorem h7_5_wp {P : Program} {F : PF P} {Q : EX → List Value → World → Prop} {env : List Value} {w : World} : h7_5.wp F Q env w = HC.wp F (.seq (.br (.chk none (.cal 10) (.cons (.inp 2) .nil) (.chk none (.bin .neq) (.cons (.op (.cal 10) (.cons (.inp 2) .nil)) (.cons (.cst (.int .i64 0)) .nil)) (.bnd (.op (.bin .neq) (.cons (.op (.cal 10) (.cons (.inp 2) .nil)) (.cons (.cst (.int .i64 0)) .nil))) (.chk (some ((.bv 0), false)) (.eqNil false (.pointer 71) (.pointer none)) (.cons (.inp 1) .nil) (.isb none (.bv 0) (.done [] (some (.ite (.bv 0) true (.cst (.bool true)) (.op (.eqNil false (.pointer 71) (.pointer none)) (.cons (.inp 1) .nil)))))))))) h7_4 .skip) h7_3) Q env w := rfl
def h7_6 : HC := (.seq (.reg (.eff (.call 8) (.cons (.cst (.int .i64 2)) .nil) (.chk none (.ext 0) (.cons (.bv 0) .nil) (.chk none (.ext 1) (.cons (.bv 0) .nil) (.done [(1, (.op (.ext 0) (.cons (.bv 0) .nil))), (2, (.op (.ext 1) (.cons (.bv 0) .nil)))] none))))) h7_5)
@[simp] theorem h7_6_wp {P : Program} {F : PF P} {Q : EX → List Value → World → Prop} {env : List Value} {w : World} : h7_6.wp F Q env w = HC.wp F (.seq (.reg (.eff (.call 8) (.cons (.cst (.int .i64 2)) .nil) (.chk none (.ext 0) (.cons (.bv 0) .nil) (.chk none (.ext 1) (.cons (.bv 0) .nil) (.done [(1, (.op (.ext 0) (.cons (.bv 0) .nil))), (2, (.op (.ext 1) (.cons (.bv 0) .nil)))] none))))) h7_5) Q env w := rfl
def l7 : Lifted := ⟨[0, 1, 2, 3, 4, 5, 6, 8], 86, [.slot 0], (.seq (.reg (.done [(0, (.cst (.bool false)))] none)) h7_6)⟩
theorem l7_ok : liftFn G1 7 400 = some l7 := by kernel_rfl

-- bazaar/bazaarlaw15.GoodsOnce
def h3_0 : HC := (.seq (.reg (.eff (.call 14) (.cons (.inp 3) .nil) (.done [(2, (.bv 0))] none))) .ret)
@[simp] theorem h3_0_wp {P : Program} {F : PF P} {Q : EX → List Value → World → Prop} {env : List Value} {w : World} : h3_0.wp F Q env w = HC.wp F (.seq (.reg (.eff (.call 14) (.cons (.inp 3) .nil) (.done [(2, (.bv 0))] none))) .ret) Q env w := rfl
def h3_1 : HC := (.reg (.chk none (.bin .add) (.cons (.inp 5) (.cons (.cst (.int .i64 1)) .nil)) (.done [(5, (.op (.bin .add) (.cons (.inp 5) (.cons (.cst (.int .i64 1)) .nil))))] none)))
@[simp] theorem h3_1_wp {P : Program} {F : PF P} {Q : EX → List Value → World → Prop} {env : List Value} {w : World} : h3_1.wp F Q env w = HC.wp F (.reg (.chk none (.bin .add) (.cons (.inp 5) (.cons (.cst (.int .i64 1)) .nil)) (.done [(5, (.op (.bin .add) (.cons (.inp 5) (.cons (.cst (.int .i64 1)) .nil))))] none))) Q env w := rfl
def h3_2 : HC := (.seq (.reg (.done [(2, (.cst (.bool false)))] none)) .ret)
@[simp] theorem h3_2_wp {P : Program} {F : PF P} {Q : EX → List Value → World → Prop} {env : List Value} {w : World} : h3_2.wp F Q env w = HC.wp F (.seq (.reg (.done [(2, (.cst (.bool false)))] none)) .ret) Q env w := rfl
def h3_3 : HC := (.br (.eff (.call 14) (.cons (.inp 3) .nil) (.chk none (.un .not) (.cons (.bv 0) .nil) (.bnd (.op (.un .not) (.cons (.bv 0) .nil)) (.chk (some ((.bv 1), false)) (.idxL 3) (.cons (.inp 1) (.cons (.inp 5) .nil)) (.ite (.bv 1) false (.eff (.ld true 3) (.cons (.ite (.bv 1) false (.op (.idxL 3) (.cons (.inp 1) (.cons (.inp 5) .nil))) (.cst (.tuple #[]))) .nil) (.eff (.call 15) (.cons (.ite (.bv 1) false (.inp 6) (.cst (.tuple #[]))) (.cons (.ite (.bv 1) false (.inp 8) (.cst (.tuple #[]))) (.cons (.bv 2) .nil))) (.chk none (.un .not) (.cons (.bv 3) .nil) (.isb none (.bv 1) (.done [] (some (.op (.un .not) (.cons (.bv 3) .nil)))))))) (.isb none (.bv 1) (.done [] (some (.cst (.bool true)))))))))) h3_2 .skip)
@[simp] theorem h3_3_wp {P : Program} {F : PF P} {Q : EX → List Value → World → Prop} {env : List Value} {w : World} : h3_3.wp F Q env w = HC.wp F (.br (.eff (.call 14) (.cons (.inp 3) .nil) (.chk none (.un .not) (.cons (.bv 0) .nil) (.bnd (.op (.un .not) (.cons (.bv 0) .nil)) (.chk (some ((.bv 1), false)) (.idxL 3) (.cons (.inp 1) (.cons (.inp 5) .nil)) (.ite (.bv 1) false (.eff (.ld true 3) (.cons (.ite (.bv 1) false (.op (.idxL 3) (.cons (.inp 1) (.cons (.inp 5) .nil))) (.cst (.tuple #[]))) .nil) (.eff (.call 15) (.cons (.ite (.bv 1) false (.inp 6) (.cst (.tuple #[]))) (.cons (.ite (.bv 1) false (.inp 8) (.cst (.tuple #[]))) (.cons (.bv 2) .nil))) (.chk none (.un .not) (.cons (.bv 3) .nil) (.isb none (.bv 1) (.done [] (some (.op (.un .not) (.cons (.bv 3) .nil)))))))) (.isb none (.bv 1) (.done [] (some (.cst (.bool true)))))))))) h3_2 .skip) Q env w := rfl
def h3_4 : HC := (.seq (.reg (.done [(2, (.cst (.bool false)))] none)) .ret)
@[simp] theorem h3_4_wp {P : Program} {F : PF P} {Q : EX → List Value → World → Prop} {env : List Value} {w : World} : h3_4.wp F Q env w = HC.wp F (.seq (.reg (.done [(2, (.cst (.bool false)))] none)) .ret) Q env w := rfl
def h3_5 : HC := (.seq (.br (.eff (.call 13) (.cons (.inp 8) (.cons (.inp 6) .nil)) (.chk none (.un .not) (.cons (.bv 0) .nil) (.done [] (some (.op (.un .not) (.cons (.bv 0) .nil)))))) h3_4 .skip) (.exit 1))
@[simp] theorem h3_5_wp {P : Program} {F : PF P} {Q : EX → List Value → World → Prop} {env : List Value} {w : World} : h3_5.wp F Q env w = HC.wp F (.seq (.br (.eff (.call 13) (.cons (.inp 8) (.cons (.inp 6) .nil)) (.chk none (.un .not) (.cons (.bv 0) .nil) (.done [] (some (.op (.un .not) (.cons (.bv 0) .nil)))))) h3_4 .skip) (.exit 1)) Q env w := rfl
def h3_6 : HC := (.seq (.br (.chk none (.bin .neq) (.cons (.inp 7) (.cons (.cst (.int .i64 0)) .nil)) (.done [] (some (.op (.bin .neq) (.cons (.inp 7) (.cons (.cst (.int .i64 0)) .nil)))))) h3_5 .skip) h3_3)
@[simp] theorem h3_6_wp {P : Program} {F : PF P} {Q : EX → List Value → World → Prop} {env : List Value} {w : World} : h3_6.wp F Q env w = HC.wp F (.seq (.br (.chk none (.bin .neq) (.cons (.inp 7) (.cons (.cst (.int .i64 0)) .nil)) (.done [] (some (.op (.bin .neq) (.cons (.inp 7) (.cons (.cst (.int .i64 0)) .nil)))))) h3_5 .skip) h3_3) Q env w := rfl
def h3_7 : HC := (.seq (.reg (.eff (.call 11) (.cons (.inp 3) .nil) (.done [(8, (.bv 0))] none))) h3_6)
@[simp] theorem h3_7_wp {P : Program} {F : PF P} {Q : EX → List Value → World → Prop} {env : List Value} {w : World} : h3_7.wp F Q env w = HC.wp F (.seq (.reg (.eff (.call 11) (.cons (.inp 3) .nil) (.done [(8, (.bv 0))] none))) h3_6) Q env w := rfl
def h3_8 : HC := (.seq (.reg (.chk none (.idxL 3) (.cons (.inp 1) (.cons (.inp 5) .nil)) (.eff (.ld true 3) (.cons (.op (.idxL 3) (.cons (.inp 1) (.cons (.inp 5) .nil))) .nil) (.eff (.call 12) (.cons (.inp 3) (.cons (.bv 0) .nil)) (.done [(7, (.bv 1))] none))))) h3_7)
@[simp] theorem h3_8_wp {P : Program} {F : PF P} {Q : EX → List Value → World → Prop} {env : List Value} {w : World} : h3_8.wp F Q env w = HC.wp F (.seq (.reg (.chk none (.idxL 3) (.cons (.inp 1) (.cons (.inp 5) .nil)) (.eff (.ld true 3) (.cons (.op (.idxL 3) (.cons (.inp 1) (.cons (.inp 5) .nil))) .nil) (.eff (.call 12) (.cons (.inp 3) (.cons (.bv 0) .nil)) (.done [(7, (.bv 1))] none))))) h3_7) Q env w := rfl
def h3_9 : HC := (.seq (.reg (.eff (.call 11) (.cons (.inp 3) .nil) (.done [(6, (.bv 0))] none))) h3_8)
@[simp] theorem h3_9_wp {P : Program} {F : PF P} {Q : EX → List Value → World → Prop} {env : List Value} {w : World} : h3_9.wp F Q env w = HC.wp F (.seq (.reg (.eff (.call 11) (.cons (.inp 3) .nil) (.done [(6, (.bv 0))] none))) h3_8) Q env w := rfl
def h3_10 : HC := (.seq (.block 1 h3_9) h3_1)
@[simp] theorem h3_10_wp {P : Program} {F : PF P} {Q : EX → List Value → World → Prop} {env : List Value} {w : World} : h3_10.wp F Q env w = HC.wp F (.seq (.block 1 h3_9) h3_1) Q env w := rfl
def h3_11 : HC := (.seq (.br (.chk none .lenL (.cons (.inp 1) .nil) (.chk none (.bin .lss) (.cons (.inp 5) (.cons (.op .lenL (.cons (.inp 1) .nil)) .nil)) (.done [] (some (.op (.bin .lss) (.cons (.inp 5) (.cons (.op .lenL (.cons (.inp 1) .nil)) .nil))))))) .skip (.exit 0)) h3_10)
@[simp] theorem h3_11_wp {P : Program} {F : PF P} {Q : EX → List Value → World → Prop} {env : List Value} {w : World} : h3_11.wp F Q env w = HC.wp F (.seq (.br (.chk none .lenL (.cons (.inp 1) .nil) (.chk none (.bin .lss) (.cons (.inp 5) (.cons (.op .lenL (.cons (.inp 1) .nil)) .nil)) (.done [] (some (.op (.bin .lss) (.cons (.inp 5) (.cons (.op .lenL (.cons (.inp 1) .nil)) .nil))))))) .skip (.exit 0)) h3_10) Q env w := rfl
def h3_12 : HC := (.loop h3_11)
@[simp] theorem h3_12_wp {P : Program} {F : PF P} {Q : EX → List Value → World → Prop} {env : List Value} {w : World} : h3_12.wp F Q env w = HC.wp F (.loop h3_11) Q env w := rfl
def h3_13 : HC := (.seq (.block 0 h3_12) h3_0)
@[simp] theorem h3_13_wp {P : Program} {F : PF P} {Q : EX → List Value → World → Prop} {env : List Value} {w : World} : h3_13.wp F Q env w = HC.wp F (.seq (.block 0 h3_12) h3_0) Q env w := rfl
def h3_14 : HC := (.seq (.reg (.done [(5, (.cst (.int .i64 0)))] none)) h3_13)
@[simp] theorem h3_14_wp {P : Program} {F : PF P} {Q : EX → List Value → World → Prop} {env : List Value} {w : World} : h3_14.wp F Q env w = HC.wp F (.seq (.reg (.done [(5, (.cst (.int .i64 0)))] none)) h3_13) Q env w := rfl
def h3_15 : HC := (.seq (.reg (.done [(2, (.cst (.bool false)))] none)) .ret)
@[simp] theorem h3_15_wp {P : Program} {F : PF P} {Q : EX → List Value → World → Prop} {env : List Value} {w : World} : h3_15.wp F Q env w = HC.wp F (.seq (.reg (.done [(2, (.cst (.bool false)))] none)) .ret) Q env w := rfl
def h3_16 : HC := (.seq (.br (.chk none (.cal 10) (.cons (.inp 4) .nil) (.chk none (.bin .neq) (.cons (.op (.cal 10) (.cons (.inp 4) .nil)) (.cons (.cst (.int .i64 0)) .nil)) (.done [] (some (.op (.bin .neq) (.cons (.op (.cal 10) (.cons (.inp 4) .nil)) (.cons (.cst (.int .i64 0)) .nil))))))) h3_15 .skip) h3_14)
@[simp] theorem h3_16_wp {P : Program} {F : PF P} {Q : EX → List Value → World → Prop} {env : List Value} {w : World} : h3_16.wp F Q env w = HC.wp F (.seq (.br (.chk none (.cal 10) (.cons (.inp 4) .nil) (.chk none (.bin .neq) (.cons (.op (.cal 10) (.cons (.inp 4) .nil)) (.cons (.cst (.int .i64 0)) .nil)) (.done [] (some (.op (.bin .neq) (.cons (.op (.cal 10) (.cons (.inp 4) .nil)) (.cons (.cst (.int .i64 0)) .nil))))))) h3_15 .skip) h3_14) Q env w := rfl
def h3_17 : HC := (.seq (.reg (.eff (.call 9) (.cons (.inp 0) (.cons (.cst (.int .i64 513)) .nil)) (.eff (.call 8) (.cons (.bv 0) .nil) (.chk none (.ext 0) (.cons (.bv 1) .nil) (.chk none (.ext 1) (.cons (.bv 1) .nil) (.done [(3, (.op (.ext 0) (.cons (.bv 1) .nil))), (4, (.op (.ext 1) (.cons (.bv 1) .nil)))] none)))))) h3_16)
@[simp] theorem h3_17_wp {P : Program} {F : PF P} {Q : EX → List Value → World → Prop} {env : List Value} {w : World} : h3_17.wp F Q env w = HC.wp F (.seq (.reg (.eff (.call 9) (.cons (.inp 0) (.cons (.cst (.int .i64 513)) .nil)) (.eff (.call 8) (.cons (.bv 0) .nil) (.chk none (.ext 0) (.cons (.bv 1) .nil) (.chk none (.ext 1) (.cons (.bv 1) .nil) (.done [(3, (.op (.ext 0) (.cons (.bv 1) .nil))), (4, (.op (.ext 1) (.cons (.bv 1) .nil)))] none)))))) h3_16) Q env w := rfl
def h3_18 : HC := (.seq (.reg (.done [(2, (.cst (.bool false)))] none)) .ret)
@[simp] theorem h3_18_wp {P : Program} {F : PF P} {Q : EX → List Value → World → Prop} {env : List Value} {w : World} : h3_18.wp F Q env w = HC.wp F (.seq (.reg (.done [(2, (.cst (.bool false)))] none)) .ret) Q env w := rfl
def h3_19 : HC := (.seq (.br (.eff (.call 7) .nil (.chk none (.un .not) (.cons (.bv 0) .nil) (.done [] (some (.op (.un .not) (.cons (.bv 0) .nil)))))) h3_18 .skip) h3_17)
@[simp] theorem h3_19_wp {P : Program} {F : PF P} {Q : EX → List Value → World → Prop} {env : List Value} {w : World} : h3_19.wp F Q env w = HC.wp F (.seq (.br (.eff (.call 7) .nil (.chk none (.un .not) (.cons (.bv 0) .nil) (.done [] (some (.op (.un .not) (.cons (.bv 0) .nil)))))) h3_18 .skip) h3_17) Q env w := rfl
def l3 : Lifted := ⟨[0, 1, 4, 5, 6, 7, 8, 9, 10], 59, [.slot 2], (.seq (.reg (.done [(2, (.cst (.bool false)))] none)) h3_19)⟩
theorem l3_ok : liftFn G1 3 400 = some l3 := by kernel_rfl


theorem known_spec (w0 w : World) (A : Asn) (s : St w0 A w) : CallW Try.prog 7 [] (fun r w' => r = .bool true ∧ St w0 A w') w := by
  refine callW_of_lift l7_ok (by simp [l7]) ?_
  simp [l7]
  refine eff_call ((New_spec 2 w0 w A s).mono ?_)
  intro r w1 h1
  rw [if_pos (by omega)] at h1
  obtain ⟨p, rfl, s1⟩ := h1
  simp
  refine eff_call ((Make_spec p 2 [] 3 0 w0 w1 A (by omega) s1).mono ?_)
  have e1 : makeF 2 [] 3 0 = (1, 0, [⟨1, 3, 0, 0⟩]) := by decide +kernel
  rw [e1]
  rintro r w2 ⟨rfl, s2⟩
  simp
  refine eff_call ((Make_spec p 2 _ 1 5 w0 w2 A (by omega) s2).mono ?_)
  have e2 : makeF 2 [⟨1, 3, 0, 0⟩] 1 5 = (2, 0, [⟨1, 3, 0, 0⟩, ⟨2, 1, 5, 0⟩]) := by decide +kernel
  simp only [e2]
  rintro r w3 ⟨rfl, s3⟩
  simp
  refine eff_call ((Make_spec p 2 _ 1 5 w0 w3 A (by omega) s3).mono ?_)
  have e3 : makeF 2 [⟨1, 3, 0, 0⟩, ⟨2, 1, 5, 0⟩] 1 5 = (0, 150, [⟨1, 3, 0, 0⟩, ⟨2, 1, 5, 0⟩]) := by decide +kernel
  simp only [e3]
  rintro r w4 ⟨rfl, s4⟩
  simp
  refine eff_call ((Hold_spec p 2 _ 1 7 w0 w4 A (by simp) s4).mono ?_)
  have e4 : holdF [⟨1, 3, 0, 0⟩, ⟨2, 1, 5, 0⟩] 1 7 = (0, [⟨1, 3, -1, 7⟩, ⟨2, 1, 5, 0⟩]) := by decide +kernel
  simp only [e4]
  rintro r w5 ⟨rfl, s5⟩
  simp
  refine eff_call ((In_spec p 2 _ 7 w0 w5 A (by simp) s5).mono ?_)
  have e5 : inF [⟨1, 3, -1, 7⟩, ⟨2, 1, 5, 0⟩] 7 = [1] := by decide +kernel
  simp only [e5]
  intro v1 w6 s6
  simp
  refine eff_bsl1 s6 rfl ?_
  intro c1 w7 s7
  simp
  have t7 := St.own_mk (n := 1) (cap := 1) (size := 1) (xs := ints [1]) s7 (Nat.le_refl 1) (by decide) rfl rfl
  refine eff_call ((ints_spec [1] [1] v1 _ w0 w7 _ (by simp) ((row_own t7.swap).mono fun w s => s.swap) (row_own t7) t7).mono ?_)
  rintro r w8 ⟨rfl, s8⟩
  simp
  have u8 := s8.drop.drop
  refine eff_call ((Of_spec p 2 _ 5 w0 w8 A (by simp) u8).mono ?_)
  have e6 : ofF [⟨1, 3, -1, 7⟩, ⟨2, 1, 5, 0⟩] 5 = [2] := by decide +kernel
  simp only [e6]
  intro v2 w9 s9
  simp
  refine eff_bsl1 s9 rfl ?_
  intro c2 w10 s10
  simp
  have t10 := St.own_mk (n := 1) (cap := 1) (size := 1) (xs := ints [2]) s10 (Nat.le_refl 1) (by decide) rfl rfl
  refine eff_call ((ints_spec [2] [2] v2 _ w0 w10 _ (by simp) ((row_own t10.swap).mono fun w s => s.swap) (row_own t10) t10).mono ?_)
  rintro r w11 ⟨rfl, s11⟩
  simp
  have u11 := s11.drop.drop
  refine eff_call ((Free_spec p 2 _ 1 5 w0 w11 A (by simp) u11).mono ?_)
  have e7 : freeF [⟨1, 3, -1, 7⟩, ⟨2, 1, 5, 0⟩] 1 5 = (0, [⟨1, 3, 5, 0⟩, ⟨2, 1, 5, 0⟩]) := by decide +kernel
  simp only [e7]
  rintro r w12 ⟨rfl, s12⟩
  simp
  refine eff_call ((Of_spec p 2 _ 5 w0 w12 A (by simp) s12).mono ?_)
  have e8 : ofF [⟨1, 3, 5, 0⟩, ⟨2, 1, 5, 0⟩] 5 = [1, 2] := by decide +kernel
  simp only [e8]
  intro v3 w13 s13
  simp
  refine eff_bsl2 s13 rfl rfl ?_
  intro c3 w14 s14
  simp
  have t14 := St.own_mk (n := 2) (cap := 2) (size := 1) (xs := ints [1, 2]) s14 (Nat.le_refl 2) (by decide) rfl rfl
  refine eff_call ((ints_spec [1, 2] [1, 2] v3 _ w0 w14 _ (by simp) ((row_own t14.swap).mono fun w s => s.swap) (row_own t14) t14).mono ?_)
  rintro r w15 ⟨rfl, s15⟩
  simp
  exact s15.drop.drop.drop
def acs (l : List Ac) : List Value := l.flatMap Ac.cs
theorem ac_len (x : Ac) : x.cs.length = 3 := rfl
theorem acs_at {l : List Ac} {i : Nat} (h : i < l.length) : ∀ j u, (l[i].cs)[j]? = some u → (acs l)[i * 3 + j]? = some u := by
  intro j u hu
  have hj : j < 3 := (List.getElem?_eq_some_iff.1 hu).1
  rw [← hu]
  exact flat_get Ac.cs 3 ac_len l i j h hj
theorem goodsOnce_walk (lim : Int) (acts : List Ac) (v : Value) (w0 w : World) (A : Asn) (hn : -9223372036854775808 ≤ lim ∧ lim ≤ 9223372036854775807) (hl : acts.length ≤ 1048576) (hrow : Row w0 A v acts.length 3 (acs acts)) (s : St w0 A w) :
    CallW Try.prog 3 [.int .i64 lim, v] (fun r w' => r = .bool true ∧ St w0 A w') w := by
  obtain ⟨a, cap, rfl⟩ := hrow.val
  refine callW_of_lift l3_ok (by simp [l3]) ?_
  simp [l3]
  refine eff_call ((known_spec w0 w A s).mono ?_)
  rintro r w1 ⟨rfl, s1⟩
  simp
  refine eff_call ((place_spec lim 513 w1 (by omega) (by omega)).mono ?_)
  rintro r w2 ⟨rfl, rfl⟩
  simp
  have hp := place_bd lim 513 (by omega)
  refine eff_call ((New_spec (placeF lim 513) w0 w2 A s1).mono ?_)
  intro r w3 h3
  rw [if_pos (by omega)] at h3
  obtain ⟨p, rfl, s3⟩ := h3
  simp
  refine loopI (fun env w' => ∃ (i : Nat) (its : List It) (o6 o7 o8 : Value), env = [.int .i64 lim, .slice a acts.length cap, .bool false, .pointer (some ⟨p, 0, none⟩), .int .i64 0, .int .i64 i, o6, o7, o8] ∧ i ≤ acts.length ∧ GI (placeF lim 513) its ∧
      St w0 (A * gds p (placeF lim 513) its) w')
    (fun env _ => acts.length - slotN env 5) ⟨0, [], _, _, _, rfl, by omega, gi_nil (by omega) (by omega), s3⟩ ?_
  rintro LQ env w' ⟨i, its, o6, o7, o8, rfl, hi, hg, s'⟩ hN hE hR
  have hlen := hg.len
  have hlim := hg.lim
  simp
  refine cndI (fun h => ?_) (fun h => ?_)
  · simp at h
    obtain ⟨g, o, cap', hv, hc⟩ := hrow.at (by omega)
    cases hv
    have hg2 := gi_act hg acts[i]
    have hlen2 := hg2.len
    simp
    refine eff_call ((Rows_spec p _ its w0 w' A (by omega) s').mono ?_)
    intro vw w4 s4
    simp [h]
    refine eff_ldcs (vs := acts[i].cs) (fun j u hu => by rw [Nat.add_assoc]; exact hc _ (s4.drop.drop) _ _ (acs_at h j u hu)) rfl ?_
    simp
    refine eff_call ((do_spec p _ its acts[i] w0 w4 _ (by omega) hlim s4.swap).mono ?_)
    rintro r w5 ⟨rfl, s5⟩
    simp
    refine eff_call ((Rows_spec p _ _ w0 w5 _ (by omega) s5).mono ?_)
    intro vn w6 s6
    simp
    have r1 : Row w0 (A * own 44 4 vw its.length (flat its) * gds p (placeF lim 513) (actF (placeF lim 513) its acts[i]).2 * own 44 4 vn (actF (placeF lim 513) its acts[i]).2.length (flat (actF (placeF lim 513) its acts[i]).2)) vw its.length 4 (flat its) :=
      (row_own (s6.drop.swap)).mono fun w s => s.drop.swap
    have r2 := row_own s6
    refine cndI (fun h2 => ?_) (fun h2 => ?_)
    · simp at h2
      have hno := act_no h2
      simp
      refine eff_call ((items_spec _ its vn vw w0 w6 _ (by omega) r2 r1 s6).mono ?_)
      rintro r w7 ⟨rfl, s7⟩
      rw [hno] at s7 ⊢
      simp
      try simp (disch := omega) only [wrap64]
      refine hN _ _ ⟨i + 1, its, _, _, _, by simp; exact ⟨rfl, rfl, rfl⟩, by omega, hg, ?_⟩ (by simp [slotN]; omega)
      exact s7.drop.swap.drop
    · simp at h2
      have hmv := act_moved hg h2
      simp
      refine eff_call ((once_spec p _ _ w0 w6 (A * own 44 4 vw its.length (flat its) * own 44 4 vn (actF (placeF lim 513) its acts[i]).2.length (flat (actF (placeF lim 513) its acts[i]).2)) hg2 s6.swap).mono ?_)
      rintro r w7 ⟨rfl, s7⟩
      simp [h]
      refine eff_ldcs (vs := acts[i].cs) (fun j u hu => by rw [Nat.add_assoc]; exact hc _ (s7.drop.drop.drop) _ _ (acs_at h j u hu)) rfl ?_
      simp
      refine eff_call ((moved_spec its _ acts[i] vw vn w0 w7 _ (by omega) (by omega) (r1.mono fun w s => s.swap) (r2.mono fun w s => s.swap) s7).mono ?_)
      rintro r w8 ⟨rfl, s8⟩
      simp [hmv]
      try simp (disch := omega) only [wrap64]
      refine hN _ _ ⟨i + 1, _, _, _, _, by simp; exact ⟨rfl, rfl, rfl⟩, by omega, hg2, ?_⟩ (by simp [slotN]; omega)
      exact St.cut (own 44 4 vw its.length (flat its) * own 44 4 vn (actF (placeF lim 513) its acts[i]).2.length (flat (actF (placeF lim 513) its acts[i]).2)) s8 (by ac_rfl)
  · simp at h
    simp
    refine hE _ _ _ ?_
    simp
    refine eff_call ((once_spec p _ its w0 w' A hg s').mono ?_)
    rintro r w4 ⟨rfl, s4⟩
    simp
    exact s4.drop
theorem acs_rows : ∀ rows : List (List Int), (∀ r ∈ rows, r.length = 3) → ∃ xs : List Ac, xs.length = rows.length ∧ acs xs = rows.flatMap rowV
  | [], _ => ⟨[], rfl, rfl⟩
  | r :: rows, h => by
    obtain ⟨xs, h1, h2⟩ := acs_rows rows fun x hx => h x (List.mem_cons_of_mem _ hx)
    have hr := h r (List.mem_cons_self ..)
    match r, hr with
    | [a, b, c], _ => exact ⟨⟨a, b, c⟩ :: xs, by simp [h1], by rw [List.flatMap_cons, ← h2]; rfl⟩
end Go.HL.Gd
