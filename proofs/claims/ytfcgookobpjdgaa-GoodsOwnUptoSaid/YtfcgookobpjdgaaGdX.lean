/-
  Goods: the desk in memory, its load. Conditions: so many rows at most.
-/
import Derived.Test.YtfcgookobpjdgaaGdW
namespace Go.HL.Gd
open Go.HL Go.Proofs
set_option maxRecDepth 4000
set_option linter.unusedSimpArgs false
set_option linter.unusedVariables false
theorem scan_zero : ∀ (l : List It) (i : Nat), scanE i l = 0 → ∀ j (h : j < l.length), itemE (i + j) l[j] = 0
  | [], _, _, j, h => by simp at h
  | x :: l, i, hs, j, h => by
    have hx : itemE i x = 0 := by
      by_cases e : itemE i x = 0
      · exact e
      · simp only [scanE, if_neg e] at hs
        exact hs
    cases j with
    | zero => exact hx
    | succ j =>
      simp only [scanE, if_pos hx] at hs
      have := scan_zero l (i + 1) hs j (by simpa using h)
      have e : i + 1 + j = i + (j + 1) := by omega
      rw [e] at this
      exact this
theorem item_zero {i : Nat} {x : It} (h : itemE i x = 0) : x.num = (i : Int) + 1 ∧ (0 ≤ x.kind ∧ x.kind < 16) ∧ ((x.con = 0 ∧ 0 ≤ x.acc ∧ x.acc < 64) ∨ (0 < x.con ∧ x.acc = -1)) := by
  unfold itemE at h
  split at h
  · omega
  rename_i h1
  split at h
  · omega
  rename_i h2
  split at h
  · omega
  rename_i h3
  refine ⟨by omega, by simpa [kindF] using h2, ?_⟩
  simp only [not_or, not_and, Bool.not_eq_false] at h3
  by_cases hc : 0 < x.con
  · have := h3.2.1 hc
    exact .inr ⟨hc, by simpa using this⟩
  · have := (acc_iff _).1 (h3.2.2 hc)
    exact .inl ⟨by omega, this⟩
theorem load_gi {lim : Int} {rows : List It} (h : loadE lim rows = 0) : GI lim rows := by
  unfold loadE at h
  split at h
  · rename_i h1
    split at h
    · omega
    · rename_i h2
      have key := scan_zero rows 0 h
      have each : ∀ x ∈ rows, (0 ≤ x.kind ∧ x.kind < 16) ∧ ((x.con = 0 ∧ 0 ≤ x.acc ∧ x.acc < 64) ∨ (0 < x.con ∧ x.acc = -1)) := fun x hx => by
        obtain ⟨j, hj, rfl⟩ := List.getElem_of_mem hx
        exact (item_zero (key j hj)).2
      exact ⟨⟨fun i hi => by have := (item_zero (key i hi)).1; simpa using this, fun x hx => (each x hx).1⟩, by omega, h1.2, fun x hx => (each x hx).2⟩
  · omega
abbrev Desk := Nat → Slot
def upd (T : Desk) (k : Nat) (t : Slot) : Desk := fun j => if j = k then t else T j
def restA (T : Desk) : Nat → Asn
  | 0 => slotA (T 1) * slotA (T 2)
  | 1 => slotA (T 0) * slotA (T 2)
  | 2 => slotA (T 0) * slotA (T 1)
  | _ => slotA (T 0) * slotA (T 1) * slotA (T 2)
def deskC (T : Desk) : Array Value := #[gp (T 0), gp (T 1), gp (T 2), gp (T 3), mp (T 0), mp (T 1), mp (T 2), mp (T 3)]
def deskA (dd : Nat) (T : Desk) : Asn := pt dd (.cells (deskC T) 58 (0, 0)) * (slotA (T 0) * slotA (T 1) * slotA (T 2))
def deskOK (T : Desk) : Prop := T 3 = none ∧ ∀ k, slotOK (T k)
theorem desk_at (dd : Nat) (T : Desk) (hT : T 3 = none) {k : Nat} (hk : k < 4) : deskA dd T = pt dd (.cells (deskC T) 58 (0, 0)) * restA T k * slotA (T k) := by
  unfold deskA
  have : k = 0 ∨ k = 1 ∨ k = 2 ∨ k = 3 := by omega
  rcases this with rfl | rfl | rfl | rfl
  · simp only [restA]; ac_rfl
  · simp only [restA]; ac_rfl
  · simp only [restA]; ac_rfl
  · simp only [restA]
    rw [hT, slot_none]
theorem rest_upd (T : Desk) (k : Nat) (t : Slot) (hk : k < 4) : restA (upd T k t) k = if k = 3 then restA T 3 else restA T k := by
  have : k = 0 ∨ k = 1 ∨ k = 2 ∨ k = 3 := by omega
  rcases this with rfl | rfl | rfl | rfl <;> simp [restA, upd]
theorem desk_g {T : Desk} {k : Nat} (hk : k < 4) : (deskC T)[k]? = some (gp (T k)) ∧ (deskC T)[4 + k]? = some (mp (T k)) := by
  have : k = 0 ∨ k = 1 ∨ k = 2 ∨ k = 3 := by omega
  rcases this with rfl | rfl | rfl | rfl <;> exact ⟨rfl, rfl⟩
theorem desk_set {T : Desk} {k : Nat} (hk : k < 4) (t : Slot) : ((deskC T).setIfInBounds k (gp t)).setIfInBounds (4 + k) (mp t) = deskC (upd T k t) := by
  have : k = 0 ∨ k = 1 ∨ k = 2 ∨ k = 3 := by omega
  rcases this with rfl | rfl | rfl | rfl <;> simp [deskC, upd]
theorem gp_one (t : Slot) : (gp t).oneCell' = true := by cases t <;> rfl
theorem mp_one (t : Slot) : (mp t).oneCell' = true := by cases t <;> rfl
theorem upd_ok {T : Desk} (hT : deskOK T) {k : Nat} (hk : k < 3) {t : Slot} (ht : slotOK t) : deskOK (upd T k t) := by
  refine ⟨?_, fun j => ?_⟩
  · unfold upd; rw [if_neg (by omega)]; exact hT.1
  · unfold upd
    split
    · exact ht
    · exact hT.2 j
-- (*bazaar/bazaarlaw15.desk).load
def h45_0 : HC := (.seq (.reg (.done [(4, (.cst (.bool true)))] none)) .ret)
@[simp] theorem h45_0_wp {P : Program} {F : PF P} {Q : EX → List Value → World → Prop} {env : List Value} {w : World} : h45_0.wp F Q env w = HC.wp F (.seq (.reg (.done [(4, (.cst (.bool true)))] none)) .ret) Q env w := rfl
def h45_1 : HC := (.regq (some 2) (.chk none .chkp (.cons (.inp 0) .nil) (.chk none (.fld 0) (.cons (.op .chkp (.cons (.inp 0) .nil)) .nil) (.chk none (.idxP 4 1) (.cons (.op (.fld 0) (.cons (.op .chkp (.cons (.inp 0) .nil)) .nil)) (.cons (.inp 1) .nil)) (.eff (.st 1) (.cons (.op (.idxP 4 1) (.cons (.op (.fld 0) (.cons (.op .chkp (.cons (.inp 0) .nil)) .nil)) (.cons (.inp 1) .nil))) (.cons (.inp 6) .nil)) (.chk none .chkp (.cons (.inp 0) .nil) (.chk none (.fld 4) (.cons (.op .chkp (.cons (.inp 0) .nil)) .nil) (.chk none (.idxP 4 1) (.cons (.op (.fld 4) (.cons (.op .chkp (.cons (.inp 0) .nil)) .nil)) (.cons (.inp 1) .nil)) (.eff (.st 1) (.cons (.op (.idxP 4 1) (.cons (.op (.fld 4) (.cons (.op .chkp (.cons (.inp 0) .nil)) .nil)) (.cons (.inp 1) .nil))) (.cons (.inp 8) .nil)) (.done [] none))))))))))
@[simp] theorem h45_1_wp {P : Program} {F : PF P} {Q : EX → List Value → World → Prop} {env : List Value} {w : World} : h45_1.wp F Q env w = HC.wp F (.regq (some 2) (.chk none .chkp (.cons (.inp 0) .nil) (.chk none (.fld 0) (.cons (.op .chkp (.cons (.inp 0) .nil)) .nil) (.chk none (.idxP 4 1) (.cons (.op (.fld 0) (.cons (.op .chkp (.cons (.inp 0) .nil)) .nil)) (.cons (.inp 1) .nil)) (.eff (.st 1) (.cons (.op (.idxP 4 1) (.cons (.op (.fld 0) (.cons (.op .chkp (.cons (.inp 0) .nil)) .nil)) (.cons (.inp 1) .nil))) (.cons (.inp 6) .nil)) (.chk none .chkp (.cons (.inp 0) .nil) (.chk none (.fld 4) (.cons (.op .chkp (.cons (.inp 0) .nil)) .nil) (.chk none (.idxP 4 1) (.cons (.op (.fld 4) (.cons (.op .chkp (.cons (.inp 0) .nil)) .nil)) (.cons (.inp 1) .nil)) (.eff (.st 1) (.cons (.op (.idxP 4 1) (.cons (.op (.fld 4) (.cons (.op .chkp (.cons (.inp 0) .nil)) .nil)) (.cons (.inp 1) .nil))) (.cons (.inp 8) .nil)) (.done [] none)))))))))) Q env w := rfl
def h45_2 : HC := (.seq (.br (.chk none (.eqNil true (.pointer 71) (.pointer none)) (.cons (.inp 6) .nil) (.bnd (.op (.eqNil true (.pointer 71) (.pointer none)) (.cons (.inp 6) .nil)) (.chk (some ((.bv 0), true)) (.bin .lss) (.cons (.inp 1) (.cons (.cst (.int .i64 3)) .nil)) (.isb none (.bv 0) (.done [] (some (.ite (.bv 0) true (.op (.bin .lss) (.cons (.inp 1) (.cons (.cst (.int .i64 3)) .nil))) (.cst (.bool false))))))))) h45_1 .skip) h45_0)
@[simp] theorem h45_2_wp {P : Program} {F : PF P} {Q : EX → List Value → World → Prop} {env : List Value} {w : World} : h45_2.wp F Q env w = HC.wp F (.seq (.br (.chk none (.eqNil true (.pointer 71) (.pointer none)) (.cons (.inp 6) .nil) (.bnd (.op (.eqNil true (.pointer 71) (.pointer none)) (.cons (.inp 6) .nil)) (.chk (some ((.bv 0), true)) (.bin .lss) (.cons (.inp 1) (.cons (.cst (.int .i64 3)) .nil)) (.isb none (.bv 0) (.done [] (some (.ite (.bv 0) true (.op (.bin .lss) (.cons (.inp 1) (.cons (.cst (.int .i64 3)) .nil))) (.cst (.bool false))))))))) h45_1 .skip) h45_0) Q env w := rfl
def h45_3 : HC := (.reg (.chk none (.bin .add) (.cons (.inp 10) (.cons (.cst (.int .i64 1)) .nil)) (.done [(10, (.op (.bin .add) (.cons (.inp 10) (.cons (.cst (.int .i64 1)) .nil))))] none)))
@[simp] theorem h45_3_wp {P : Program} {F : PF P} {Q : EX → List Value → World → Prop} {env : List Value} {w : World} : h45_3.wp F Q env w = HC.wp F (.reg (.chk none (.bin .add) (.cons (.inp 10) (.cons (.cst (.int .i64 1)) .nil)) (.done [(10, (.op (.bin .add) (.cons (.inp 10) (.cons (.cst (.int .i64 1)) .nil))))] none))) Q env w := rfl
def h45_4 : HC := (.reg (.chk none (.build #[(.int .i64 0), (.int .i64 0), (.int .i64 0), (.int .i64 0)] [(0, 1), (1, 1), (2, 1), (3, 1)] [0, 1, 2]) (.cons (.cst (.int .i64 5)) (.cons (.cst (.int .i64 5)) (.cons (.cst (.int .i64 5)) .nil))) (.chk none (.idxL 4) (.cons (.inp 5) (.cons (.inp 10) .nil)) (.eff (.st 4) (.cons (.op (.idxL 4) (.cons (.inp 5) (.cons (.inp 10) .nil))) (.cons (.op (.build #[(.int .i64 0), (.int .i64 0), (.int .i64 0), (.int .i64 0)] [(0, 1), (1, 1), (2, 1), (3, 1)] [0, 1, 2]) (.cons (.cst (.int .i64 5)) (.cons (.cst (.int .i64 5)) (.cons (.cst (.int .i64 5)) .nil)))) .nil)) (.done [] none)))))
@[simp] theorem h45_4_wp {P : Program} {F : PF P} {Q : EX → List Value → World → Prop} {env : List Value} {w : World} : h45_4.wp F Q env w = HC.wp F (.reg (.chk none (.build #[(.int .i64 0), (.int .i64 0), (.int .i64 0), (.int .i64 0)] [(0, 1), (1, 1), (2, 1), (3, 1)] [0, 1, 2]) (.cons (.cst (.int .i64 5)) (.cons (.cst (.int .i64 5)) (.cons (.cst (.int .i64 5)) .nil))) (.chk none (.idxL 4) (.cons (.inp 5) (.cons (.inp 10) .nil)) (.eff (.st 4) (.cons (.op (.idxL 4) (.cons (.inp 5) (.cons (.inp 10) .nil))) (.cons (.op (.build #[(.int .i64 0), (.int .i64 0), (.int .i64 0), (.int .i64 0)] [(0, 1), (1, 1), (2, 1), (3, 1)] [0, 1, 2]) (.cons (.cst (.int .i64 5)) (.cons (.cst (.int .i64 5)) (.cons (.cst (.int .i64 5)) .nil)))) .nil)) (.done [] none))))) Q env w := rfl
def h45_5 : HC := (.seq (.block 1 h45_4) h45_3)
@[simp] theorem h45_5_wp {P : Program} {F : PF P} {Q : EX → List Value → World → Prop} {env : List Value} {w : World} : h45_5.wp F Q env w = HC.wp F (.seq (.block 1 h45_4) h45_3) Q env w := rfl
def h45_6 : HC := (.seq (.br (.chk none .lenL (.cons (.inp 5) .nil) (.chk none (.bin .lss) (.cons (.inp 10) (.cons (.op .lenL (.cons (.inp 5) .nil)) .nil)) (.done [] (some (.op (.bin .lss) (.cons (.inp 10) (.cons (.op .lenL (.cons (.inp 5) .nil)) .nil))))))) .skip (.exit 0)) h45_5)
@[simp] theorem h45_6_wp {P : Program} {F : PF P} {Q : EX → List Value → World → Prop} {env : List Value} {w : World} : h45_6.wp F Q env w = HC.wp F (.seq (.br (.chk none .lenL (.cons (.inp 5) .nil) (.chk none (.bin .lss) (.cons (.inp 10) (.cons (.op .lenL (.cons (.inp 5) .nil)) .nil)) (.done [] (some (.op (.bin .lss) (.cons (.inp 10) (.cons (.op .lenL (.cons (.inp 5) .nil)) .nil))))))) .skip (.exit 0)) h45_5) Q env w := rfl
def h45_7 : HC := (.loop h45_6)
@[simp] theorem h45_7_wp {P : Program} {F : PF P} {Q : EX → List Value → World → Prop} {env : List Value} {w : World} : h45_7.wp F Q env w = HC.wp F (.loop h45_6) Q env w := rfl
def h45_8 : HC := (.seq (.block 0 h45_7) h45_2)
@[simp] theorem h45_8_wp {P : Program} {F : PF P} {Q : EX → List Value → World → Prop} {env : List Value} {w : World} : h45_8.wp F Q env w = HC.wp F (.seq (.block 0 h45_7) h45_2) Q env w := rfl
def h45_9 : HC := (.seq (.reg (.done [(10, (.cst (.int .i64 0)))] none)) h45_8)
@[simp] theorem h45_9_wp {P : Program} {F : PF P} {Q : EX → List Value → World → Prop} {env : List Value} {w : World} : h45_9.wp F Q env w = HC.wp F (.seq (.reg (.done [(10, (.cst (.int .i64 0)))] none)) h45_8) Q env w := rfl
def h45_10 : HC := (.seq (.reg (.done [(4, (.cst (.bool false)))] none)) .ret)
@[simp] theorem h45_10_wp {P : Program} {F : PF P} {Q : EX → List Value → World → Prop} {env : List Value} {w : World} : h45_10.wp F Q env w = HC.wp F (.seq (.reg (.done [(4, (.cst (.bool false)))] none)) .ret) Q env w := rfl
def h45_11 : HC := (.seq (.br (.chk none (.cal 10) (.cons (.inp 7) .nil) (.chk none (.bin .neq) (.cons (.op (.cal 10) (.cons (.inp 7) .nil)) (.cons (.inp 9) .nil)) (.bnd (.op (.bin .neq) (.cons (.op (.cal 10) (.cons (.inp 7) .nil)) (.cons (.inp 9) .nil))) (.chk (some ((.bv 0), false)) (.eqNil false (.pointer 71) (.pointer none)) (.cons (.inp 6) .nil) (.chk (some ((.bv 0), false)) (.eqNil false (.pointer 84) (.pointer none)) (.cons (.inp 8) .nil) (.chk (some ((.bv 0), false)) (.eqB true) (.cons (.op (.eqNil false (.pointer 71) (.pointer none)) (.cons (.inp 6) .nil)) (.cons (.op (.eqNil false (.pointer 84) (.pointer none)) (.cons (.inp 8) .nil)) .nil)) (.isb none (.bv 0) (.bnd (.ite (.bv 0) true (.cst (.bool true)) (.op (.eqB true) (.cons (.op (.eqNil false (.pointer 71) (.pointer none)) (.cons (.inp 6) .nil)) (.cons (.op (.eqNil false (.pointer 84) (.pointer none)) (.cons (.inp 8) .nil)) .nil)))) (.chk (some ((.bv 1), false)) .lenL (.cons (.inp 3) .nil) (.chk (some ((.bv 1), false)) (.slL 4 false true false) (.cons (.inp 5) (.cons (.op .lenL (.cons (.inp 3) .nil)) .nil)) (.ite (.bv 1) false (.eff (.call 13) (.cons (.ite (.bv 1) false (.op (.slL 4 false true false) (.cons (.inp 5) (.cons (.op .lenL (.cons (.inp 3) .nil)) .nil))) (.cst (.tuple #[]))) (.cons (.ite (.bv 1) false (.inp 3) (.cst (.tuple #[]))) .nil)) (.chk none (.un .not) (.cons (.bv 2) .nil) (.isb none (.bv 1) (.bnd (.op (.un .not) (.cons (.bv 2) .nil)) (.chk (some ((.bv 3), false)) .lenL (.cons (.inp 3) .nil) (.chk (some ((.bv 3), false)) (.idxL 4) (.cons (.inp 5) (.cons (.op .lenL (.cons (.inp 3) .nil)) .nil)) (.chk (some ((.bv 3), false)) (.fld 0) (.cons (.op (.idxL 4) (.cons (.inp 5) (.cons (.op .lenL (.cons (.inp 3) .nil)) .nil))) .nil) (.ite (.bv 3) false (.eff (.ld false 1) (.cons (.ite (.bv 3) false (.op (.fld 0) (.cons (.op (.idxL 4) (.cons (.inp 5) (.cons (.op .lenL (.cons (.inp 3) .nil)) .nil))) .nil)) (.cst (.tuple #[]))) .nil) (.chk none (.bin .neq) (.cons (.bv 4) (.cons (.cst (.int .i64 77)) .nil)) (.isb none (.bv 3) (.done [] (some (.op (.bin .neq) (.cons (.bv 4) (.cons (.cst (.int .i64 77)) .nil)))))))) (.isb none (.bv 3) (.done [] (some (.cst (.bool true))))))))))))) (.isb none (.bv 1) (.isb none (.cst (.bool true)) (.done [] (some (.cst (.bool true))))))))))))))))) h45_10 .skip) h45_9)
@[simp] theorem h45_11_wp {P : Program} {F : PF P} {Q : EX → List Value → World → Prop} {env : List Value} {w : World} : h45_11.wp F Q env w = HC.wp F (.seq (.br (.chk none (.cal 10) (.cons (.inp 7) .nil) (.chk none (.bin .neq) (.cons (.op (.cal 10) (.cons (.inp 7) .nil)) (.cons (.inp 9) .nil)) (.bnd (.op (.bin .neq) (.cons (.op (.cal 10) (.cons (.inp 7) .nil)) (.cons (.inp 9) .nil))) (.chk (some ((.bv 0), false)) (.eqNil false (.pointer 71) (.pointer none)) (.cons (.inp 6) .nil) (.chk (some ((.bv 0), false)) (.eqNil false (.pointer 84) (.pointer none)) (.cons (.inp 8) .nil) (.chk (some ((.bv 0), false)) (.eqB true) (.cons (.op (.eqNil false (.pointer 71) (.pointer none)) (.cons (.inp 6) .nil)) (.cons (.op (.eqNil false (.pointer 84) (.pointer none)) (.cons (.inp 8) .nil)) .nil)) (.isb none (.bv 0) (.bnd (.ite (.bv 0) true (.cst (.bool true)) (.op (.eqB true) (.cons (.op (.eqNil false (.pointer 71) (.pointer none)) (.cons (.inp 6) .nil)) (.cons (.op (.eqNil false (.pointer 84) (.pointer none)) (.cons (.inp 8) .nil)) .nil)))) (.chk (some ((.bv 1), false)) .lenL (.cons (.inp 3) .nil) (.chk (some ((.bv 1), false)) (.slL 4 false true false) (.cons (.inp 5) (.cons (.op .lenL (.cons (.inp 3) .nil)) .nil)) (.ite (.bv 1) false (.eff (.call 13) (.cons (.ite (.bv 1) false (.op (.slL 4 false true false) (.cons (.inp 5) (.cons (.op .lenL (.cons (.inp 3) .nil)) .nil))) (.cst (.tuple #[]))) (.cons (.ite (.bv 1) false (.inp 3) (.cst (.tuple #[]))) .nil)) (.chk none (.un .not) (.cons (.bv 2) .nil) (.isb none (.bv 1) (.bnd (.op (.un .not) (.cons (.bv 2) .nil)) (.chk (some ((.bv 3), false)) .lenL (.cons (.inp 3) .nil) (.chk (some ((.bv 3), false)) (.idxL 4) (.cons (.inp 5) (.cons (.op .lenL (.cons (.inp 3) .nil)) .nil)) (.chk (some ((.bv 3), false)) (.fld 0) (.cons (.op (.idxL 4) (.cons (.inp 5) (.cons (.op .lenL (.cons (.inp 3) .nil)) .nil))) .nil) (.ite (.bv 3) false (.eff (.ld false 1) (.cons (.ite (.bv 3) false (.op (.fld 0) (.cons (.op (.idxL 4) (.cons (.inp 5) (.cons (.op .lenL (.cons (.inp 3) .nil)) .nil))) .nil)) (.cst (.tuple #[]))) .nil) (.chk none (.bin .neq) (.cons (.bv 4) (.cons (.cst (.int .i64 77)) .nil)) (.isb none (.bv 3) (.done [] (some (.op (.bin .neq) (.cons (.bv 4) (.cons (.cst (.int .i64 77)) .nil)))))))) (.isb none (.bv 3) (.done [] (some (.cst (.bool true))))))))))))) (.isb none (.bv 1) (.isb none (.cst (.bool true)) (.done [] (some (.cst (.bool true))))))))))))))))) h45_10 .skip) h45_9) Q env w := rfl
def h45_12 : HC := (.seq (.reg (.eff (.call 55) (.cons (.inp 2) (.cons (.inp 3) .nil)) (.chk none (.ext 0) (.cons (.bv 0) .nil) (.chk none (.ext 1) (.cons (.bv 0) .nil) (.done [(8, (.op (.ext 0) (.cons (.bv 0) .nil))), (9, (.op (.ext 1) (.cons (.bv 0) .nil)))] none))))) h45_11)
@[simp] theorem h45_12_wp {P : Program} {F : PF P} {Q : EX → List Value → World → Prop} {env : List Value} {w : World} : h45_12.wp F Q env w = HC.wp F (.seq (.reg (.eff (.call 55) (.cons (.inp 2) (.cons (.inp 3) .nil)) (.chk none (.ext 0) (.cons (.bv 0) .nil) (.chk none (.ext 1) (.cons (.bv 0) .nil) (.done [(8, (.op (.ext 0) (.cons (.bv 0) .nil))), (9, (.op (.ext 1) (.cons (.bv 0) .nil)))] none))))) h45_11) Q env w := rfl
def h45_13 : HC := (.seq (.reg (.chk none .lenL (.cons (.inp 3) .nil) (.chk none (.slL 4 false true false) (.cons (.inp 5) (.cons (.op .lenL (.cons (.inp 3) .nil)) .nil)) (.eff (.call 17) (.cons (.inp 2) (.cons (.op (.slL 4 false true false) (.cons (.inp 5) (.cons (.op .lenL (.cons (.inp 3) .nil)) .nil))) .nil)) (.chk none (.ext 0) (.cons (.bv 0) .nil) (.chk none (.ext 1) (.cons (.bv 0) .nil) (.done [(6, (.op (.ext 0) (.cons (.bv 0) .nil))), (7, (.op (.ext 1) (.cons (.bv 0) .nil)))] none))))))) h45_12)
@[simp] theorem h45_13_wp {P : Program} {F : PF P} {Q : EX → List Value → World → Prop} {env : List Value} {w : World} : h45_13.wp F Q env w = HC.wp F (.seq (.reg (.chk none .lenL (.cons (.inp 3) .nil) (.chk none (.slL 4 false true false) (.cons (.inp 5) (.cons (.op .lenL (.cons (.inp 3) .nil)) .nil)) (.eff (.call 17) (.cons (.inp 2) (.cons (.op (.slL 4 false true false) (.cons (.inp 5) (.cons (.op .lenL (.cons (.inp 3) .nil)) .nil))) .nil)) (.chk none (.ext 0) (.cons (.bv 0) .nil) (.chk none (.ext 1) (.cons (.bv 0) .nil) (.done [(6, (.op (.ext 0) (.cons (.bv 0) .nil))), (7, (.op (.ext 1) (.cons (.bv 0) .nil)))] none))))))) h45_12) Q env w := rfl
def h45_14 : HC := (.seq (.reg (.eff (.bsl 44 0 4 #[] []) .nil (.eff (.app 30 30 44 4 32 (.agg #[(.int .i64 0), (.int .i64 0), (.int .i64 0), (.int .i64 0)])) (.cons (.bv 0) (.cons (.inp 3) .nil)) (.chk none (.build #[(.int .i64 0), (.int .i64 0), (.int .i64 0), (.int .i64 0)] [(0, 1), (1, 1), (2, 1), (3, 1)] [0]) (.cons (.cst (.int .i64 77)) .nil) (.eff (.bsl 44 1 4 #[(.int .i64 0), (.int .i64 0), (.int .i64 0), (.int .i64 0)] [0]) (.cons (.op (.build #[(.int .i64 0), (.int .i64 0), (.int .i64 0), (.int .i64 0)] [(0, 1), (1, 1), (2, 1), (3, 1)] [0]) (.cons (.cst (.int .i64 77)) .nil)) .nil) (.eff (.app 30 30 44 4 32 (.agg #[(.int .i64 0), (.int .i64 0), (.int .i64 0), (.int .i64 0)])) (.cons (.bv 1) (.cons (.bv 2) .nil)) (.done [(5, (.bv 3))] none))))))) h45_13)
@[simp] theorem h45_14_wp {P : Program} {F : PF P} {Q : EX → List Value → World → Prop} {env : List Value} {w : World} : h45_14.wp F Q env w = HC.wp F (.seq (.reg (.eff (.bsl 44 0 4 #[] []) .nil (.eff (.app 30 30 44 4 32 (.agg #[(.int .i64 0), (.int .i64 0), (.int .i64 0), (.int .i64 0)])) (.cons (.bv 0) (.cons (.inp 3) .nil)) (.chk none (.build #[(.int .i64 0), (.int .i64 0), (.int .i64 0), (.int .i64 0)] [(0, 1), (1, 1), (2, 1), (3, 1)] [0]) (.cons (.cst (.int .i64 77)) .nil) (.eff (.bsl 44 1 4 #[(.int .i64 0), (.int .i64 0), (.int .i64 0), (.int .i64 0)] [0]) (.cons (.op (.build #[(.int .i64 0), (.int .i64 0), (.int .i64 0), (.int .i64 0)] [(0, 1), (1, 1), (2, 1), (3, 1)] [0]) (.cons (.cst (.int .i64 77)) .nil)) .nil) (.eff (.app 30 30 44 4 32 (.agg #[(.int .i64 0), (.int .i64 0), (.int .i64 0), (.int .i64 0)])) (.cons (.bv 1) (.cons (.bv 2) .nil)) (.done [(5, (.bv 3))] none))))))) h45_13) Q env w := rfl
def l45 : Lifted := ⟨[0, 1, 2, 3, 8, 9, 10, 11, 12, 13, 14], 93, [.slot 4], (.seq (.reg (.done [(4, (.cst (.bool false)))] none)) h45_14)⟩
theorem l45_ok : liftFn G2 45 400 = some l45 := by kernel_rfl


theorem dload_spec (dd : Nat) (k : Nat) (T : Desk) (lim : Int) (rows : List It) (v : Value) (w0 w : World) (A : Asn) (hk : k < 4) (hT : deskOK T) (hl : rows.length ≤ 1048575) (hrow : Row w0 A v rows.length 4 (flat rows)) (s : St w0 (A * deskA dd T) w) :
    CallW Try.prog 45 [.pointer (some ⟨dd, 0, none⟩), .int .i64 k, .int .i64 lim, v] (fun r w' => r = .bool true ∧ ∃ T', deskOK T' ∧ St w0 (A * deskA dd T') w') w := by
  obtain ⟨a, cap, rfl⟩ := hrow.val
  refine callW_of_lift l45_ok (by simp [l45]) ?_
  simp [l45]
  refine eff_bsl0 s ?_
  intro v0 w1 s1
  simp
  refine eff_appR s1 (hrow.mono fun w s => s.drop.drop) (flat_one _) (by decide) rfl (by unfold maxLen; omega) (by omega) ?_
  intro v1 w2 s2
  have s2' : St w0 (A * deskA dd T * own 44 4 v1 rows.length (flat rows)) w2 := by simpa using s2
  obtain ⟨a1, c1, rfl, _⟩ := s2'.own_val
  simp [Instr.fill, Value.cells]
  refine eff_bslV s2' rfl ?_
  intro c w3 s3
  simp
  have s3' : St w0 (A * deskA dd T * pt c (.cells (It.cs ⟨77, 0, 0, 0⟩).toArray 44 (0, 0)) * own 44 4 (.slice a1 rows.length c1) rows.length (flat rows)) w3 := s3.swap
  refine eff_app (m := 1) (news := It.cs ⟨77, 0, 0, 0⟩) s3' rfl s3.cells_look (cs_one _) (by decide) rfl (by unfold maxLen; omega) (by omega) ?_
  intro v2 w4 s4
  have e1 : flat rows ++ It.cs ⟨77, 0, 0, 0⟩ = flat (rows ++ [⟨77, 0, 0, 0⟩]) := by simp [flat]
  have l1 : rows.length + 1 = (rows ++ [(⟨77, 0, 0, 0⟩ : It)]).length := by simp
  obtain ⟨g, c2, rfl, hc2, hcell⟩ := s4.own_at (by omega)
  simp
  refine ⟨by omega, ?_⟩
  have s5 := s4.to (B := A * deskA dd T * own 44 4 (.slice (some ⟨g, 0, none⟩) (rows.length + 1) c2) (rows.length + 1) (flat rows ++ It.cs ⟨77, 0, 0, 0⟩) * pt c (.cells (It.cs ⟨77, 0, 0, 0⟩).toArray 44 (0, 0))) (by ac_rfl)
  have s6 := s5.drop
  generalize hCX : A * deskA dd T * own 44 4 (.slice (some ⟨g, 0, none⟩) (rows.length + 1) c2) (rows.length + 1) (flat rows ++ It.cs ⟨77, 0, 0, 0⟩) = CX at s6
  have hcx : ∀ w, St w0 CX w → ∀ j u, (flat rows ++ It.cs ⟨77, 0, 0, 0⟩)[j]? = some u → w.cell? ⟨g, j, none⟩ = some u := fun w s j u hu => by
    rw [← hCX] at s
    obtain ⟨g', c', hv, _, hc'⟩ := s.own_at (by omega)
    cases hv
    exact hc' j u hu
  have hfl := flat_len rows
  have hin : Row w0 CX (.slice (some ⟨g, 0, none⟩) rows.length c2) rows.length 4 (flat rows) :=
    ⟨hfl, some ⟨g, 0, none⟩, c2, rfl, by omega, .inr ⟨g, 0, rfl, fun w s j u hu => by
      rw [Nat.zero_add]
      refine hcx w s j u ?_
      rw [List.getElem?_append_left (List.getElem?_eq_some_iff.1 hu).1]
      exact hu⟩⟩
  have hout : Row w0 CX (.slice a rows.length cap) rows.length 4 (flat rows) := hrow.mono fun w s => by
    rw [← hCX] at s
    exact s.drop.drop
  have h77 : ∀ w, St w0 CX w → w.cell? ⟨g, rows.length * 4, none⟩ = some (.int .i64 77) := fun w s => hcx w s _ _ (by rw [List.getElem?_append_right (by omega), hfl, Nat.sub_self]; rfl)
  -- the rest, for what both have answered
  have rest : ∀ (t : Slot) (e : Int) (w : World), slotOK t → (t = none ∨ e = 0) → St w0 (CX * slotA t) w →
      HC.wp G2 h45_11 (endQ Try.prog [RV.slot 4] fun r w' => r = Value.bool true ∧ ∃ T', deskOK T' ∧ St w0 (A * deskA dd T') w')
        [.pointer (some ⟨dd, 0, none⟩), .int .i64 k, .int .i64 lim, .slice a rows.length cap, .bool false, .slice (some ⟨g, 0, none⟩) (rows.length + 1) c2, gp t, .int .i64 e, mp t, .int .i64 e, undef] w := by
    intro t e w ht he s
    cases t with
    | none =>
      simp [gp, mp]
      refine ⟨by omega, ?_⟩
      refine eff_call ((items_spec rows rows _ _ w0 w (CX * slotA none) (by omega) (hin.mono fun w s => s.drop) (hout.mono fun w s => s.drop) s).mono ?_)
      rintro r w1 ⟨rfl, s1⟩
      have hlt : (rows.length : Int) < (rows.length : Int) + 1 := by omega
      simp [hlt]
      refine eff_ldc (h77 _ s1.drop) ?_
      simp
      refine loopI (fun env w' => ∃ (i : Nat) (xs : List Value), env = [.pointer (some ⟨dd, 0, none⟩), .int .i64 k, .int .i64 lim, .slice a rows.length cap, .bool false, .slice (some ⟨g, 0, none⟩) (rows.length + 1) c2, .pointer none, .int .i64 e, .pointer none, .int .i64 e, .int .i64 i] ∧ i ≤ rows.length + 1 ∧
          St w0 (A * deskA dd T * slotA none * own 44 4 (.slice (some ⟨g, 0, none⟩) (rows.length + 1) c2) (rows.length + 1) xs) w')
        (fun env _ => rows.length + 1 - slotN env 10) ⟨0, _, rfl, by omega, by rw [← hCX] at s1; exact s1.swap⟩ ?_
      rintro LQ env w' ⟨i, xs, rfl, hi, s'⟩ hN hE hR
      simp
      refine cndI (fun h => ?_) (fun h => ?_)
      · simp at h
        have hxl : xs.length = (rows.length + 1) * 4 := s'.own.1
        have hi2 : i < rows.length + 1 := by omega
        have hi3 : (i : Int) < (rows.length : Int) + 1 := by omega
        simp [hi3, Instr.fill, Value.cells]
        refine eff_stR (vs := It.cs ⟨5, 5, 5, 0⟩) s' rfl rfl (cs_one _) (by omega) ?_
        intro w8 s8
        simp
        try simp (disch := omega) only [wrap64]
        exact hN _ _ ⟨i + 1, _, by simp, by omega, s8⟩ (by simp [slotN]; omega)
      · simp at h
        simp
        refine hE _ _ _ ?_
        simp
        exact ⟨T, hT, by have := s'.drop; rwa [slot_none] at this⟩
    | some x =>
      have he0 : e = 0 := by rcases he with h | h; cases h; exact h
      simp [gp, mp]
      refine ⟨by omega, ?_⟩
      refine eff_call ((items_spec rows rows _ _ w0 w (CX * slotA (some x)) (by omega) (hin.mono fun w s => s.drop) (hout.mono fun w s => s.drop) s).mono ?_)
      rintro r w1 ⟨rfl, s1⟩
      have hlt : (rows.length : Int) < (rows.length : Int) + 1 := by omega
      simp [hlt]
      refine eff_ldc (h77 _ s1.drop) ?_
      simp
      refine loopI (fun env w' => ∃ (i : Nat) (xs : List Value), env = [.pointer (some ⟨dd, 0, none⟩), .int .i64 k, .int .i64 lim, .slice a rows.length cap, .bool false, .slice (some ⟨g, 0, none⟩) (rows.length + 1) c2, .pointer (some ⟨x.p, 0, none⟩), .int .i64 e, .pointer (some ⟨x.q, 0, none⟩), .int .i64 e, .int .i64 i] ∧ i ≤ rows.length + 1 ∧
          St w0 (A * deskA dd T * slotA (some x) * own 44 4 (.slice (some ⟨g, 0, none⟩) (rows.length + 1) c2) (rows.length + 1) xs) w')
        (fun env _ => rows.length + 1 - slotN env 10) ⟨0, _, rfl, by omega, by rw [← hCX] at s1; exact s1.swap⟩ ?_
      rintro LQ env w' ⟨i, xs, rfl, hi, s'⟩ hN hE hR
      simp
      refine cndI (fun h => ?_) (fun h => ?_)
      · simp at h
        have hxl : xs.length = (rows.length + 1) * 4 := s'.own.1
        have hi2 : i < rows.length + 1 := by omega
        have hi3 : (i : Int) < (rows.length : Int) + 1 := by omega
        simp [hi3, Instr.fill, Value.cells]
        refine eff_stR (vs := It.cs ⟨5, 5, 5, 0⟩) s' rfl rfl (cs_one _) (by omega) ?_
        intro w8 s8
        simp
        try simp (disch := omega) only [wrap64]
        exact hN _ _ ⟨i + 1, _, by simp, by omega, s8⟩ (by simp [slotN]; omega)
      · simp at h
        simp
        refine hE _ _ _ ?_
        simp
        by_cases hk3 : k < 3
        · have hk3i : (k : Int) < 3 := by omega
          have hk4i : (k : Int) < 4 := by omega
          simp [hk3i]
          have f := (s'.drop.to (by rw [desk_at dd T hT.1 hk]) : St w0 (A * (pt dd (.cells (deskC T) 58 (0, 0)) * restA T k * slotA (T k)) * slotA (some x)) w')
          have f2 := St.cut (slotA (T k)) f (B := A * restA T k * slotA (some x) * pt dd (.cells (deskC T) 58 (0, 0))) (by ac_rfl)
          refine regmI (fun vs w => match vs with
            | [] => St w0 (A * restA T k * slotA (some x) * pt dd (.cells (deskC T) 58 (0, 0))) w
            | [_] => St w0 (A * restA T k * slotA (some x) * pt dd (.cells ((deskC T).setIfInBounds k (gp (some x))) 58 (0, 0))) w
            | _ => St w0 (A * restA T k * slotA (some x) * pt dd (.cells (((deskC T).setIfInBounds k (gp (some x))).setIfInBounds (4 + k) (mp (some x))) 58 (0, 0))) w) f2.drew ?_
          simp [hk4i]
          refine effm_mv rfl (fun w hw => eff_st1 hw rfl (by simp [deskC]; omega) fun w' h => h) (fun v _ => ?_)
          simp [hk4i]
          refine effm_mv rfl (fun w hw => eff_st1 hw rfl (by simp [deskC]; omega) fun w' h => h) (fun v _ => ?_)
          simp
          intro w9 f9
          rw [desk_set hk] at f9
          refine ⟨upd T k (some x), upd_ok hT hk3 ht, ?_⟩
          have hu : (upd T k (some x)) k = some x := by simp [upd]
          have hr : restA (upd T k (some x)) k = restA T k := by rw [rest_upd T k _ hk, if_neg (by omega)]
          rw [desk_at dd (upd T k (some x)) (upd_ok hT hk3 ht).1 hk, hu, hr]
          exact f9.to (by ac_rfl)
        · have hk3i : ¬ (k : Int) < 3 := by omega
          simp [hk3i]
          exact ⟨T, hT, s'.drop.drop⟩
  refine eff_call ((Load_spec lim rows _ w0 w4 CX (by omega) hin s6).mono ?_)
  intro r w5 h5
  by_cases hE : loadE lim rows = 0
  · rw [if_pos hE] at h5
    obtain ⟨p, rfl, s7⟩ := h5
    simp
    refine eff_call ((rLoad_spec lim rows _ w0 w5 _ (by omega) (hout.mono fun w s => s.drop) s7).mono ?_)
    intro r w6 h6
    rw [if_pos hE] at h6
    obtain ⟨q, rfl, s8⟩ := h6
    have := rest (some ⟨p, q, lim, rows⟩) 0 w6 (load_gi hE) (.inr rfl) (s8.to (by simp only [slotA]; ac_rfl))
    simp [gp, mp] at this
    simpa using this
  · rw [if_neg hE] at h5
    obtain ⟨rfl, s7⟩ := h5
    simp
    refine eff_call ((rLoad_spec lim rows _ w0 w5 _ (by omega) hout s7).mono ?_)
    intro r w6 h6
    rw [if_neg hE] at h6
    obtain ⟨rfl, s8⟩ := h6
    have := rest none (loadE lim rows) w6 trivial (.inl rfl) (by rw [slot_none]; exact s8)
    simp [gp, mp] at this
    simpa using this
end Go.HL.Gd
