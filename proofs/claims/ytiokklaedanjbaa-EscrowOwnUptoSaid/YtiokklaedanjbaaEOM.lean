/-
  What the claim leans on, part 15 of 15. Conditions: as each theorem says.
-/
import Derived.Test.YtiokklaedanjbaaEOMn
import Derived.Lib.Bytealg
namespace Go.HL.Nm
open Go.HL Go.Proofs
set_option maxRecDepth 4000
set_option linter.unusedSimpArgs false
set_option linter.unusedVariables false
end Go.HL.Nm

namespace Go.HL.Nm
open Go.HL Go.Proofs
set_option maxRecDepth 4000
set_option linter.unusedSimpArgs false
set_option linter.unusedVariables false
end Go.HL.Nm

namespace Go.HL.Nm
open Go.HL
set_option maxRecDepth 4000
set_option linter.unusedSimpArgs false
set_option linter.unusedVariables false
/-- a byte that continues -/
def contB (b : UInt8) : Bool := decide (128 ≤ b.toNat) && decide (b.toNat ≤ 191)
/-- the bytes that continue at a row's head -/
def lead : List Int → List UInt8
  | [] => []
  | u :: us => if 2097280 ≤ u ∧ u ≤ 2097343 then UInt8.ofNat (u.toNat - 2097152) :: lead us else []
theorem encAll_cons (u : Int) (us : List Int) : encAll (u :: us) = encU u ++ encAll us := rfl
/-- the bad bytes are where they stay bad -/
def goodU : List Int → Prop
  | [] => True
  | u :: us => (2097152 ≤ u → oneF (UInt8.ofNat (u.toNat - 2097152) :: lead us) = (u, 1)) ∧ goodU us
/-- a map of units that leaves bad bytes as_ they are -/
structure Mild (f : Int → List Int) : Prop where
  bad : ∀ u, 2097152 ≤ u → f u = [u]
  fine : ∀ u, u < 2097152 → f u ≠ [] ∧ ∀ x ∈ f u, x < 2097152
end Go.HL.Nm

namespace Go.HL.Nm
open Go.HL
set_option maxRecDepth 4000
set_option linter.unusedSimpArgs false
set_option linter.unusedVariables false
/-- no two that look like one -/
def noP : List Int → Prop
  | a :: b :: r => ¬ (a = 114 ∧ b = 110) ∧ ¬ (a = 118 ∧ b = 118) ∧ noP (b :: r)
  | _ => True
-- how long
theorem encAll_app (a b : List Int) : encAll (a ++ b) = encAll a ++ encAll b := by simp [encAll]
theorem flat_len {f : Int → List Int} : ∀ us : List Int, (∀ u ∈ us, (encAll (f u)).length ≤ (encU u).length) → (encAll (us.flatMap f)).length ≤ (encAll us).length
  | [], _ => Nat.le_refl _
  | u :: us, h => by
    have h1 := h u (List.mem_cons_self ..)
    have h2 := flat_len us fun x hx => h x (List.mem_cons_of_mem _ hx)
    rw [List.flatMap_cons, encAll_app, encAll_cons, List.length_append, List.length_append]
    omega
-- a right name
end Go.HL.Nm

namespace Go.HL.Pu
open Go.HL Go.HL.Nm Go.Proofs
set_option maxRecDepth 4000
set_option linter.unusedSimpArgs false
set_option linter.unusedVariables false
def strs (l : List Ac) : List Value := l.map fun x => .string (mk x.name)
/-- whose key is among the first -/
def anyK (x : List UInt8) (l : List Ac) : Bool := l.any fun r => decide (keyF r.name = keyF x)
end Go.HL.Pu

namespace Go.HL.Pu
open Go.HL Go.HL.Nm Go.Proofs
set_option maxRecDepth 4000
set_option linter.unusedSimpArgs false
set_option linter.unusedVariables false
/-- accounts that were opened -/
structure Gd (rows : List Ac) : Prop where
  len : 1 ≤ rows.length ∧ rows.length ≤ 64
  names : ∀ i, (h : i < rows.length) → rows[i].name.length ≤ 1048576
  keys : (keys rows).Nodup
end Go.HL.Pu

namespace Go.HL.Pu
open Go.HL Go.HL.Nm Go.Proofs
set_option maxRecDepth 4000
set_option linter.unusedSimpArgs false
set_option linter.unusedVariables false
def mineK (l : List Int) (i : Int) : Bool := l.any fun n => decide (n = i)
def clsT (S : World → Prop) : List Value → World → Prop
  | [], w => S w
  | r :: _, w => r = .bool true ∧ S w
@[simp] theorem clsT_nil (S : World → Prop) (w : World) : clsT S [] w = S w := rfl
@[simp] theorem clsT_cons (S : World → Prop) (v : Value) (l : List Value) (w : World) : clsT S (v :: l) w = (v = .bool true ∧ S w) := rfl
end Go.HL.Pu

namespace Go.HL.Pu
open Go.HL Go.HL.Nm Go.Proofs
set_option maxRecDepth 4000
set_option linter.unusedSimpArgs false
set_option linter.unusedVariables false
theorem loadL_ok : ∀ (l : List Ac) (P : Ps), (loadL P l).1 = 0 → (∀ x ∈ l, 0 ≤ x.coins) → (loadL P l).2 = { P with held := P.held - total l, rows := P.rows ++ l } ∧ total l ≤ P.held ∨ l = []
  | [], _, _, _ => .inr rfl
  | a :: l, P, h, hc => by
    left
    have ha := hc a (List.mem_cons_self ..)
    simp only [loadL] at h ⊢
    by_cases hs : stepE P a = 0
    · rw [if_pos hs] at h ⊢
      have hle : a.coins ≤ P.held := by
        unfold stepE at hs
        split at hs
        · split at hs
          · cases hs
          · omega
        · rename_i h1; exact absurd hs h1
      have e : total (a :: l) = a.coins + total l := by simp [total]
      rcases loadL_ok l (stepP P a) h (fun x hx => hc x (List.mem_cons_of_mem _ hx)) with ⟨h1, h2⟩ | h1
      · refine ⟨?_, ?_⟩
        · rw [h1, e]
          simp only [stepP, List.append_assoc, List.singleton_append]
          congr 1
          omega
        · rw [e]
          have : (stepP P a).held = P.held - a.coins := rfl
          omega
      · subst h1
        refine ⟨?_, ?_⟩
        · rw [e]
          simp [loadL, stepP, total_nil]
        · rw [e, total_nil]; omega
    · rw [if_neg hs] at h
      exact absurd h hs
theorem load_PI {lim : Int} {rows : List Ac} {sup : Int} (h : (loadF lim rows sup).1 = 0) (hsup : 0 ≤ sup) (hc : ∀ x ∈ rows, 0 ≤ x.coins) (hn : ∀ i, (h : i < rows.length) → rows[i].name.length ≤ 1048576) :
    (loadF lim rows sup).2 = ⟨lim, rows, sup, sup - total rows⟩ ∧ PI lim (loadF lim rows sup).2 := by
  unfold loadF at h ⊢
  split at h
  · rename_i h1
    rw [if_pos h1]
    split at h
    · cases h
    · rename_i h2
      rw [if_neg h2]
      split at h
      · cases h
      · rename_i h3
        rw [if_neg h3]
        split at h
        · rename_i h4
          rw [if_pos h4]
          have hne : rows ≠ [] := by
            rintro rfl
            revert h4
            decide
          rcases loadL_ok rows _ h hc with ⟨e1, e2⟩ | e
          · rw [e1]
            refine ⟨rfl, ⟨rfl, h1, ?_, hc, ?_, ?_, by show sup ≤ _; omega, hn⟩⟩
            · have := List.length_pos_iff.2 hne
              have hl3 : (rows.length : Int) ≤ lim := by omega
              exact ⟨by show 1 ≤ ([] ++ rows).length; rw [List.nil_append]; exact this, by show ((([] ++ rows : List Ac).length : Nat) : Int) ≤ lim; rw [List.nil_append]; exact hl3⟩
            · show 0 ≤ sup - total rows
              have : (⟨lim, [], sup, sup⟩ : Ps).held = sup := rfl
              omega
            · show sup - total rows + total ([] ++ rows) = sup
              rw [List.nil_append]; omega
          · exact absurd e hne
        · cases h
  · cases h
def sps (l : List Sp) : List Value := l.flatMap Sp.cs
end Go.HL.Pu

namespace Go.HL.Es
open Go.HL Go.Proofs
set_option maxRecDepth 4000
set_option linter.unusedSimpArgs false
set_option linter.unusedVariables false
theorem scan_zero : ∀ (l : List Gd.It) (i : Nat), Gd.scanE i l = 0 → ∀ j (h : j < l.length), Gd.itemE (i + j) l[j] = 0
  | [], _, _, j, h => by simp at h
  | x :: l, i, hs, j, h => by
    have hx : Gd.itemE i x = 0 := by
      by_cases e : Gd.itemE i x = 0
      · exact e
      · simp only [Gd.scanE, if_neg e] at hs
        exact hs
    cases j with
    | zero => exact hx
    | succ j =>
      simp only [Gd.scanE, if_pos hx] at hs
      have := scan_zero l (i + 1) hs j (by simpa using h)
      have e : i + 1 + j = i + (j + 1) := by omega
      rw [e] at this
      exact this
theorem item_zero {i : Nat} {x : Gd.It} (h : Gd.itemE i x = 0) : x.num = (i : Int) + 1 ∧ (0 ≤ x.kind ∧ x.kind < 16) ∧ ((x.con = 0 ∧ 0 ≤ x.acc ∧ x.acc < 64) ∨ (0 < x.con ∧ x.acc = -1)) := by
  unfold Gd.itemE at h
  split at h
  · omega
  rename_i h1
  split at h
  · omega
  rename_i h2
  split at h
  · omega
  rename_i h3
  refine ⟨by omega, by simpa [Gd.kindF] using h2, ?_⟩
  simp only [not_or, not_and, Bool.not_eq_false] at h3
  by_cases hc : 0 < x.con
  · have := h3.2.1 hc
    exact .inr ⟨hc, by simpa using this⟩
  · have := (Gd.acc_iff _).1 (h3.2.2 hc)
    exact .inl ⟨by omega, this⟩
theorem load_gi {lim : Int} {rows : List Gd.It} (h : Gd.loadE lim rows = 0) : Gd.GI lim rows := by
  unfold Gd.loadE at h
  split at h
  · rename_i h1
    split at h
    · omega
    · rename_i h2
      have key := scan_zero rows 0 h
      have each : ∀ x ∈ rows, (0 ≤ x.kind ∧ x.kind < 16) ∧ ((x.con = 0 ∧ 0 ≤ x.acc ∧ x.acc < 64) ∨ (0 < x.con ∧ x.acc = -1)) := fun x hx => by
        obtain ⟨j, hj, rfl⟩ := List.getElem_of_mem hx
        exact (item_zero (key j hj)).2
      exact ⟨⟨fun i hi => by have := (item_zero (key i hi)).1; simpa using this, fun x hx => (each x hx).1⟩, by omega, h1.2, fun x hx => (each x hx).2⟩
  · omega
-- bazaar/bazaarlaw17.lent
def h11_0 : HC := (.seq (.reg (.chk none .lenL (.cons (.inp 0) .nil) (.chk none (.slL 2 false true false) (.cons (.inp 2) (.cons (.op .lenL (.cons (.inp 0) .nil)) .nil)) (.done [(1, (.op (.slL 2 false true false) (.cons (.inp 2) (.cons (.op .lenL (.cons (.inp 0) .nil)) .nil))))] none)))) .ret)
@[simp] theorem h11_0_wp {P : Program} {F : PF P} {Q : EX → List Value → World → Prop} {env : List Value} {w : World} : h11_0.wp F Q env w = HC.wp F (.seq (.reg (.chk none .lenL (.cons (.inp 0) .nil) (.chk none (.slL 2 false true false) (.cons (.inp 2) (.cons (.op .lenL (.cons (.inp 0) .nil)) .nil)) (.done [(1, (.op (.slL 2 false true false) (.cons (.inp 2) (.cons (.op .lenL (.cons (.inp 0) .nil)) .nil))))] none)))) .ret) Q env w := rfl
def h11_1 : HC := (.seq (.reg (.chk none (.build #[(.int .i64 0), (.int .u64 0)] [(0, 1), (1, 1)] [0, 1]) (.cons (.cst (.int .i64 (-71))) (.cons (.cst (.int .u64 71)) .nil)) (.eff (.bsl 98 1 2 #[(.int .i64 0), (.int .u64 0)] [0]) (.cons (.op (.build #[(.int .i64 0), (.int .u64 0)] [(0, 1), (1, 1)] [0, 1]) (.cons (.cst (.int .i64 (-71))) (.cons (.cst (.int .u64 71)) .nil))) .nil) (.eff (.app 41 41 98 2 16 (.agg #[(.int .i64 0), (.int .u64 0)])) (.cons (.inp 2) (.cons (.bv 0) .nil)) (.done [(2, (.bv 1))] none))))) h11_0)
@[simp] theorem h11_1_wp {P : Program} {F : PF P} {Q : EX → List Value → World → Prop} {env : List Value} {w : World} : h11_1.wp F Q env w = HC.wp F (.seq (.reg (.chk none (.build #[(.int .i64 0), (.int .u64 0)] [(0, 1), (1, 1)] [0, 1]) (.cons (.cst (.int .i64 (-71))) (.cons (.cst (.int .u64 71)) .nil)) (.eff (.bsl 98 1 2 #[(.int .i64 0), (.int .u64 0)] [0]) (.cons (.op (.build #[(.int .i64 0), (.int .u64 0)] [(0, 1), (1, 1)] [0, 1]) (.cons (.cst (.int .i64 (-71))) (.cons (.cst (.int .u64 71)) .nil))) .nil) (.eff (.app 41 41 98 2 16 (.agg #[(.int .i64 0), (.int .u64 0)])) (.cons (.inp 2) (.cons (.bv 0) .nil)) (.done [(2, (.bv 1))] none))))) h11_0) Q env w := rfl
def h11_2 : HC := (.reg (.chk none (.bin .add) (.cons (.inp 3) (.cons (.cst (.int .i64 1)) .nil)) (.done [(3, (.op (.bin .add) (.cons (.inp 3) (.cons (.cst (.int .i64 1)) .nil))))] none)))
@[simp] theorem h11_2_wp {P : Program} {F : PF P} {Q : EX → List Value → World → Prop} {env : List Value} {w : World} : h11_2.wp F Q env w = HC.wp F (.reg (.chk none (.bin .add) (.cons (.inp 3) (.cons (.cst (.int .i64 1)) .nil)) (.done [(3, (.op (.bin .add) (.cons (.inp 3) (.cons (.cst (.int .i64 1)) .nil))))] none))) Q env w := rfl
def h11_3 : HC := (.regq (some 1) (.chk none (.idxL 2) (.cons (.inp 0) (.cons (.inp 3) .nil)) (.chk none (.fld 0) (.cons (.op (.idxL 2) (.cons (.inp 0) (.cons (.inp 3) .nil))) .nil) (.eff (.ld false 1) (.cons (.op (.fld 0) (.cons (.op (.idxL 2) (.cons (.inp 0) (.cons (.inp 3) .nil))) .nil)) .nil) (.chk none (.idxL 2) (.cons (.inp 0) (.cons (.inp 3) .nil)) (.chk none (.fld 1) (.cons (.op (.idxL 2) (.cons (.inp 0) (.cons (.inp 3) .nil))) .nil) (.eff (.ld false 1) (.cons (.op (.fld 1) (.cons (.op (.idxL 2) (.cons (.inp 0) (.cons (.inp 3) .nil))) .nil)) .nil) (.chk none (.build #[(.int .i64 0), (.int .u64 0)] [(0, 1), (1, 1)] [0, 1]) (.cons (.bv 0) (.cons (.bv 1) .nil)) (.eff (.bsl 98 1 2 #[(.int .i64 0), (.int .u64 0)] [0]) (.cons (.op (.build #[(.int .i64 0), (.int .u64 0)] [(0, 1), (1, 1)] [0, 1]) (.cons (.bv 0) (.cons (.bv 1) .nil))) .nil) (.eff (.app 41 41 98 2 16 (.agg #[(.int .i64 0), (.int .u64 0)])) (.cons (.inp 2) (.cons (.bv 2) .nil)) (.done [(2, (.bv 3))] none)))))))))))
@[simp] theorem h11_3_wp {P : Program} {F : PF P} {Q : EX → List Value → World → Prop} {env : List Value} {w : World} : h11_3.wp F Q env w = HC.wp F (.regq (some 1) (.chk none (.idxL 2) (.cons (.inp 0) (.cons (.inp 3) .nil)) (.chk none (.fld 0) (.cons (.op (.idxL 2) (.cons (.inp 0) (.cons (.inp 3) .nil))) .nil) (.eff (.ld false 1) (.cons (.op (.fld 0) (.cons (.op (.idxL 2) (.cons (.inp 0) (.cons (.inp 3) .nil))) .nil)) .nil) (.chk none (.idxL 2) (.cons (.inp 0) (.cons (.inp 3) .nil)) (.chk none (.fld 1) (.cons (.op (.idxL 2) (.cons (.inp 0) (.cons (.inp 3) .nil))) .nil) (.eff (.ld false 1) (.cons (.op (.fld 1) (.cons (.op (.idxL 2) (.cons (.inp 0) (.cons (.inp 3) .nil))) .nil)) .nil) (.chk none (.build #[(.int .i64 0), (.int .u64 0)] [(0, 1), (1, 1)] [0, 1]) (.cons (.bv 0) (.cons (.bv 1) .nil)) (.eff (.bsl 98 1 2 #[(.int .i64 0), (.int .u64 0)] [0]) (.cons (.op (.build #[(.int .i64 0), (.int .u64 0)] [(0, 1), (1, 1)] [0, 1]) (.cons (.bv 0) (.cons (.bv 1) .nil))) .nil) (.eff (.app 41 41 98 2 16 (.agg #[(.int .i64 0), (.int .u64 0)])) (.cons (.inp 2) (.cons (.bv 2) .nil)) (.done [(2, (.bv 3))] none))))))))))) Q env w := rfl
def h11_4 : HC := (.seq (.block 1 h11_3) h11_2)
@[simp] theorem h11_4_wp {P : Program} {F : PF P} {Q : EX → List Value → World → Prop} {env : List Value} {w : World} : h11_4.wp F Q env w = HC.wp F (.seq (.block 1 h11_3) h11_2) Q env w := rfl
def h11_5 : HC := (.seq (.br (.chk none .lenL (.cons (.inp 0) .nil) (.chk none (.bin .lss) (.cons (.inp 3) (.cons (.op .lenL (.cons (.inp 0) .nil)) .nil)) (.done [] (some (.op (.bin .lss) (.cons (.inp 3) (.cons (.op .lenL (.cons (.inp 0) .nil)) .nil))))))) .skip (.exit 0)) h11_4)
@[simp] theorem h11_5_wp {P : Program} {F : PF P} {Q : EX → List Value → World → Prop} {env : List Value} {w : World} : h11_5.wp F Q env w = HC.wp F (.seq (.br (.chk none .lenL (.cons (.inp 0) .nil) (.chk none (.bin .lss) (.cons (.inp 3) (.cons (.op .lenL (.cons (.inp 0) .nil)) .nil)) (.done [] (some (.op (.bin .lss) (.cons (.inp 3) (.cons (.op .lenL (.cons (.inp 0) .nil)) .nil))))))) .skip (.exit 0)) h11_4) Q env w := rfl
def h11_6 : HC := (.loop h11_5)
@[simp] theorem h11_6_wp {P : Program} {F : PF P} {Q : EX → List Value → World → Prop} {env : List Value} {w : World} : h11_6.wp F Q env w = HC.wp F (.loop h11_5) Q env w := rfl
def h11_7 : HC := (.seq (.block 0 h11_6) h11_1)
@[simp] theorem h11_7_wp {P : Program} {F : PF P} {Q : EX → List Value → World → Prop} {env : List Value} {w : World} : h11_7.wp F Q env w = HC.wp F (.seq (.block 0 h11_6) h11_1) Q env w := rfl
def h11_8 : HC := (.seq (.reg (.done [(3, (.cst (.int .i64 0)))] none)) h11_7)
@[simp] theorem h11_8_wp {P : Program} {F : PF P} {Q : EX → List Value → World → Prop} {env : List Value} {w : World} : h11_8.wp F Q env w = HC.wp F (.seq (.reg (.done [(3, (.cst (.int .i64 0)))] none)) h11_7) Q env w := rfl
def h11_9 : HC := (.seq (.reg (.done [(2, (.cst (.slice none 0 0)))] none)) h11_8)
@[simp] theorem h11_9_wp {P : Program} {F : PF P} {Q : EX → List Value → World → Prop} {env : List Value} {w : World} : h11_9.wp F Q env w = HC.wp F (.seq (.reg (.done [(2, (.cst (.slice none 0 0)))] none)) h11_8) Q env w := rfl
def l11 : Lifted := ⟨[0, 2, 3, 4], 33, [.slot 1], (.seq (.reg (.done [(1, (.cst (.slice none 0 0)))] none)) h11_9)⟩
theorem l11_ok : liftFn E2 11 400 = some l11 := by kernel_rfl

-- bazaar/bazaarlaw17.wished
def h12_0 : HC := (.seq (.reg (.eff (.ld true 5) (.cons (.inp 1) .nil) (.eff (.st 5) (.cons (.inp 2) (.cons (.bv 0) .nil)) (.done [] none)))) .ret)
@[simp] theorem h12_0_wp {P : Program} {F : PF P} {Q : EX → List Value → World → Prop} {env : List Value} {w : World} : h12_0.wp F Q env w = HC.wp F (.seq (.reg (.eff (.ld true 5) (.cons (.inp 1) .nil) (.eff (.st 5) (.cons (.inp 2) (.cons (.bv 0) .nil)) (.done [] none)))) .ret) Q env w := rfl
def h12_1 : HC := (.seq (.reg (.chk none (.slL 1 false true false) (.cons (.inp 3) (.cons (.cst (.int .i64 3)) .nil)) (.chk none (.fld 4) (.cons (.inp 1) .nil) (.eff (.st 1) (.cons (.op (.fld 4) (.cons (.inp 1) .nil)) (.cons (.op (.slL 1 false true false) (.cons (.inp 3) (.cons (.cst (.int .i64 3)) .nil))) .nil)) (.done [] none))))) h12_0)
@[simp] theorem h12_1_wp {P : Program} {F : PF P} {Q : EX → List Value → World → Prop} {env : List Value} {w : World} : h12_1.wp F Q env w = HC.wp F (.seq (.reg (.chk none (.slL 1 false true false) (.cons (.inp 3) (.cons (.cst (.int .i64 3)) .nil)) (.chk none (.fld 4) (.cons (.inp 1) .nil) (.eff (.st 1) (.cons (.op (.fld 4) (.cons (.inp 1) .nil)) (.cons (.op (.slL 1 false true false) (.cons (.inp 3) (.cons (.cst (.int .i64 3)) .nil))) .nil)) (.done [] none))))) h12_0) Q env w := rfl
def h12_2 : HC := (.seq (.reg (.eff (.bsl 3 4 1 #[(.int .i64 0)] [0, 1, 2, 3]) (.cons (.cst (.int .i64 5)) (.cons (.cst (.int .i64 6)) (.cons (.cst (.int .i64 7)) (.cons (.cst (.int .i64 (-71))) .nil)))) (.done [(3, (.bv 0))] none))) h12_1)
@[simp] theorem h12_2_wp {P : Program} {F : PF P} {Q : EX → List Value → World → Prop} {env : List Value} {w : World} : h12_2.wp F Q env w = HC.wp F (.seq (.reg (.eff (.bsl 3 4 1 #[(.int .i64 0)] [0, 1, 2, 3]) (.cons (.cst (.int .i64 5)) (.cons (.cst (.int .i64 6)) (.cons (.cst (.int .i64 7)) (.cons (.cst (.int .i64 (-71))) .nil)))) (.done [(3, (.bv 0))] none))) h12_1) Q env w := rfl
def l12 : Lifted := ⟨[0, 1, 2, 3], 9, [.cell 2 true 5], (.seq (.reg (.eff (.box 46) (.cons (.inp 0) .nil) (.eff (.new 46 (.agg #[(.int .i64 0), (.int .i64 0), (.int .u64 0), (.int .u64 0), (.slice none 0 0)])) .nil (.done [(1, (.bv 0)), (2, (.bv 1))] none)))) h12_2)⟩
theorem l12_ok : liftFn E2 12 400 = some l12 := by kernel_rfl

-- bazaar/bazaarlaw17.stay
def h15_0 : HC := (.seq (.reg (.chk none (.fld 4) (.cons (.inp 1) .nil) (.eff (.ld false 1) (.cons (.op (.fld 4) (.cons (.inp 1) .nil)) .nil) (.chk none .lenL (.cons (.bv 0) .nil) (.chk none (.bin .eql) (.cons (.op .lenL (.cons (.bv 0) .nil)) (.cons (.cst (.int .i64 3)) .nil)) (.bnd (.op (.bin .eql) (.cons (.op .lenL (.cons (.bv 0) .nil)) (.cons (.cst (.int .i64 3)) .nil))) (.chk (some ((.bv 1), true)) (.idxL 1) (.cons (.inp 3) (.cons (.cst (.int .i64 0)) .nil)) (.ite (.bv 1) true (.eff (.ld false 1) (.cons (.ite (.bv 1) true (.op (.idxL 1) (.cons (.inp 3) (.cons (.cst (.int .i64 0)) .nil))) (.cst (.tuple #[]))) .nil) (.chk none (.bin .eql) (.cons (.bv 2) (.cons (.cst (.int .i64 5)) .nil)) (.isb none (.bv 1) (.bnd (.op (.bin .eql) (.cons (.bv 2) (.cons (.cst (.int .i64 5)) .nil))) (.chk (some ((.bv 3), true)) (.idxL 1) (.cons (.inp 3) (.cons (.cst (.int .i64 1)) .nil)) (.ite (.bv 3) true (.eff (.ld false 1) (.cons (.ite (.bv 3) true (.op (.idxL 1) (.cons (.inp 3) (.cons (.cst (.int .i64 1)) .nil))) (.cst (.tuple #[]))) .nil) (.chk none (.bin .eql) (.cons (.bv 4) (.cons (.cst (.int .i64 6)) .nil)) (.isb none (.bv 3) (.bnd (.op (.bin .eql) (.cons (.bv 4) (.cons (.cst (.int .i64 6)) .nil))) (.chk (some ((.bv 5), true)) (.idxL 1) (.cons (.inp 3) (.cons (.cst (.int .i64 2)) .nil)) (.ite (.bv 5) true (.eff (.ld false 1) (.cons (.ite (.bv 5) true (.op (.idxL 1) (.cons (.inp 3) (.cons (.cst (.int .i64 2)) .nil))) (.cst (.tuple #[]))) .nil) (.chk none (.bin .eql) (.cons (.bv 6) (.cons (.cst (.int .i64 7)) .nil)) (.isb none (.bv 5) (.bnd (.op (.bin .eql) (.cons (.bv 6) (.cons (.cst (.int .i64 7)) .nil))) (.chk (some ((.bv 7), true)) (.idxL 1) (.cons (.inp 3) (.cons (.cst (.int .i64 3)) .nil)) (.ite (.bv 7) true (.eff (.ld false 1) (.cons (.ite (.bv 7) true (.op (.idxL 1) (.cons (.inp 3) (.cons (.cst (.int .i64 3)) .nil))) (.cst (.tuple #[]))) .nil) (.chk none (.bin .eql) (.cons (.bv 8) (.cons (.cst (.int .i64 (-71))) .nil)) (.isb none (.bv 7) (.done [(2, (.op (.bin .eql) (.cons (.bv 8) (.cons (.cst (.int .i64 (-71))) .nil))))] none)))) (.isb none (.bv 7) (.done [(2, (.cst (.bool false)))] none)))))))) (.isb none (.bv 5) (.isb none (.cst (.bool false)) (.done [(2, (.cst (.bool false)))] none))))))))) (.isb none (.bv 3) (.isb none (.cst (.bool false)) (.isb none (.cst (.bool false)) (.done [(2, (.cst (.bool false)))] none)))))))))) (.isb none (.bv 1) (.isb none (.cst (.bool false)) (.isb none (.cst (.bool false)) (.isb none (.cst (.bool false)) (.done [(2, (.cst (.bool false)))] none))))))))))))) .ret)
@[simp] theorem h15_0_wp {P : Program} {F : PF P} {Q : EX → List Value → World → Prop} {env : List Value} {w : World} : h15_0.wp F Q env w = HC.wp F (.seq (.reg (.chk none (.fld 4) (.cons (.inp 1) .nil) (.eff (.ld false 1) (.cons (.op (.fld 4) (.cons (.inp 1) .nil)) .nil) (.chk none .lenL (.cons (.bv 0) .nil) (.chk none (.bin .eql) (.cons (.op .lenL (.cons (.bv 0) .nil)) (.cons (.cst (.int .i64 3)) .nil)) (.bnd (.op (.bin .eql) (.cons (.op .lenL (.cons (.bv 0) .nil)) (.cons (.cst (.int .i64 3)) .nil))) (.chk (some ((.bv 1), true)) (.idxL 1) (.cons (.inp 3) (.cons (.cst (.int .i64 0)) .nil)) (.ite (.bv 1) true (.eff (.ld false 1) (.cons (.ite (.bv 1) true (.op (.idxL 1) (.cons (.inp 3) (.cons (.cst (.int .i64 0)) .nil))) (.cst (.tuple #[]))) .nil) (.chk none (.bin .eql) (.cons (.bv 2) (.cons (.cst (.int .i64 5)) .nil)) (.isb none (.bv 1) (.bnd (.op (.bin .eql) (.cons (.bv 2) (.cons (.cst (.int .i64 5)) .nil))) (.chk (some ((.bv 3), true)) (.idxL 1) (.cons (.inp 3) (.cons (.cst (.int .i64 1)) .nil)) (.ite (.bv 3) true (.eff (.ld false 1) (.cons (.ite (.bv 3) true (.op (.idxL 1) (.cons (.inp 3) (.cons (.cst (.int .i64 1)) .nil))) (.cst (.tuple #[]))) .nil) (.chk none (.bin .eql) (.cons (.bv 4) (.cons (.cst (.int .i64 6)) .nil)) (.isb none (.bv 3) (.bnd (.op (.bin .eql) (.cons (.bv 4) (.cons (.cst (.int .i64 6)) .nil))) (.chk (some ((.bv 5), true)) (.idxL 1) (.cons (.inp 3) (.cons (.cst (.int .i64 2)) .nil)) (.ite (.bv 5) true (.eff (.ld false 1) (.cons (.ite (.bv 5) true (.op (.idxL 1) (.cons (.inp 3) (.cons (.cst (.int .i64 2)) .nil))) (.cst (.tuple #[]))) .nil) (.chk none (.bin .eql) (.cons (.bv 6) (.cons (.cst (.int .i64 7)) .nil)) (.isb none (.bv 5) (.bnd (.op (.bin .eql) (.cons (.bv 6) (.cons (.cst (.int .i64 7)) .nil))) (.chk (some ((.bv 7), true)) (.idxL 1) (.cons (.inp 3) (.cons (.cst (.int .i64 3)) .nil)) (.ite (.bv 7) true (.eff (.ld false 1) (.cons (.ite (.bv 7) true (.op (.idxL 1) (.cons (.inp 3) (.cons (.cst (.int .i64 3)) .nil))) (.cst (.tuple #[]))) .nil) (.chk none (.bin .eql) (.cons (.bv 8) (.cons (.cst (.int .i64 (-71))) .nil)) (.isb none (.bv 7) (.done [(2, (.op (.bin .eql) (.cons (.bv 8) (.cons (.cst (.int .i64 (-71))) .nil))))] none)))) (.isb none (.bv 7) (.done [(2, (.cst (.bool false)))] none)))))))) (.isb none (.bv 5) (.isb none (.cst (.bool false)) (.done [(2, (.cst (.bool false)))] none))))))))) (.isb none (.bv 3) (.isb none (.cst (.bool false)) (.isb none (.cst (.bool false)) (.done [(2, (.cst (.bool false)))] none)))))))))) (.isb none (.bv 1) (.isb none (.cst (.bool false)) (.isb none (.cst (.bool false)) (.isb none (.cst (.bool false)) (.done [(2, (.cst (.bool false)))] none))))))))))))) .ret) Q env w := rfl
def h15_1 : HC := (.seq (.reg (.chk none (.fld 4) (.cons (.inp 1) .nil) (.eff (.ld false 1) (.cons (.op (.fld 4) (.cons (.inp 1) .nil)) .nil) (.chk none (.slL 1 false true false) (.cons (.bv 0) (.cons (.cst (.int .i64 4)) .nil)) (.done [(3, (.op (.slL 1 false true false) (.cons (.bv 0) (.cons (.cst (.int .i64 4)) .nil))))] none))))) h15_0)
@[simp] theorem h15_1_wp {P : Program} {F : PF P} {Q : EX → List Value → World → Prop} {env : List Value} {w : World} : h15_1.wp F Q env w = HC.wp F (.seq (.reg (.chk none (.fld 4) (.cons (.inp 1) .nil) (.eff (.ld false 1) (.cons (.op (.fld 4) (.cons (.inp 1) .nil)) .nil) (.chk none (.slL 1 false true false) (.cons (.bv 0) (.cons (.cst (.int .i64 4)) .nil)) (.done [(3, (.op (.slL 1 false true false) (.cons (.bv 0) (.cons (.cst (.int .i64 4)) .nil))))] none))))) h15_0) Q env w := rfl
def l15 : Lifted := ⟨[0, 1, 2, 3], 35, [.slot 2], (.seq (.reg (.eff (.box 46) (.cons (.inp 0) .nil) (.done [(1, (.bv 0)), (2, (.cst (.bool false)))] none))) h15_1)⟩
theorem l15_ok : liftFn E2 15 400 = some l15 := by kernel_rfl


/-- lent rows: the mark behind them -/
def rmark : Rw := (-71, 71)
def lentA (v : Value) (l : List Rw) : Asn := fun h => ∃ g cap, v = .slice (some ⟨g, 0, none⟩) l.length cap ∧ l.length + 1 ≤ cap ∧ cap ≤ maxLen ∧ own 98 2 (.slice (some ⟨g, 0, none⟩) (l.length + 1) cap) (l.length + 1) (rflat (l ++ [rmark])) h
theorem lopen {w0 w : World} {A : Asn} {v : Value} {l : List Rw} (s : St w0 (A * lentA v l) w) : ∃ g cap, v = .slice (some ⟨g, 0, none⟩) l.length cap ∧ l.length + 1 ≤ cap ∧ cap ≤ maxLen ∧ St w0 (A * own 98 2 (.slice (some ⟨g, 0, none⟩) (l.length + 1) cap) (l.length + 1) (rflat (l ++ [rmark]))) w := by
  obtain ⟨g', h1, h2, h3, d, e, a, g, cap, rfl, hc, hm, b⟩ := s.holds
  exact ⟨g, cap, rfl, hc, hm, s.of ⟨g', h1, h2, h3, d, e, a, b⟩⟩
theorem lclose {w0 w : World} {A : Asn} {g cap : Nat} {l : List Rw} (hc : l.length + 1 ≤ cap) (hm : cap ≤ maxLen) (s : St w0 (A * own 98 2 (.slice (some ⟨g, 0, none⟩) (l.length + 1) cap) (l.length + 1) (rflat (l ++ [rmark]))) w) : St w0 (A * lentA (.slice (some ⟨g, 0, none⟩) l.length cap) l) w :=
  s.mono (sep_mono (fun _ h => h) fun h hh => ⟨g, cap, rfl, hc, hm, hh⟩)
theorem rflat_app (a b : List Rw) : rflat (a ++ b) = rflat a ++ rflat b := by simp [rflat]
theorem lent_own {w0 w : World} {A : Asn} {v : Value} {l : List Rw} (s : St w0 (A * lentA v l) w) : St w0 (A * own 98 2 v l.length (rflat l)) w := by
  obtain ⟨g, cap, rfl, hc, hm, s1⟩ := lopen s
  rw [rflat_app] at s1
  exact s1.mono (sep_mono (fun _ h => h) fun h hh => own_less (by rw [rflat_len]) hh)
theorem lent_row {w0 w : World} {A : Asn} {v : Value} {l : List Rw} (s : St w0 (A * lentA v l) w) : Row w0 (A * lentA v l) v l.length 2 (rflat l) :=
  (row_own (lent_own s)).mono fun w s => lent_own s
/-- a slice laid; it appended -/
def clsB (X : World → Prop) (Y : Nat → World → Prop) (Z : Value → World → Prop) : List Value → World → Prop
  | [], w => X w
  | [v], w => ∃ c, v = .slice (some ⟨c, 0, none⟩) 1 1 ∧ Y c w
  | _ :: v :: _, w => Z v w
theorem clsB_pre {X : World → Prop} {Y : Nat → World → Prop} {Z : Value → World → Prop} {vs : List Value} {w : World} (he : era 1 vs = era 1 []) (h : clsB X Y Z vs w) : X w := by
  cases vs with
  | nil => exact h
  | cons _ _ => simp [era] at he
theorem lent_spec (l : List Rw) (v : Value) (w0 w : World) (A : Asn) (hl : l.length ≤ 1048576) (hrow : Row w0 A v l.length 2 (rflat l)) (s : St w0 A w) :
    CallW Try.prog 11 [v] (fun r w' => St w0 (A * lentA r l) w') w := by
  obtain ⟨ra, rcap, rfl⟩ := hrow.val
  refine callW_of_lift l11_ok (by simp [l11]) ?_
  simp [l11]
  refine loopI (fun env w' => ∃ (i : Nat) (fv : Value), env = [.slice ra l.length rcap, .slice none 0 0, fv, .int .i64 i] ∧ i ≤ l.length ∧ St w0 (A * own 98 2 fv i (rflat (l.take i))) w')
    (fun env _ => l.length - slotN env 3) ⟨0, _, rfl, by omega, s.own_nil 98 2⟩ ?_
  rintro LQ env w' ⟨i, fv, rfl, hi, s1⟩ hN hX hR
  simp
  refine cndI (fun hc => ?_) (fun hc => ?_)
  · simp at hc
    obtain ⟨g, o, cap', hv, hcell⟩ := hrow.at (by omega)
    cases hv
    simp [hc]
    refine regmI (clsB (St w0 (A * own 98 2 fv i (rflat (l.take i)))) (fun c => St w0 (A * own 98 2 fv i (rflat (l.take i)) * pt c (.cells l[i].cs.toArray 98 (0, 0)))) (fun v => St w0 (A * own 98 2 v (i + 1) (rflat (l.take (i + 1)))))) s1.drew ?_
    simp [hc]
    refine effm_ldc (v := .int .i64 l[i].1) (fun vs' w he hw => by have := hcell w (clsB_pre he hw).drop (i * 2 + 0) _ (rflat_at hc 0 _ rfl); simpa using this) ?_
    simp [hc]
    refine effm_ldc (v := .int .u64 l[i].2) (fun vs' w he hw => by have := hcell w (clsB_pre he hw).drop (i * 2 + 1) _ (rflat_at hc 1 _ rfl); rw [← Nat.add_assoc] at this; exact this) ?_
    simp [Instr.fill, Value.cells]
    refine effm_mv rfl (fun w hw => eff_bslV (v := .agg l[i].cs.toArray) hw rfl fun c w' h => ⟨c, rfl, h⟩) (fun sl hsl => ?_)
    obtain ⟨w7, c, rfl, _⟩ := hsl
    simp
    refine effm_mv rfl (fun w hw => ?_) (fun v' hv' => ?_)
    · obtain ⟨c', e, hw⟩ := hw
      cases e
      refine eff_app (m := 1) (news := l[i].cs) (St.swap hw) rfl (St.cells_look hw) (rw_one _) (by decide) rfl (by unfold maxLen; omega) (by omega) fun v'' w' h => ?_
      have e1 : rflat (l.take i) ++ l[i].cs = rflat (l.take (i + 1)) := by rw [List.take_succ_eq_append_getElem hc, rflat_app]; simp [rflat]
      rw [e1] at h
      exact h.swap.drop
    simp
    intro w9 h9
    try simp (disch := omega) only [wrap64]
    exact hN _ _ ⟨i + 1, _, by simp, by omega, h9⟩ (by simp [slotN]; omega)
  · simp at hc
    simp
    refine hX _ _ _ ?_
    have : i = l.length := by omega
    subst this
    rw [List.take_length] at s1
    simp [Instr.fill, Value.cells]
    refine eff_bslV (v := .agg rmark.cs.toArray) s1 rfl fun c w2 s2 => ?_
    simp
    refine eff_app (m := 1) (news := rmark.cs) s2.swap rfl s2.cells_look (rw_one _) (by decide) rfl (by unfold maxLen; omega) (by omega) fun fv2 w3 s3 => ?_
    have e1 : rflat l ++ rmark.cs = rflat (l ++ [rmark]) := by rw [rflat_app]; simp [rflat]
    rw [e1] at s3
    obtain ⟨g, cap, rfl, hcap, _⟩ := s3.own_at (by omega)
    have hle : l.length ≤ cap := by omega
    simp [hle, Pu.add_zero]
    have hm : cap ≤ maxLen := by
      rcases s3.own.2 with ⟨h, _⟩ | ⟨_, _, _, h, _, hm, _⟩
      · cases h
      · cases h; exact hm
    exact lclose hcap hm s3.swap.drop
/-- an entry with wishes in memory of their own -/
abbrev wshA (g : Nat) : Asn := pt g (.cells #[.int .i64 5, .int .i64 6, .int .i64 7, .int .i64 (-71)] 3 (0, 0))
theorem wished_spec (x : Et) (pr : Int) (wv : Value) (w0 w : World) (A : Asn) (hw : wv.oneCell' = true) (s : St w0 A w) :
    CallW Try.prog 12 [.agg (x.cs pr wv).toArray] (fun r w' => ∃ g, r = .agg (x.cs pr (.slice (some ⟨g, 0, none⟩) 3 4)).toArray ∧ St w0 (A * wshA g) w') w := by
  refine callW_of_lift l12_ok (by simp [l12]) ?_
  simp [l12]
  refine eff_box s fun b w1 s1 => ?_
  simp
  refine eff_new s1 fun b2 w2 s2 => ?_
  simp
  refine eff_bsl4 s2 rfl rfl rfl rfl fun g w3 s3 => ?_
  simp [Pu.add_zero]
  have s4 : St w0 (A * pt b2 (.cells #[.int .i64 0, .int .i64 0, .int .u64 0, .int .u64 0, .slice none 0 0] 46 (0, 0)) * wshA g * pt b (.cells (x.cs pr wv).toArray 46 (0, 0))) w3 := s3.to (by simp only [cells_agg, Value.cells, wshA]; ac_rfl)
  refine eff_st1 s4 rfl (by simp [Et.cs]) fun w4 s5 => ?_
  have s5 : St w0 (A * pt b2 (.cells #[.int .i64 0, .int .i64 0, .int .u64 0, .int .u64 0, .slice none 0 0] 46 (0, 0)) * wshA g * pt b (.cells (x.cs pr (.slice (some ⟨g, 0, none⟩) 3 4)).toArray 46 (0, 0))) w4 := by simpa [Et.cs] using s5
  simp
  refine eff_ldcs (vs := x.cs pr (.slice (some ⟨g, 0, none⟩) 3 4)) s5.row_cells rfl ?_
  simp
  have s6 : St w0 (A * wshA g * pt b (.cells (x.cs pr (.slice (some ⟨g, 0, none⟩) 3 4)).toArray 46 (0, 0)) * pt b2 (.cells #[.int .i64 0, .int .i64 0, .int .u64 0, .int .u64 0, .slice none 0 0] 46 (0, 0))) w4 := s5.to (by ac_rfl)
  refine eff_stA (vs := x.cs pr (.slice (some ⟨g, 0, none⟩) 3 4)) s6 rfl rfl (by simp [Et.cs, Value.oneCell']) (by simp) fun w5 s7 => ?_
  simp
  have s7 : St w0 (A * wshA g * pt b (.cells (x.cs pr (.slice (some ⟨g, 0, none⟩) 3 4)).toArray 46 (0, 0)) * pt b2 (.cells (x.cs pr (.slice (some ⟨g, 0, none⟩) 3 4)).toArray 46 (0, 0))) w5 := by simpa [Et.cs] using s7
  refine rv_cellA (vs := x.cs pr (.slice (some ⟨g, 0, none⟩) 3 4)) rfl s7.row_cells rfl ?_
  simp
  exact ⟨g, rfl, s7.drop.drop⟩
theorem stay_spec (x : Et) (pr : Int) (g : Nat) (w0 w : World) (A : Asn) (s : St w0 (A * wshA g) w) :
    CallW Try.prog 15 [.agg (x.cs pr (.slice (some ⟨g, 0, none⟩) 3 4)).toArray] (fun r w' => r = .bool true ∧ St w0 (A * wshA g) w') w := by
  refine callW_of_lift l15_ok (by simp [l15]) ?_
  simp [l15]
  refine eff_box s fun b w1 s1 => ?_
  simp
  have s2 : St w0 (A * wshA g * pt b (.cells (x.cs pr (.slice (some ⟨g, 0, none⟩) 3 4)).toArray 46 (0, 0))) w1 := s1
  have f := s2.drop.look
  refine eff_ldc (v := .slice (some ⟨g, 0, none⟩) 3 4) ((cell_of s2.look).trans rfl) ?_
  simp [Pu.add_zero]
  refine eff_ldc (v := .slice (some ⟨g, 0, none⟩) 3 4) ((cell_of s2.look).trans rfl) ?_
  simp
  refine eff_ldc (v := .int .i64 5) ((cell_of f).trans rfl) ?_
  simp
  refine eff_ldc (v := .int .i64 6) ((cell_of f).trans rfl) ?_
  simp
  refine eff_ldc (v := .int .i64 7) ((cell_of f).trans rfl) ?_
  simp
  refine eff_ldc (v := .int .i64 (-71)) ((cell_of f).trans rfl) ?_
  simp
  exact s2.drop
end Go.HL.Es

namespace Go.HL.Pu
open Go.HL Go.HL.Nm Go.Proofs
set_option maxRecDepth 4000
set_option linter.unusedVariables false
theorem open_u64 {a : Int} (h : (Lit.int IntKind.u64 a).wf = true) : 0 ≤ a ∧ a ≤ 18446744073709551615 := by simpa [Lit.wf, IntKind.min, IntKind.max, IntKind.signed, IntKind.bits] using h
end Go.HL.Pu

namespace Go.HL.Es
open Go.HL Go.Proofs Go.Deep
set_option maxRecDepth 4000
set_option linter.unusedSimpArgs false
set_option linter.unusedVariables false
theorem open_i64 {m : Int} (w : (Lit.int .i64 m).wf = true) : -9223372036854775808 ≤ m ∧ m ≤ 9223372036854775807 := by
  simpa [Lit.wf, IntKind.min, IntKind.max, IntKind.signed, IntKind.bits] using w
theorem open_u64 {m : Int} (w : (Lit.int .u64 m).wf = true) : 0 ≤ m ∧ m ≤ 18446744073709551615 := by
  simpa [Lit.wf, IntKind.min, IntKind.max, IntKind.signed, IntKind.bits] using w
/-- an entry with its price and its wishes -/
structure Ew where
  x : Et
  pr : Int
  wv : Value
def Ew.cs (e : Ew) : List Value := e.x.cs e.pr e.wv
def eflat (l : List Ew) : List Value := l.flatMap Ew.cs
theorem eflat_at {l : List Ew} {i : Nat} (h : i < l.length) : ∀ j u, (l[i].cs)[j]? = some u → (eflat l)[i * 5 + j]? = some u := by
  intro j u hu
  have hj : j < 5 := (List.getElem?_eq_some_iff.1 hu).1
  unfold eflat
  rw [flat_get Ew.cs 5 (fun _ => rfl) l i j h hj]
  exact hu
section
variable {H : Type} {enc : TypeId × Value → H} {W : World} {base : Nat} {spare : Nat → Bool} {held : Bool} {fuel : Nat} {cs : List Value} {x : DataW H × List MemPlace}
theorem open_ints (h : DataW.trod enc Try.prog W base spare held fuel 44 cs = some x) : ∃ (v : Value) (l : List Int), cs = [v] ∧ v.oneCell' = true ∧ Row W (old W) v l.length 1 (Gd.ints l) := by
  obtain ⟨v, l, h1, h2, h3, h4, h5, h6⟩ := open_erows (α := Int) (fun x => [Value.int .i64 x]) 1 (fun _ => True) (fun _ => 0) Try.underlying44 (by kernel_rfl) (by decide) (fun _ => rfl) (fun n cs x hx => by
    obtain ⟨m, e, _, _⟩ := DataW.trod_int Try.underlying3 hx
    exact ⟨m, e, trivial, Nat.zero_le _⟩) h
  refine ⟨v, l, h1, h2, ?_⟩
  have : l.flatMap (fun x => [Value.int .i64 x]) = Gd.ints l := by
    clear h4 h3 h5 h6
    induction l with
    | nil => rfl
    | cons a l ih => simp [Gd.ints, List.flatMap_cons, ih]
  rw [this] at h4
  exact h4
theorem open_accF (h : DataW.trod enc Try.prog W base spare held fuel 22 cs = some x) :
    ∃ (v : Value) (rows : List Pu.Ac), cs = [v] ∧ Row W (old W) v rows.length 2 (Pu.flat rows) ∧ rows.length ≤ Go.Proofs.Ytiokklaedanjbaa.Rows.uptoBulk x.1 ∧ ∀ r ∈ rows, r.name.length ≤ Go.Proofs.Ytiokklaedanjbaa.Rows.uptoBulk x.1 ∧ 0 ≤ r.coins ∧ r.coins ≤ 18446744073709551615 := by
  obtain ⟨v, rows, h1, h2, h3, h4, h5, h6⟩ := open_erows (α := Pu.Ac) Pu.Ac.cs 2 (fun x => 0 ≤ x.coins ∧ x.coins ≤ 18446744073709551615) (fun x => x.name.length) Try.underlying22 (by kernel_rfl) (by decide) (fun _ => rfl) (fun n cs x hx => by
    obtain ⟨hl, n', hf⟩ := open_field Try.underlying76 hx
    have hl2 : cs.length = 2 := hl.trans (by kernel_rfl)
    match cs, hl2 with
    | [c0, c1], _ =>
      obtain ⟨y0, k0, b0⟩ := hf 0 _ rfl
      obtain ⟨y1, k1, _⟩ := hf 1 _ rfl
      obtain ⟨m0, e0, x0, _⟩ := DataW.trod_string Try.underlying9 k0
      obtain ⟨m1, e1, x1, w1⟩ := DataW.trod_int Try.underlying23 k1
      have f0 : [c0] = [Value.string m0] := e0
      have f1 : [c1] = [Value.int .u64 m1] := e1
      cases f0; cases f1
      refine ⟨⟨m0.data.toList, m1⟩, by simp only [Pu.Ac.cs]; rw [← mk_eta], open_u64 w1, Nat.le_trans ?_ b0⟩
      rw [x0]
      show m0.data.toList.length ≤ Go.Proofs.Ytiokklaedanjbaa.Rows.uptoBulk (DataW.lit (.string m0.data.toList))
      rw [bulk_string]; omega) h
  exact ⟨v, rows, h1, h4, h5, fun x hx => ⟨h6 x hx, h3 x hx⟩⟩
theorem open_itemF (h : DataW.trod enc Try.prog W base spare held fuel 24 cs = some x) :
    ∃ (v : Value) (rows : List Gd.It), cs = [v] ∧ Row W (old W) v rows.length 4 (Gd.flat rows) ∧ rows.length ≤ Go.Proofs.Ytiokklaedanjbaa.Rows.uptoBulk x.1 := by
  obtain ⟨v, rows, h1, h2, _, h3, h4, _⟩ := open_erows (α := Gd.It) Gd.It.cs 4 (fun _ => True) (fun _ => 0) Try.underlying24 (by kernel_rfl) (by decide) (fun _ => rfl) (fun n cs x hx => by
    obtain ⟨row, hr, hc⟩ := open_istruct Try.underlying72 (by kernel_rfl) (by kernel_rfl) hx
    match row, hr with
    | [a, b, c, d], _ => exact ⟨⟨a, b, c, d⟩, hc, trivial, Nat.zero_le _⟩) h
  exact ⟨v, rows, h1, h3, h4⟩
theorem open_rowF (h : DataW.trod enc Try.prog W base spare held fuel 25 cs = some x) :
    ∃ (v : Value) (rows : List Rw), cs = [v] ∧ Row W (old W) v rows.length 2 (rflat rows) ∧ rows.length ≤ Go.Proofs.Ytiokklaedanjbaa.Rows.uptoBulk x.1 ∧ ∀ r ∈ rows, (-9223372036854775808 ≤ r.1 ∧ r.1 < 9223372036854775808) ∧ 0 ≤ r.2 ∧ r.2 < 18446744073709551616 := by
  obtain ⟨v, rows, h1, h2, h3, h4, h5, _⟩ := open_erows (α := Rw) Rw.cs 2 (fun r => (-9223372036854775808 ≤ r.1 ∧ r.1 < 9223372036854775808) ∧ 0 ≤ r.2 ∧ r.2 < 18446744073709551616) (fun _ => 0) Try.underlying25 (by kernel_rfl) (by decide) (fun _ => rfl) (fun n cs x hx => by
    obtain ⟨hl, n', hf⟩ := open_field Try.underlying100 hx
    have hl2 : cs.length = 2 := hl.trans (by kernel_rfl)
    match cs, hl2 with
    | [c0, c1], _ =>
      obtain ⟨y0, k0, _⟩ := hf 0 _ rfl
      obtain ⟨y1, k1, _⟩ := hf 1 _ rfl
      obtain ⟨m0, e0, x0, w0⟩ := DataW.trod_int Try.underlying3 k0
      obtain ⟨m1, e1, x1, w1⟩ := DataW.trod_int Try.underlying23 k1
      have f0 : [c0] = [Value.int .i64 m0] := e0
      have f1 : [c1] = [Value.int .u64 m1] := e1
      cases f0; cases f1
      have h0 := open_i64 w0
      have h1 := open_u64 w1
      exact ⟨(m0, m1), rfl, ⟨⟨h0.1, by simp only; omega⟩, h1.1, by simp only; omega⟩, Nat.zero_le _⟩) h
  exact ⟨v, rows, h1, h4, h5, h3⟩
theorem open_entF (h : DataW.trod enc Try.prog W base spare held fuel 28 cs = some x) :
    ∃ (v : Value) (l : List Ew), cs = [v] ∧ Row W (old W) v l.length 5 (eflat l) ∧ l.length ≤ Go.Proofs.Ytiokklaedanjbaa.Rows.uptoBulk x.1 ∧ ∀ e ∈ l, e.wv.oneCell' = true ∧ 0 ≤ e.x.coins ∧ e.x.coins < 18446744073709551616 := by
  obtain ⟨v, rows, h1, h2, h3, h4, h5, _⟩ := open_erows (α := Ew) Ew.cs 5 (fun e => e.wv.oneCell' = true ∧ 0 ≤ e.x.coins ∧ e.x.coins < 18446744073709551616) (fun _ => 0) Try.underlying28 (by kernel_rfl) (by decide) (fun _ => rfl) (fun n cs x hx => by
    obtain ⟨hl, n', hf⟩ := open_field Try.underlying46 hx
    have hl2 : cs.length = 5 := hl.trans (by kernel_rfl)
    match cs, hl2 with
    | [c0, c1, c2, c3, c4], _ =>
      obtain ⟨y0, k0, _⟩ := hf 0 _ rfl
      obtain ⟨y1, k1, _⟩ := hf 1 _ rfl
      obtain ⟨y2, k2, _⟩ := hf 2 _ rfl
      obtain ⟨y3, k3, _⟩ := hf 3 _ rfl
      obtain ⟨y4, k4, _⟩ := hf 4 _ rfl
      obtain ⟨m0, e0, x0, w0⟩ := DataW.trod_int Try.underlying3 k0
      obtain ⟨m1, e1, x1, w1⟩ := DataW.trod_int Try.underlying3 k1
      obtain ⟨m2, e2, x2, w2⟩ := DataW.trod_int Try.underlying23 k2
      obtain ⟨m3, e3, x3, w3⟩ := DataW.trod_int Try.underlying23 k3
      obtain ⟨wv, l, e4, o4, _⟩ := open_ints k4
      have f0 : [c0] = [Value.int .i64 m0] := e0
      have f1 : [c1] = [Value.int .i64 m1] := e1
      have f2 : [c2] = [Value.int .u64 m2] := e2
      have f3 : [c3] = [Value.int .u64 m3] := e3
      have f4 : [c4] = [wv] := e4
      cases f0; cases f1; cases f2; cases f3; cases f4
      have h2 := open_u64 w2
      exact ⟨⟨⟨m0, m1, m2⟩, m3, c4⟩, rfl, ⟨o4, h2.1, by simp only; omega⟩, Nat.zero_le _⟩) h
  exact ⟨v, rows, h1, h4, h5, h3⟩
end
/-- a start -/
structure Begin where
  lim : Int
  va : Value
  accs : List Pu.Ac
  sup : Int
  most : Int
  vi : Value
  its : List Gd.It
  vr : Value
  rows : List Rw
def Begin.cs (b : Begin) : List Value := [.int .i64 b.lim, b.va, .int .u64 b.sup, .int .i64 b.most, b.vi, b.vr]
structure Begin.ok (b : Begin) (w0 : World) (A : Asn) : Prop where
  lim : -9223372036854775808 ≤ b.lim ∧ b.lim ≤ 9223372036854775807
  most : -9223372036854775808 ≤ b.most ∧ b.most ≤ 9223372036854775807
  sup : 0 ≤ b.sup ∧ b.sup < 18446744073709551616
  accs : Row w0 A b.va b.accs.length 2 (Pu.flat b.accs)
  its : Row w0 A b.vi b.its.length 4 (Gd.flat b.its)
  rows : Row w0 A b.vr b.rows.length 2 (rflat b.rows)
  laccs : b.accs.length ≤ 1048576
  lits : b.its.length ≤ 1048576
  lrows : b.rows.length ≤ 1048576
  each : ∀ x ∈ b.accs, x.name.length ≤ 1048576 ∧ 0 ≤ x.coins ∧ x.coins < 18446744073709551616
  eachR : ∀ r ∈ b.rows, (-9223372036854775808 ≤ r.1 ∧ r.1 < 9223372036854775808) ∧ 0 ≤ r.2 ∧ r.2 < 18446744073709551616
theorem open_start {H : Type} {enc : TypeId × Value → H} {W : World} {spare : Nat → Bool} {v : Value} {d : DataW H} {ps : List MemPlace} (h : DataW.Trod enc Try.prog W 0 spare true 27 v d ps) {base : Nat} (hval : Value.okWide Try.prog W .any base 27 v)
    (hb : Go.Proofs.Ytiokklaedanjbaa.Rows.uptoBulk d ≤ 1048576) : ∃ b : Begin, v = .agg b.cs.toArray ∧ b.ok W (old W) := by
  obtain ⟨cs, rfl, _⟩ := Go.WideShapes.okWide_struct Try.underlying27 hval
  obtain ⟨n, h⟩ := h
  obtain ⟨hl, n', hf⟩ := open_field Try.underlying27 h
  have hl2 : cs.toList.length = 6 := hl.trans (by kernel_rfl)
  obtain ⟨l, rfl⟩ : ∃ l : List Value, cs = l.toArray := ⟨cs.toList, by simp⟩
  simp only [cells_agg] at hf
  have hl2 : l.length = 6 := by simpa using hl2
  match l, hl2 with
  | [c0, c1, c2, c3, c4, c5], _ =>
    obtain ⟨y0, k0, b0⟩ := hf 0 _ rfl
    obtain ⟨y1, k1, b1⟩ := hf 1 _ rfl
    obtain ⟨y2, k2, b2⟩ := hf 2 _ rfl
    obtain ⟨y3, k3, b3⟩ := hf 3 _ rfl
    obtain ⟨y4, k4, b4⟩ := hf 4 _ rfl
    obtain ⟨y5, k5, b5⟩ := hf 5 _ rfl
    obtain ⟨m0, e0, x0, w0⟩ := DataW.trod_int Try.underlying3 k0
    obtain ⟨va, accs, e1, r1, n1, p1⟩ := open_accF k1
    obtain ⟨m2, e2, x2, w2⟩ := DataW.trod_int Try.underlying23 k2
    obtain ⟨m3, e3, x3, w3⟩ := DataW.trod_int Try.underlying3 k3
    obtain ⟨vi, its, e4, r4, n4⟩ := open_itemF k4
    obtain ⟨vr, rows, e5, r5, n5, p5⟩ := open_rowF k5
    have f0 : [c0] = [Value.int .i64 m0] := e0
    have f1 : [c1] = [va] := e1
    have f2 : [c2] = [Value.int .u64 m2] := e2
    have f3 : [c3] = [Value.int .i64 m3] := e3
    have f4 : [c4] = [vi] := e4
    have f5 : [c5] = [vr] := e5
    cases f0; cases f1; cases f2; cases f3; cases f4; cases f5
    have h2 := open_u64 w2
    refine ⟨⟨m0, c1, accs, m2, m3, c4, its, c5, rows⟩, rfl, open_i64 w0, open_i64 w3, ⟨h2.1, by simp only; omega⟩, r1, r4, r5, ?_, ?_, ?_, fun x hx => ?_, p5⟩
    · simp only at *; omega
    · simp only at *; omega
    · simp only at *; omega
    · have := p1 x hx; simp only at *; omega
theorem open_ents {H : Type} {enc : TypeId × Value → H} {W : World} {spare : Nat → Bool} {v : Value} {d : DataW H} {ps : List MemPlace} (h : DataW.Trod enc Try.prog W 0 spare true 28 v d ps) {base : Nat} (hval : Value.okWide Try.prog W .any base 28 v) :
    ∃ l : List Ew, Row W (old W) v l.length 5 (eflat l) ∧ l.length ≤ Go.Proofs.Ytiokklaedanjbaa.Rows.uptoBulk d ∧ ∀ e ∈ l, e.wv.oneCell' = true ∧ 0 ≤ e.x.coins ∧ e.x.coins < 18446744073709551616 := by
  obtain ⟨va, vl, vc, rfl⟩ := Go.WideShapes.okWide_slice Try.underlying28 hval
  obtain ⟨n, h⟩ := h
  obtain ⟨v, l, h1, h2, h3, h4⟩ := open_entF h
  have h1 : [Value.slice va vl vc] = [v] := by simpa [Value.cells] using h1
  cases h1
  exact ⟨l, h2, h3, h4⟩
end Go.HL.Es

namespace Go.HL.Es
open Go.HL Go.Proofs
set_option maxRecDepth 4000
set_option linter.unusedSimpArgs false
set_option linter.unusedVariables false
theorem big_snoc {α : Type} {F : Nat → α → Asn} {Y : Nat → α} {n : Nat} (y : α) : bigA F (upF Y n y) (n + 1) = bigA F Y n * F n y := by
  show prodA _ n * _ = _
  rw [prodA_congr (f := fun j => F j (upF Y n y j)) (g := fun j => F j (Y j)) fun j hj => by simp only [upF_ne Y y (by omega : j ≠ n)]]
  simp only [upF_at]
  rfl
/-- a list that is told: its slice, its numbers -/
abbrev Tl := Value × List Int
def tlA (_ : Nat) (t : Tl) : Asn := own 3 1 t.1 t.2.length (Gd.ints t.2)
def heads (T : Nat → Tl) (n : Nat) : List Value := (List.range n).map fun j => (T j).1
theorem heads_snoc (T : Nat → Tl) (n : Nat) (t : Tl) : heads (upF T n t) (n + 1) = heads T n ++ [t.1] := by
  unfold heads
  rw [List.range_succ, List.map_append]
  congr 1
  · refine List.map_congr_left fun j hj => ?_
    rw [upF_ne _ _ (by have := List.mem_range.1 hj; omega)]
  · simp [upF_at]
theorem heads_at (T : Nat → Tl) {n i : Nat} (h : i < n) : (heads T n)[i]? = some (T i).1 := by simp [heads, h]
/-- the copies, each twice -/
def twice (U : Nat → Tl) (n : Nat) : List Value := (List.range n).map fun j => (U (j / 2)).1
theorem twice_snoc (U : Nat → Tl) (n : Nat) (t : Tl) : twice (upF U n t) (2 * n + 2) = twice U (2 * n) ++ [t.1, t.1] := by
  unfold twice
  rw [show 2 * n + 2 = 2 * n + 1 + 1 from rfl, List.range_succ, List.range_succ, List.map_append, List.map_append, List.append_assoc]
  congr 1
  · refine List.map_congr_left fun j hj => ?_
    rw [upF_ne _ _ (by have := List.mem_range.1 hj; omega)]
  · have e1 : 2 * n / 2 = n := by omega
    have e2 : (2 * n + 1) / 2 = n := by omega
    simp [e1, e2, upF_at]
theorem twice_at (U : Nat → Tl) {n i : Nat} (h : i < n) : (twice U n)[i]? = some (U (i / 2)).1 := by simp [twice, h]
theorem inF_len {lim : Int} {its : List Gd.It} (h : Gd.GI lim its) (c : Int) : (Gd.inF its c).length ≤ 512 := by
  have h1 := h.len
  have h2 := h.lim
  have := List.length_filter_le (fun x : Gd.It => decide (0 < x.con) && decide (x.con = c)) its
  simp only [Gd.inF, List.length_map]
  omega
theorem load_ei {lp lg : Int} {P : Pu.Ps} {its : List Gd.It} {rows : List Rw} (hP : Pu.PI lp P) (hG : Gd.GI lg its) (h : escE rows P.held = 0) : EI lp lg ⟨P, its, rows⟩ := by
  unfold escE at h
  split at h
  · rename_i h1
    split at h
    · rename_i h2; exact ⟨hP, hG, h1, h2⟩
    · cases h
  · cases h
theorem getF_accs {lim : Int} {accs : List Pu.Ac} {sup : Int} (h : (Pu.loadF lim accs sup).1 = 0) (hs : 0 ≤ sup) (hx : ∀ x ∈ accs, x.name.length ≤ 1048576 ∧ 0 ≤ x.coins ∧ x.coins < 18446744073709551616) : Pu.PI lim (Pu.loadF lim accs sup).2 :=
  (Pu.load_PI h hs (fun x hx' => (hx x hx').2.1) (fun i h => (hx _ (List.getElem_mem h)).1)).2
-- bazaar/bazaarlaw17.EscrowOwn
def h3_0 : HC := (.seq (.reg (.done [(3, (.cst (.bool true)))] none)) .ret)
@[simp] theorem h3_0_wp {P : Program} {F : PF P} {Q : EX → List Value → World → Prop} {env : List Value} {w : World} : h3_0.wp F Q env w = HC.wp F (.seq (.reg (.done [(3, (.cst (.bool true)))] none)) .ret) Q env w := rfl
def h3_1 : HC := (.reg (.chk none (.bin .add) (.cons (.inp 18) (.cons (.cst (.int .i64 1)) .nil)) (.done [(18, (.op (.bin .add) (.cons (.inp 18) (.cons (.cst (.int .i64 1)) .nil))))] none)))
@[simp] theorem h3_1_wp {P : Program} {F : PF P} {Q : EX → List Value → World → Prop} {env : List Value} {w : World} : h3_1.wp F Q env w = HC.wp F (.reg (.chk none (.bin .add) (.cons (.inp 18) (.cons (.cst (.int .i64 1)) .nil)) (.done [(18, (.op (.bin .add) (.cons (.inp 18) (.cons (.cst (.int .i64 1)) .nil))))] none))) Q env w := rfl
def h3_2 : HC := (.seq (.reg (.done [(3, (.cst (.bool false)))] none)) .ret)
@[simp] theorem h3_2_wp {P : Program} {F : PF P} {Q : EX → List Value → World → Prop} {env : List Value} {w : World} : h3_2.wp F Q env w = HC.wp F (.seq (.reg (.done [(3, (.cst (.bool false)))] none)) .ret) Q env w := rfl
def h3_3 : HC := (.br (.eff (.call 16) (.cons (.inp 8) (.cons (.inp 18) .nil)) (.eff (.call 19) (.cons (.inp 6) (.cons (.inp 18) .nil)) (.eff (.call 17) (.cons (.bv 0) (.cons (.bv 1) .nil)) (.chk none (.un .not) (.cons (.bv 2) .nil) (.done [] (some (.op (.un .not) (.cons (.bv 2) .nil)))))))) h3_2 .skip)
@[simp] theorem h3_3_wp {P : Program} {F : PF P} {Q : EX → List Value → World → Prop} {env : List Value} {w : World} : h3_3.wp F Q env w = HC.wp F (.br (.eff (.call 16) (.cons (.inp 8) (.cons (.inp 18) .nil)) (.eff (.call 19) (.cons (.inp 6) (.cons (.inp 18) .nil)) (.eff (.call 17) (.cons (.bv 0) (.cons (.bv 1) .nil)) (.chk none (.un .not) (.cons (.bv 2) .nil) (.done [] (some (.op (.un .not) (.cons (.bv 2) .nil)))))))) h3_2 .skip) Q env w := rfl
def h3_4 : HC := (.seq (.block 5 h3_3) h3_1)
@[simp] theorem h3_4_wp {P : Program} {F : PF P} {Q : EX → List Value → World → Prop} {env : List Value} {w : World} : h3_4.wp F Q env w = HC.wp F (.seq (.block 5 h3_3) h3_1) Q env w := rfl
def h3_5 : HC := (.seq (.br (.chk none (.bin .lss) (.cons (.inp 18) (.cons (.cst (.int .i64 5)) .nil)) (.done [] (some (.op (.bin .lss) (.cons (.inp 18) (.cons (.cst (.int .i64 5)) .nil)))))) .skip (.exit 4)) h3_4)
@[simp] theorem h3_5_wp {P : Program} {F : PF P} {Q : EX → List Value → World → Prop} {env : List Value} {w : World} : h3_5.wp F Q env w = HC.wp F (.seq (.br (.chk none (.bin .lss) (.cons (.inp 18) (.cons (.cst (.int .i64 5)) .nil)) (.done [] (some (.op (.bin .lss) (.cons (.inp 18) (.cons (.cst (.int .i64 5)) .nil)))))) .skip (.exit 4)) h3_4) Q env w := rfl
def h3_6 : HC := (.loop h3_5)
@[simp] theorem h3_6_wp {P : Program} {F : PF P} {Q : EX → List Value → World → Prop} {env : List Value} {w : World} : h3_6.wp F Q env w = HC.wp F (.loop h3_5) Q env w := rfl
def h3_7 : HC := (.seq (.block 4 h3_6) h3_0)
@[simp] theorem h3_7_wp {P : Program} {F : PF P} {Q : EX → List Value → World → Prop} {env : List Value} {w : World} : h3_7.wp F Q env w = HC.wp F (.seq (.block 4 h3_6) h3_0) Q env w := rfl
def h3_8 : HC := (.seq (.reg (.done [(18, (.cst (.int .i64 1)))] none)) h3_7)
@[simp] theorem h3_8_wp {P : Program} {F : PF P} {Q : EX → List Value → World → Prop} {env : List Value} {w : World} : h3_8.wp F Q env w = HC.wp F (.seq (.reg (.done [(18, (.cst (.int .i64 1)))] none)) h3_7) Q env w := rfl
def h3_9 : HC := (.seq (.reg (.done [(3, (.cst (.bool false)))] none)) .ret)
@[simp] theorem h3_9_wp {P : Program} {F : PF P} {Q : EX → List Value → World → Prop} {env : List Value} {w : World} : h3_9.wp F Q env w = HC.wp F (.seq (.reg (.done [(3, (.cst (.bool false)))] none)) .ret) Q env w := rfl
def h3_10 : HC := (.seq (.br (.eff (.call 18) (.cons (.inp 10) .nil) (.chk none (.un .not) (.cons (.bv 0) .nil) (.done [] (some (.op (.un .not) (.cons (.bv 0) .nil)))))) h3_9 .skip) h3_8)
@[simp] theorem h3_10_wp {P : Program} {F : PF P} {Q : EX → List Value → World → Prop} {env : List Value} {w : World} : h3_10.wp F Q env w = HC.wp F (.seq (.br (.eff (.call 18) (.cons (.inp 10) .nil) (.chk none (.un .not) (.cons (.bv 0) .nil) (.done [] (some (.op (.un .not) (.cons (.bv 0) .nil)))))) h3_9 .skip) h3_8) Q env w := rfl
def h3_11 : HC := (.reg (.chk none (.bin .add) (.cons (.inp 17) (.cons (.cst (.int .i64 1)) .nil)) (.done [(17, (.op (.bin .add) (.cons (.inp 17) (.cons (.cst (.int .i64 1)) .nil))))] none)))
@[simp] theorem h3_11_wp {P : Program} {F : PF P} {Q : EX → List Value → World → Prop} {env : List Value} {w : World} : h3_11.wp F Q env w = HC.wp F (.reg (.chk none (.bin .add) (.cons (.inp 17) (.cons (.cst (.int .i64 1)) .nil)) (.done [(17, (.op (.bin .add) (.cons (.inp 17) (.cons (.cst (.int .i64 1)) .nil))))] none))) Q env w := rfl
def h3_12 : HC := (.seq (.reg (.done [(3, (.cst (.bool false)))] none)) .ret)
@[simp] theorem h3_12_wp {P : Program} {F : PF P} {Q : EX → List Value → World → Prop} {env : List Value} {w : World} : h3_12.wp F Q env w = HC.wp F (.seq (.reg (.done [(3, (.cst (.bool false)))] none)) .ret) Q env w := rfl
def h3_13 : HC := (.brq (some 1) (.chk none (.idxL 1) (.cons (.inp 10) (.cons (.inp 17) .nil)) (.eff (.ld false 1) (.cons (.op (.idxL 1) (.cons (.inp 10) (.cons (.inp 17) .nil))) .nil) (.chk none (.idxL 1) (.cons (.inp 11) (.cons (.inp 17) .nil)) (.eff (.ld false 1) (.cons (.op (.idxL 1) (.cons (.inp 11) (.cons (.inp 17) .nil))) .nil) (.eff (.call 17) (.cons (.bv 0) (.cons (.bv 1) .nil)) (.chk none (.un .not) (.cons (.bv 2) .nil) (.done [] (some (.op (.un .not) (.cons (.bv 2) .nil)))))))))) h3_12 .skip)
@[simp] theorem h3_13_wp {P : Program} {F : PF P} {Q : EX → List Value → World → Prop} {env : List Value} {w : World} : h3_13.wp F Q env w = HC.wp F (.brq (some 1) (.chk none (.idxL 1) (.cons (.inp 10) (.cons (.inp 17) .nil)) (.eff (.ld false 1) (.cons (.op (.idxL 1) (.cons (.inp 10) (.cons (.inp 17) .nil))) .nil) (.chk none (.idxL 1) (.cons (.inp 11) (.cons (.inp 17) .nil)) (.eff (.ld false 1) (.cons (.op (.idxL 1) (.cons (.inp 11) (.cons (.inp 17) .nil))) .nil) (.eff (.call 17) (.cons (.bv 0) (.cons (.bv 1) .nil)) (.chk none (.un .not) (.cons (.bv 2) .nil) (.done [] (some (.op (.un .not) (.cons (.bv 2) .nil)))))))))) h3_12 .skip) Q env w := rfl
def h3_14 : HC := (.seq (.block 3 h3_13) h3_11)
@[simp] theorem h3_14_wp {P : Program} {F : PF P} {Q : EX → List Value → World → Prop} {env : List Value} {w : World} : h3_14.wp F Q env w = HC.wp F (.seq (.block 3 h3_13) h3_11) Q env w := rfl
def h3_15 : HC := (.seq (.br (.chk none .lenL (.cons (.inp 10) .nil) (.chk none (.bin .lss) (.cons (.inp 17) (.cons (.op .lenL (.cons (.inp 10) .nil)) .nil)) (.done [] (some (.op (.bin .lss) (.cons (.inp 17) (.cons (.op .lenL (.cons (.inp 10) .nil)) .nil))))))) .skip (.exit 2)) h3_14)
@[simp] theorem h3_15_wp {P : Program} {F : PF P} {Q : EX → List Value → World → Prop} {env : List Value} {w : World} : h3_15.wp F Q env w = HC.wp F (.seq (.br (.chk none .lenL (.cons (.inp 10) .nil) (.chk none (.bin .lss) (.cons (.inp 17) (.cons (.op .lenL (.cons (.inp 10) .nil)) .nil)) (.done [] (some (.op (.bin .lss) (.cons (.inp 17) (.cons (.op .lenL (.cons (.inp 10) .nil)) .nil))))))) .skip (.exit 2)) h3_14) Q env w := rfl
def h3_16 : HC := (.loop h3_15)
@[simp] theorem h3_16_wp {P : Program} {F : PF P} {Q : EX → List Value → World → Prop} {env : List Value} {w : World} : h3_16.wp F Q env w = HC.wp F (.loop h3_15) Q env w := rfl
def h3_17 : HC := (.seq (.block 2 h3_16) h3_10)
@[simp] theorem h3_17_wp {P : Program} {F : PF P} {Q : EX → List Value → World → Prop} {env : List Value} {w : World} : h3_17.wp F Q env w = HC.wp F (.seq (.block 2 h3_16) h3_10) Q env w := rfl
def h3_18 : HC := (.seq (.reg (.done [(17, (.cst (.int .i64 0)))] none)) h3_17)
@[simp] theorem h3_18_wp {P : Program} {F : PF P} {Q : EX → List Value → World → Prop} {env : List Value} {w : World} : h3_18.wp F Q env w = HC.wp F (.seq (.reg (.done [(17, (.cst (.int .i64 0)))] none)) h3_17) Q env w := rfl
def h3_19 : HC := (.reg (.chk none (.bin .add) (.cons (.inp 12) (.cons (.cst (.int .i64 1)) .nil)) (.done [(12, (.op (.bin .add) (.cons (.inp 12) (.cons (.cst (.int .i64 1)) .nil))))] none)))
@[simp] theorem h3_19_wp {P : Program} {F : PF P} {Q : EX → List Value → World → Prop} {env : List Value} {w : World} : h3_19.wp F Q env w = HC.wp F (.reg (.chk none (.bin .add) (.cons (.inp 12) (.cons (.cst (.int .i64 1)) .nil)) (.done [(12, (.op (.bin .add) (.cons (.inp 12) (.cons (.cst (.int .i64 1)) .nil))))] none))) Q env w := rfl
def h3_20 : HC := (.reg (.eff (.bsl 44 2 1 #[(.slice none 0 0)] [0, 1]) (.cons (.inp 16) (.cons (.inp 16) .nil)) (.eff (.app 43 43 44 1 24 (.slice none 0 0)) (.cons (.inp 11) (.cons (.bv 0) .nil)) (.done [(11, (.bv 1))] none))))
@[simp] theorem h3_20_wp {P : Program} {F : PF P} {Q : EX → List Value → World → Prop} {env : List Value} {w : World} : h3_20.wp F Q env w = HC.wp F (.reg (.eff (.bsl 44 2 1 #[(.slice none 0 0)] [0, 1]) (.cons (.inp 16) (.cons (.inp 16) .nil)) (.eff (.app 43 43 44 1 24 (.slice none 0 0)) (.cons (.inp 11) (.cons (.bv 0) .nil)) (.done [(11, (.bv 1))] none)))) Q env w := rfl
def h3_21 : HC := (.seq (.reg (.eff (.call 16) (.cons (.inp 8) (.cons (.inp 14) .nil)) (.eff (.bsl 44 2 1 #[(.slice none 0 0)] [0, 1]) (.cons (.inp 15) (.cons (.bv 0) .nil)) (.eff (.app 43 43 44 1 24 (.slice none 0 0)) (.cons (.inp 10) (.cons (.bv 1) .nil)) (.done [(10, (.bv 2))] none))))) h3_20)
@[simp] theorem h3_21_wp {P : Program} {F : PF P} {Q : EX → List Value → World → Prop} {env : List Value} {w : World} : h3_21.wp F Q env w = HC.wp F (.seq (.reg (.eff (.call 16) (.cons (.inp 8) (.cons (.inp 14) .nil)) (.eff (.bsl 44 2 1 #[(.slice none 0 0)] [0, 1]) (.cons (.inp 15) (.cons (.bv 0) .nil)) (.eff (.app 43 43 44 1 24 (.slice none 0 0)) (.cons (.inp 10) (.cons (.bv 1) .nil)) (.done [(10, (.bv 2))] none))))) h3_20) Q env w := rfl
def h3_22 : HC := (.seq (.reg (.eff (.app 44 44 3 1 8 (.int .i64 0)) (.cons (.inp 16) (.cons (.inp 15) .nil)) (.done [(16, (.bv 0))] none))) h3_21)
@[simp] theorem h3_22_wp {P : Program} {F : PF P} {Q : EX → List Value → World → Prop} {env : List Value} {w : World} : h3_22.wp F Q env w = HC.wp F (.seq (.reg (.eff (.app 44 44 3 1 8 (.int .i64 0)) (.cons (.inp 16) (.cons (.inp 15) .nil)) (.done [(16, (.bv 0))] none))) h3_21) Q env w := rfl
def h3_23 : HC := (.seq (.reg (.done [(16, (.cst (.slice none 0 0)))] none)) h3_22)
@[simp] theorem h3_23_wp {P : Program} {F : PF P} {Q : EX → List Value → World → Prop} {env : List Value} {w : World} : h3_23.wp F Q env w = HC.wp F (.seq (.reg (.done [(16, (.cst (.slice none 0 0)))] none)) h3_22) Q env w := rfl
def h3_24 : HC := (.seq (.reg (.eff (.call 16) (.cons (.inp 8) (.cons (.inp 14) .nil)) (.done [(15, (.bv 0))] none))) h3_23)
@[simp] theorem h3_24_wp {P : Program} {F : PF P} {Q : EX → List Value → World → Prop} {env : List Value} {w : World} : h3_24.wp F Q env w = HC.wp F (.seq (.reg (.eff (.call 16) (.cons (.inp 8) (.cons (.inp 14) .nil)) (.done [(15, (.bv 0))] none))) h3_23) Q env w := rfl
def h3_25 : HC := (.seq (.reg (.done [(3, (.cst (.bool false)))] none)) .ret)
@[simp] theorem h3_25_wp {P : Program} {F : PF P} {Q : EX → List Value → World → Prop} {env : List Value} {w : World} : h3_25.wp F Q env w = HC.wp F (.seq (.reg (.done [(3, (.cst (.bool false)))] none)) .ret) Q env w := rfl
def h3_26 : HC := (.seq (.br (.eff (.ld true 5) (.cons (.inp 13) .nil) (.eff (.call 15) (.cons (.bv 0) .nil) (.chk none (.un .not) (.cons (.bv 1) .nil) (.done [] (some (.op (.un .not) (.cons (.bv 1) .nil))))))) h3_25 .skip) h3_24)
@[simp] theorem h3_26_wp {P : Program} {F : PF P} {Q : EX → List Value → World → Prop} {env : List Value} {w : World} : h3_26.wp F Q env w = HC.wp F (.seq (.br (.eff (.ld true 5) (.cons (.inp 13) .nil) (.eff (.call 15) (.cons (.bv 0) .nil) (.chk none (.un .not) (.cons (.bv 1) .nil) (.done [] (some (.op (.un .not) (.cons (.bv 1) .nil))))))) h3_25 .skip) h3_24) Q env w := rfl
def h3_27 : HC := (.reg (.eff (.ld true 5) (.cons (.inp 13) .nil) (.eff (.call 13) (.cons (.inp 8) (.cons (.inp 14) (.cons (.cst (.slice none 0 0)) (.cons (.bv 0) .nil)))) (.done [] none))))
@[simp] theorem h3_27_wp {P : Program} {F : PF P} {Q : EX → List Value → World → Prop} {env : List Value} {w : World} : h3_27.wp F Q env w = HC.wp F (.reg (.eff (.ld true 5) (.cons (.inp 13) .nil) (.eff (.call 13) (.cons (.inp 8) (.cons (.inp 14) (.cons (.cst (.slice none 0 0)) (.cons (.bv 0) .nil)))) (.done [] none)))) Q env w := rfl
def h3_28 : HC := (.reg (.eff (.ld true 5) (.cons (.inp 13) .nil) (.eff (.call 14) (.cons (.inp 8) (.cons (.inp 14) (.cons (.bv 0) .nil))) (.done [] none))))
@[simp] theorem h3_28_wp {P : Program} {F : PF P} {Q : EX → List Value → World → Prop} {env : List Value} {w : World} : h3_28.wp F Q env w = HC.wp F (.reg (.eff (.ld true 5) (.cons (.inp 13) .nil) (.eff (.call 14) (.cons (.inp 8) (.cons (.inp 14) (.cons (.bv 0) .nil))) (.done [] none)))) Q env w := rfl
def h3_29 : HC := (.seq (.br (.chk none (.bin .rem) (.cons (.inp 12) (.cons (.cst (.int .i64 3)) .nil)) (.chk none (.bin .eql) (.cons (.op (.bin .rem) (.cons (.inp 12) (.cons (.cst (.int .i64 3)) .nil))) (.cons (.cst (.int .i64 2)) .nil)) (.done [] (some (.op (.bin .eql) (.cons (.op (.bin .rem) (.cons (.inp 12) (.cons (.cst (.int .i64 3)) .nil))) (.cons (.cst (.int .i64 2)) .nil))))))) h3_27 h3_28) h3_26)
@[simp] theorem h3_29_wp {P : Program} {F : PF P} {Q : EX → List Value → World → Prop} {env : List Value} {w : World} : h3_29.wp F Q env w = HC.wp F (.seq (.br (.chk none (.bin .rem) (.cons (.inp 12) (.cons (.cst (.int .i64 3)) .nil)) (.chk none (.bin .eql) (.cons (.op (.bin .rem) (.cons (.inp 12) (.cons (.cst (.int .i64 3)) .nil))) (.cons (.cst (.int .i64 2)) .nil)) (.done [] (some (.op (.bin .eql) (.cons (.op (.bin .rem) (.cons (.inp 12) (.cons (.cst (.int .i64 3)) .nil))) (.cons (.cst (.int .i64 2)) .nil))))))) h3_27 h3_28) h3_26) Q env w := rfl
def h3_30 : HC := (.seq (.reg (.chk none (.bin .rem) (.cons (.inp 12) (.cons (.cst (.int .i64 4)) .nil)) (.chk none (.bin .add) (.cons (.cst (.int .i64 1)) (.cons (.op (.bin .rem) (.cons (.inp 12) (.cons (.cst (.int .i64 4)) .nil))) .nil)) (.done [(14, (.op (.bin .add) (.cons (.cst (.int .i64 1)) (.cons (.op (.bin .rem) (.cons (.inp 12) (.cons (.cst (.int .i64 4)) .nil))) .nil))))] none)))) h3_29)
@[simp] theorem h3_30_wp {P : Program} {F : PF P} {Q : EX → List Value → World → Prop} {env : List Value} {w : World} : h3_30.wp F Q env w = HC.wp F (.seq (.reg (.chk none (.bin .rem) (.cons (.inp 12) (.cons (.cst (.int .i64 4)) .nil)) (.chk none (.bin .add) (.cons (.cst (.int .i64 1)) (.cons (.op (.bin .rem) (.cons (.inp 12) (.cons (.cst (.int .i64 4)) .nil))) .nil)) (.done [(14, (.op (.bin .add) (.cons (.cst (.int .i64 1)) (.cons (.op (.bin .rem) (.cons (.inp 12) (.cons (.cst (.int .i64 4)) .nil))) .nil))))] none)))) h3_29) Q env w := rfl
def h3_31 : HC := (.seq (.reg (.chk none (.idxL 5) (.cons (.inp 1) (.cons (.inp 12) .nil)) (.eff (.ld true 5) (.cons (.op (.idxL 5) (.cons (.inp 1) (.cons (.inp 12) .nil))) .nil) (.eff (.call 12) (.cons (.bv 0) .nil) (.eff (.new 46 (.agg #[(.int .i64 0), (.int .i64 0), (.int .u64 0), (.int .u64 0), (.slice none 0 0)])) .nil (.eff (.st 5) (.cons (.bv 2) (.cons (.bv 1) .nil)) (.done [(13, (.bv 2))] none))))))) h3_30)
@[simp] theorem h3_31_wp {P : Program} {F : PF P} {Q : EX → List Value → World → Prop} {env : List Value} {w : World} : h3_31.wp F Q env w = HC.wp F (.seq (.reg (.chk none (.idxL 5) (.cons (.inp 1) (.cons (.inp 12) .nil)) (.eff (.ld true 5) (.cons (.op (.idxL 5) (.cons (.inp 1) (.cons (.inp 12) .nil))) .nil) (.eff (.call 12) (.cons (.bv 0) .nil) (.eff (.new 46 (.agg #[(.int .i64 0), (.int .i64 0), (.int .u64 0), (.int .u64 0), (.slice none 0 0)])) .nil (.eff (.st 5) (.cons (.bv 2) (.cons (.bv 1) .nil)) (.done [(13, (.bv 2))] none))))))) h3_30) Q env w := rfl
def h3_32 : HC := (.seq (.block 1 h3_31) h3_19)
@[simp] theorem h3_32_wp {P : Program} {F : PF P} {Q : EX → List Value → World → Prop} {env : List Value} {w : World} : h3_32.wp F Q env w = HC.wp F (.seq (.block 1 h3_31) h3_19) Q env w := rfl
def h3_33 : HC := (.seq (.br (.chk none .lenL (.cons (.inp 1) .nil) (.chk none (.bin .lss) (.cons (.inp 12) (.cons (.op .lenL (.cons (.inp 1) .nil)) .nil)) (.bnd (.op (.bin .lss) (.cons (.inp 12) (.cons (.op .lenL (.cons (.inp 1) .nil)) .nil))) (.chk (some ((.bv 0), true)) (.bin .lss) (.cons (.inp 12) (.cons (.cst (.int .i64 12)) .nil)) (.isb none (.bv 0) (.done [] (some (.ite (.bv 0) true (.op (.bin .lss) (.cons (.inp 12) (.cons (.cst (.int .i64 12)) .nil))) (.cst (.bool false)))))))))) .skip (.exit 0)) h3_32)
@[simp] theorem h3_33_wp {P : Program} {F : PF P} {Q : EX → List Value → World → Prop} {env : List Value} {w : World} : h3_33.wp F Q env w = HC.wp F (.seq (.br (.chk none .lenL (.cons (.inp 1) .nil) (.chk none (.bin .lss) (.cons (.inp 12) (.cons (.op .lenL (.cons (.inp 1) .nil)) .nil)) (.bnd (.op (.bin .lss) (.cons (.inp 12) (.cons (.op .lenL (.cons (.inp 1) .nil)) .nil))) (.chk (some ((.bv 0), true)) (.bin .lss) (.cons (.inp 12) (.cons (.cst (.int .i64 12)) .nil)) (.isb none (.bv 0) (.done [] (some (.ite (.bv 0) true (.op (.bin .lss) (.cons (.inp 12) (.cons (.cst (.int .i64 12)) .nil))) (.cst (.bool false)))))))))) .skip (.exit 0)) h3_32) Q env w := rfl
def h3_34 : HC := (.loop h3_33)
@[simp] theorem h3_34_wp {P : Program} {F : PF P} {Q : EX → List Value → World → Prop} {env : List Value} {w : World} : h3_34.wp F Q env w = HC.wp F (.loop h3_33) Q env w := rfl
def h3_35 : HC := (.seq (.block 0 h3_34) h3_18)
@[simp] theorem h3_35_wp {P : Program} {F : PF P} {Q : EX → List Value → World → Prop} {env : List Value} {w : World} : h3_35.wp F Q env w = HC.wp F (.seq (.block 0 h3_34) h3_18) Q env w := rfl
def h3_36 : HC := (.seq (.reg (.done [(12, (.cst (.int .i64 0)))] none)) h3_35)
@[simp] theorem h3_36_wp {P : Program} {F : PF P} {Q : EX → List Value → World → Prop} {env : List Value} {w : World} : h3_36.wp F Q env w = HC.wp F (.seq (.reg (.done [(12, (.cst (.int .i64 0)))] none)) h3_35) Q env w := rfl
def h3_37 : HC := (.seq (.reg (.done [(10, (.cst (.slice none 0 0))), (11, (.cst (.slice none 0 0)))] none)) h3_36)
@[simp] theorem h3_37_wp {P : Program} {F : PF P} {Q : EX → List Value → World → Prop} {env : List Value} {w : World} : h3_37.wp F Q env w = HC.wp F (.seq (.reg (.done [(10, (.cst (.slice none 0 0))), (11, (.cst (.slice none 0 0)))] none)) h3_36) Q env w := rfl
def h3_38 : HC := (.seq (.reg (.done [(3, (.cst (.bool true)))] none)) .ret)
@[simp] theorem h3_38_wp {P : Program} {F : PF P} {Q : EX → List Value → World → Prop} {env : List Value} {w : World} : h3_38.wp F Q env w = HC.wp F (.seq (.reg (.done [(3, (.cst (.bool true)))] none)) .ret) Q env w := rfl
def h3_39 : HC := (.seq (.br (.chk none (.cal 9) (.cons (.inp 9) .nil) (.chk none (.bin .neq) (.cons (.op (.cal 9) (.cons (.inp 9) .nil)) (.cons (.cst (.int .i64 0)) .nil)) (.done [] (some (.op (.bin .neq) (.cons (.op (.cal 9) (.cons (.inp 9) .nil)) (.cons (.cst (.int .i64 0)) .nil))))))) h3_38 .skip) h3_37)
@[simp] theorem h3_39_wp {P : Program} {F : PF P} {Q : EX → List Value → World → Prop} {env : List Value} {w : World} : h3_39.wp F Q env w = HC.wp F (.seq (.br (.chk none (.cal 9) (.cons (.inp 9) .nil) (.chk none (.bin .neq) (.cons (.op (.cal 9) (.cons (.inp 9) .nil)) (.cons (.cst (.int .i64 0)) .nil)) (.done [] (some (.op (.bin .neq) (.cons (.op (.cal 9) (.cons (.inp 9) .nil)) (.cons (.cst (.int .i64 0)) .nil))))))) h3_38 .skip) h3_37) Q env w := rfl
def h3_40 : HC := (.seq (.reg (.chk none (.fld 5) (.cons (.inp 2) .nil) (.eff (.ld false 1) (.cons (.op (.fld 5) (.cons (.inp 2) .nil)) .nil) (.eff (.call 11) (.cons (.bv 0) .nil) (.eff (.call 10) (.cons (.inp 4) (.cons (.inp 6) (.cons (.bv 1) .nil))) (.chk none (.ext 0) (.cons (.bv 2) .nil) (.chk none (.ext 1) (.cons (.bv 2) .nil) (.done [(8, (.op (.ext 0) (.cons (.bv 2) .nil))), (9, (.op (.ext 1) (.cons (.bv 2) .nil)))] none)))))))) h3_39)
@[simp] theorem h3_40_wp {P : Program} {F : PF P} {Q : EX → List Value → World → Prop} {env : List Value} {w : World} : h3_40.wp F Q env w = HC.wp F (.seq (.reg (.chk none (.fld 5) (.cons (.inp 2) .nil) (.eff (.ld false 1) (.cons (.op (.fld 5) (.cons (.inp 2) .nil)) .nil) (.eff (.call 11) (.cons (.bv 0) .nil) (.eff (.call 10) (.cons (.inp 4) (.cons (.inp 6) (.cons (.bv 1) .nil))) (.chk none (.ext 0) (.cons (.bv 2) .nil) (.chk none (.ext 1) (.cons (.bv 2) .nil) (.done [(8, (.op (.ext 0) (.cons (.bv 2) .nil))), (9, (.op (.ext 1) (.cons (.bv 2) .nil)))] none)))))))) h3_39) Q env w := rfl
def h3_41 : HC := (.seq (.reg (.done [(3, (.cst (.bool true)))] none)) .ret)
@[simp] theorem h3_41_wp {P : Program} {F : PF P} {Q : EX → List Value → World → Prop} {env : List Value} {w : World} : h3_41.wp F Q env w = HC.wp F (.seq (.reg (.done [(3, (.cst (.bool true)))] none)) .ret) Q env w := rfl
def h3_42 : HC := (.seq (.br (.chk none (.cal 9) (.cons (.inp 5) .nil) (.chk none (.bin .neq) (.cons (.op (.cal 9) (.cons (.inp 5) .nil)) (.cons (.cst (.int .i64 0)) .nil)) (.bnd (.op (.bin .neq) (.cons (.op (.cal 9) (.cons (.inp 5) .nil)) (.cons (.cst (.int .i64 0)) .nil))) (.chk (some ((.bv 0), false)) (.cal 9) (.cons (.inp 7) .nil) (.chk (some ((.bv 0), false)) (.bin .neq) (.cons (.op (.cal 9) (.cons (.inp 7) .nil)) (.cons (.cst (.int .i64 0)) .nil)) (.isb none (.bv 0) (.done [] (some (.ite (.bv 0) true (.cst (.bool true)) (.op (.bin .neq) (.cons (.op (.cal 9) (.cons (.inp 7) .nil)) (.cons (.cst (.int .i64 0)) .nil)))))))))))) h3_41 .skip) h3_40)
@[simp] theorem h3_42_wp {P : Program} {F : PF P} {Q : EX → List Value → World → Prop} {env : List Value} {w : World} : h3_42.wp F Q env w = HC.wp F (.seq (.br (.chk none (.cal 9) (.cons (.inp 5) .nil) (.chk none (.bin .neq) (.cons (.op (.cal 9) (.cons (.inp 5) .nil)) (.cons (.cst (.int .i64 0)) .nil)) (.bnd (.op (.bin .neq) (.cons (.op (.cal 9) (.cons (.inp 5) .nil)) (.cons (.cst (.int .i64 0)) .nil))) (.chk (some ((.bv 0), false)) (.cal 9) (.cons (.inp 7) .nil) (.chk (some ((.bv 0), false)) (.bin .neq) (.cons (.op (.cal 9) (.cons (.inp 7) .nil)) (.cons (.cst (.int .i64 0)) .nil)) (.isb none (.bv 0) (.done [] (some (.ite (.bv 0) true (.cst (.bool true)) (.op (.bin .neq) (.cons (.op (.cal 9) (.cons (.inp 7) .nil)) (.cons (.cst (.int .i64 0)) .nil)))))))))))) h3_41 .skip) h3_40) Q env w := rfl
def h3_43 : HC := (.seq (.reg (.chk none (.fld 3) (.cons (.inp 2) .nil) (.eff (.ld false 1) (.cons (.op (.fld 3) (.cons (.inp 2) .nil)) .nil) (.chk none (.fld 4) (.cons (.inp 2) .nil) (.eff (.ld false 1) (.cons (.op (.fld 4) (.cons (.inp 2) .nil)) .nil) (.eff (.call 8) (.cons (.bv 0) (.cons (.bv 1) .nil)) (.chk none (.ext 0) (.cons (.bv 2) .nil) (.chk none (.ext 1) (.cons (.bv 2) .nil) (.done [(6, (.op (.ext 0) (.cons (.bv 2) .nil))), (7, (.op (.ext 1) (.cons (.bv 2) .nil)))] none))))))))) h3_42)
@[simp] theorem h3_43_wp {P : Program} {F : PF P} {Q : EX → List Value → World → Prop} {env : List Value} {w : World} : h3_43.wp F Q env w = HC.wp F (.seq (.reg (.chk none (.fld 3) (.cons (.inp 2) .nil) (.eff (.ld false 1) (.cons (.op (.fld 3) (.cons (.inp 2) .nil)) .nil) (.chk none (.fld 4) (.cons (.inp 2) .nil) (.eff (.ld false 1) (.cons (.op (.fld 4) (.cons (.inp 2) .nil)) .nil) (.eff (.call 8) (.cons (.bv 0) (.cons (.bv 1) .nil)) (.chk none (.ext 0) (.cons (.bv 2) .nil) (.chk none (.ext 1) (.cons (.bv 2) .nil) (.done [(6, (.op (.ext 0) (.cons (.bv 2) .nil))), (7, (.op (.ext 1) (.cons (.bv 2) .nil)))] none))))))))) h3_42) Q env w := rfl
def h3_44 : HC := (.seq (.reg (.chk none (.fld 0) (.cons (.inp 2) .nil) (.eff (.ld false 1) (.cons (.op (.fld 0) (.cons (.inp 2) .nil)) .nil) (.chk none (.fld 1) (.cons (.inp 2) .nil) (.eff (.ld false 1) (.cons (.op (.fld 1) (.cons (.inp 2) .nil)) .nil) (.chk none (.fld 2) (.cons (.inp 2) .nil) (.eff (.ld false 1) (.cons (.op (.fld 2) (.cons (.inp 2) .nil)) .nil) (.eff (.call 7) (.cons (.bv 0) (.cons (.bv 1) (.cons (.bv 2) .nil))) (.chk none (.ext 0) (.cons (.bv 3) .nil) (.chk none (.ext 1) (.cons (.bv 3) .nil) (.done [(4, (.op (.ext 0) (.cons (.bv 3) .nil))), (5, (.op (.ext 1) (.cons (.bv 3) .nil)))] none))))))))))) h3_43)
@[simp] theorem h3_44_wp {P : Program} {F : PF P} {Q : EX → List Value → World → Prop} {env : List Value} {w : World} : h3_44.wp F Q env w = HC.wp F (.seq (.reg (.chk none (.fld 0) (.cons (.inp 2) .nil) (.eff (.ld false 1) (.cons (.op (.fld 0) (.cons (.inp 2) .nil)) .nil) (.chk none (.fld 1) (.cons (.inp 2) .nil) (.eff (.ld false 1) (.cons (.op (.fld 1) (.cons (.inp 2) .nil)) .nil) (.chk none (.fld 2) (.cons (.inp 2) .nil) (.eff (.ld false 1) (.cons (.op (.fld 2) (.cons (.inp 2) .nil)) .nil) (.eff (.call 7) (.cons (.bv 0) (.cons (.bv 1) (.cons (.bv 2) .nil))) (.chk none (.ext 0) (.cons (.bv 3) .nil) (.chk none (.ext 1) (.cons (.bv 3) .nil) (.done [(4, (.op (.ext 0) (.cons (.bv 3) .nil))), (5, (.op (.ext 1) (.cons (.bv 3) .nil)))] none))))))))))) h3_43) Q env w := rfl
def h3_45 : HC := (.seq (.reg (.done [(3, (.cst (.bool false)))] none)) .ret)
@[simp] theorem h3_45_wp {P : Program} {F : PF P} {Q : EX → List Value → World → Prop} {env : List Value} {w : World} : h3_45.wp F Q env w = HC.wp F (.seq (.reg (.done [(3, (.cst (.bool false)))] none)) .ret) Q env w := rfl
def h3_46 : HC := (.seq (.br (.eff (.call 6) .nil (.chk none (.un .not) (.cons (.bv 0) .nil) (.done [] (some (.op (.un .not) (.cons (.bv 0) .nil)))))) h3_45 .skip) h3_44)
@[simp] theorem h3_46_wp {P : Program} {F : PF P} {Q : EX → List Value → World → Prop} {env : List Value} {w : World} : h3_46.wp F Q env w = HC.wp F (.seq (.br (.eff (.call 6) .nil (.chk none (.un .not) (.cons (.bv 0) .nil) (.done [] (some (.op (.un .not) (.cons (.bv 0) .nil)))))) h3_45 .skip) h3_44) Q env w := rfl
def l3 : Lifted := ⟨[0, 1, 2, 4, 5, 6, 7, 8, 9, 10, 11, 12, 13, 14, 15, 16, 17, 18, 19], 141, [.slot 3], (.seq (.reg (.eff (.box 27) (.cons (.inp 0) .nil) (.done [(2, (.bv 0)), (3, (.cst (.bool false)))] none))) h3_46)⟩
theorem l3_ok : liftFn E2 3 400 = some l3 := by kernel_rfl


/-- the frame of the walk's loop -/
abbrev ownA (A : Asn) (p g s : Nat) (lg : Int) (E : Eco) (T U : Nat → Tl) (i : Nat) (all was : Value) : Asn :=
  A * ecoA p g s lg E * bigA tlA T (2 * i) * bigA tlA U i * own 44 1 all (2 * i) (heads T (2 * i)) * own 44 1 was (2 * i) (twice U (2 * i))
theorem own_rest (p g s i : Nat) (lp lg : Int) (E : Eco) (T U : Nat → Tl) (aa aw : Option Addr) (ca cw : Nat) (w0 w : World) (A : Asn) (o0 o1 o2 o3 o4 o5 o7 o9 o12 o13 o14 o15 o16 o17 o18 : Value) (hE : EI lp lg E) (hi : i ≤ 12)
    (hTU : ∀ j, j < 2 * i → (T j).2 = (U (j / 2)).2) (hT : ∀ j, (T j).2.length ≤ 512)
    (h : St w0 (ownA A p g s lg E T U i (.slice aa (2 * i) ca) (.slice aw (2 * i) cw)) w) :
    HC.wp E2 h3_18 (endQ Try.prog [.slot 3] (fun r w' => r = .bool true ∧ St w0 A w'))
      [o0, o1, o2, o3, o4, o5, .pointer (some ⟨g, 0, none⟩), o7, .pointer (some ⟨s, 0, none⟩), o9, .slice aa (2 * i) ca, .slice aw (2 * i) cw, o12, o13, o14, o15, o16, o17, o18] w := by
  have hlen : E.its.length ≤ 1048576 := by have := hE.G.len; have := hE.G.lim; omega
  simp
  refine loopI (fun env w' => ∃ (q : Nat), env = [o0, o1, o2, o3, o4, o5, .pointer (some ⟨g, 0, none⟩), o7, .pointer (some ⟨s, 0, none⟩), o9, .slice aa (2 * i) ca, .slice aw (2 * i) cw, o12, o13, o14, o15, o16, .int .i64 q, o18] ∧ q ≤ 2 * i ∧ St w0 (ownA A p g s lg E T U i (.slice aa (2 * i) ca) (.slice aw (2 * i) cw)) w')
    (fun env _ => 2 * i - slotN env 17) ⟨0, rfl, by omega, h⟩ ?_
  clear h
  rintro LQ env w' ⟨q, rfl, hq, s1⟩ hN hX hR
  simp
  refine cndI (fun hc => ?_) (fun hc => ?_)
  · simp at hc
    have hc : q < 2 * i := by omega
    have look : ∀ {w : World}, St w0 (ownA A p g s lg E T U i (.slice aa (2 * i) ca) (.slice aw (2 * i) cw)) w → ∃ ga gw, aa = some ⟨ga, 0, none⟩ ∧ aw = some ⟨gw, 0, none⟩ ∧ w.cell? ⟨ga, q, none⟩ = some (T q).1 ∧ w.cell? ⟨gw, q, none⟩ = some (U (q / 2)).1 := by
      intro w h
      obtain ⟨gw, _, e1, _, c1⟩ := h.own_at (by omega)
      obtain ⟨ga, _, e2, _, c2⟩ := h.swap.own_at (by omega)
      cases e1; cases e2
      exact ⟨ga, gw, rfl, rfl, c2 _ _ (heads_at T hc), c1 _ _ (twice_at U hc)⟩
    obtain ⟨ga, gw, rfl, rfl, _, _⟩ := look s1
    have rowT : ∀ {w : World}, St w0 (ownA A p g s lg E T U i (.slice (some ⟨ga, 0, none⟩) (2 * i) ca) (.slice (some ⟨gw, 0, none⟩) (2 * i) cw)) w → Row w0 (ownA A p g s lg E T U i (.slice (some ⟨ga, 0, none⟩) (2 * i) ca) (.slice (some ⟨gw, 0, none⟩) (2 * i) cw)) (T q).1 (T q).2.length 1 (Gd.ints (T q).2) := fun h =>
      row_in (e := 3) (B := A * ecoA p g s lg E * bigH tlA T q (2 * i) * bigA tlA U i * own 44 1 (.slice (some ⟨ga, 0, none⟩) (2 * i) ca) (2 * i) (heads T (2 * i)) * own 44 1 (.slice (some ⟨gw, 0, none⟩) (2 * i) cw) (2 * i) (twice U (2 * i))) h (by
        have e : own 3 1 (T q).1 (T q).2.length (Gd.ints (T q).2) = tlA q (T q) := rfl
        simp only [ownA]; rw [e, big_at (F := tlA) hc]; ac_rfl)
    have rowU : ∀ {w : World}, St w0 (ownA A p g s lg E T U i (.slice (some ⟨ga, 0, none⟩) (2 * i) ca) (.slice (some ⟨gw, 0, none⟩) (2 * i) cw)) w → Row w0 (ownA A p g s lg E T U i (.slice (some ⟨ga, 0, none⟩) (2 * i) ca) (.slice (some ⟨gw, 0, none⟩) (2 * i) cw)) (U (q / 2)).1 (U (q / 2)).2.length 1 (Gd.ints (U (q / 2)).2) := fun h =>
      row_in (e := 3) (B := A * ecoA p g s lg E * bigA tlA T (2 * i) * bigH tlA U (q / 2) i * own 44 1 (.slice (some ⟨ga, 0, none⟩) (2 * i) ca) (2 * i) (heads T (2 * i)) * own 44 1 (.slice (some ⟨gw, 0, none⟩) (2 * i) cw) (2 * i) (twice U (2 * i))) h (by
        have e : own 3 1 (U (q / 2)).1 (U (q / 2)).2.length (Gd.ints (U (q / 2)).2) = tlA (q / 2) (U (q / 2)) := rfl
        simp only [ownA]; rw [e, big_at (F := tlA) (Y := U) (by omega : q / 2 < i)]; ac_rfl)
    generalize hB : ownA A p g s lg E T U i (.slice (some ⟨ga, 0, none⟩) (2 * i) ca) (.slice (some ⟨gw, 0, none⟩) (2 * i) cw) = B at *
    have lk : ∀ {w : World}, St w0 B w → w.cell? ⟨ga, q, none⟩ = some (T q).1 ∧ w.cell? ⟨gw, q, none⟩ = some (U (q / 2)).1 := fun h => by
      obtain ⟨_, _, e1, e2, h1, h2⟩ := look h
      cases e1; cases e2
      exact ⟨h1, h2⟩
    have hcq : (q : Int) < 2 * (i : Int) := by omega
    simp [hcq]
    refine brmI (clsR (St w0 B) (.bool true) (St w0 B)) s1.drew ?_
    simp [hcq]
    refine effm_ldc (fun vs' w he hw => (lk (clsR_pre he hw)).1) ?_
    simp [hcq]
    refine effm_ldc (fun vs' w he hw => (lk (clsR_pre he hw)).2) ?_
    simp
    refine effm_mv (by rfl) (fun w hw => eff_call ((ints_spec (T q).2 (U (q / 2)).2 _ _ w0 w B (by have := hT q; omega) (rowT hw) (rowU hw) hw).mono ?_)) (fun r hr => ?_)
    · rintro r w' ⟨rfl, h⟩
      refine ⟨?_, h⟩
      rw [hTU q hc]; simp
    obtain ⟨_, rfl, _⟩ := hr
    simp
    rintro w2 ⟨_, s2⟩
    try simp (disch := omega) only [wrap64]
    refine hN _ _ ⟨q + 1, by simp, by omega, s2⟩ (by simp [slotN]; omega)
  · simp at hc
    simp
    refine hX _ _ _ ?_
    simp
    have e0 : bigA tlA T (2 * i) = bigA (fun j zs => own 3 1 ((T j).1) ((fun j => (T j).2) j).length (Gd.ints zs)) (fun j => (T j).2) (2 * i) := big_congr fun j hj => rfl
    have s3 : St w0 (A * ecoA p g s lg E * bigA tlA U i * own 44 1 (.slice aw (2 * i) cw) (2 * i) (twice U (2 * i)) * own 44 1 (.slice aa (2 * i) ca) (2 * i) (heads T (2 * i)) * bigA tlA T (2 * i)) w' := s1.to (by simp only [ownA]; ac_rfl)
    have hrow := row_own s3.drop
    rw [e0] at s3
    refine eff_call ((markInts_spec (fun j => (T j).1) (fun j => (T j).2) (2 * i) _ w0 w' _ (by omega) (fun j => by have := hT j; omega) hrow s3).mono ?_)
    rintro r w2 ⟨rfl, s4⟩
    have s5 := s4.drop.drop.drop
    simp
    refine loopI (fun env w' => ∃ (n : Nat), env = [o0, o1, o2, o3, o4, o5, .pointer (some ⟨g, 0, none⟩), o7, .pointer (some ⟨s, 0, none⟩), o9, .slice aa (2 * i) ca, .slice aw (2 * i) cw, o12, o13, o14, o15, o16, .int .i64 q, .int .i64 n] ∧ n ≤ 5 ∧ St w0 (A * ecoA p g s lg E) w')
      (fun env _ => 5 - slotN env 18) ⟨1, rfl, by omega, s5⟩ ?_
    rintro LQ2 env w3 ⟨n, rfl, hn, s6⟩ hN2 hX2 hR2
    simp
    refine cndI (fun hc2 => ?_) (fun hc2 => ?_)
    · simp at hc2
      simp
      refine eff_call ((Items_spec p g s lp lg n E w0 w3 A hE s6).mono ?_)
      intro r1 w4 s7
      simp
      have s8 : St w0 (A * Pu.pur p E.P * esc s p g E.l * own 3 1 r1 (Gd.inF E.its n).length (Gd.ints (Gd.inF E.its n)) * Gd.gds g lg E.its) w4 := s7.to (by simp only [ecoA]; ac_rfl)
      refine eff_call ((Gd.In_spec g lg E.its n w0 w4 _ hlen s8).mono ?_)
      intro r2 w5 s9
      simp
      refine eff_call ((ints_spec (Gd.inF E.its n) (Gd.inF E.its n) r1 r2 w0 w5 _ (by have := inF_len hE.G n; omega) (row_in (e := 3) (B := A * Pu.pur p E.P * esc s p g E.l * Gd.gds g lg E.its * own 3 1 r2 (Gd.inF E.its n).length (Gd.ints (Gd.inF E.its n))) s9 (by ac_rfl)) (row_own s9) s9).mono ?_)
      rintro r w6 ⟨rfl, s10⟩
      simp
      try simp (disch := omega) only [wrap64]
      refine hN2 _ _ ⟨n + 1, by simp, by omega, s10.cut (own 3 1 r1 (Gd.inF E.its n).length (Gd.ints (Gd.inF E.its n)) * own 3 1 r2 (Gd.inF E.its n).length (Gd.ints (Gd.inF E.its n))) (by simp only [ecoA]; ac_rfl)⟩ (by simp [slotN]; omega)
    · simp at hc2
      simp
      refine hX2 _ _ _ ?_
      simp
      exact s6.drop
theorem own_nilS {w0 w : World} {A : Asn} (s : St w0 A w) (e size : Nat) : St w0 (A * own e size (.slice none 0 0) 0 []) w := s.own_nil e size
/-- what is told twice, once copied -/
theorem own_mid (Q : EX → List Value → World → Prop) (p g s c gw i : Nat) (lp lg n pr : Int) (x : Et) (E : Eco) (T U : Nat → Tl) (aa aw : Option Addr) (ca cw : Nat) (w0 w : World) (A : Asn) (o0 o1 o2 o3 o4 o5 o6 o7 o9 o15 o16 o17 o18 : Value) (hE : EI lp lg E) (hi : i < 12)
    (hTU : ∀ j, j < 2 * i → (T j).2 = (U (j / 2)).2) (hT : ∀ j, (T j).2.length ≤ 512)
    (h : St w0 (ownA A p g s lg E T U i (.slice aa (2 * i) ca) (.slice aw (2 * i) cw) * pt c (.cells (x.cs pr (.slice (some ⟨gw, 0, none⟩) 3 4)).toArray 46 (0, 0)) * wshA gw) w)
    (hQ : ∀ (all was a15 a16 : Value) (T' U' : Nat → Tl) (w' : World), (∀ j, j < 2 * (i + 1) → (T' j).2 = (U' (j / 2)).2) → (∀ j, (T' j).2.length ≤ 512) → St w0 (ownA A p g s lg E T' U' (i + 1) all was) w' →
      Q .nrm [o0, o1, o2, o3, o4, o5, o6, o7, .pointer (some ⟨s, 0, none⟩), o9, all, was, .int .i64 i, .pointer (some ⟨c, 0, none⟩), .int .i64 n, a15, a16, o17, o18] w') :
    HC.wp E2 h3_26 Q
      [o0, o1, o2, o3, o4, o5, o6, o7, .pointer (some ⟨s, 0, none⟩), o9, .slice aa (2 * i) ca, .slice aw (2 * i) cw, .int .i64 i, .pointer (some ⟨c, 0, none⟩), .int .i64 n, o15, o16, o17, o18] w := by
  have hb : (Gd.inF E.its n).length ≤ 512 := inF_len hE.G n
  simp
  refine eff_ldcs (vs := x.cs pr (.slice (some ⟨gw, 0, none⟩) 3 4)) h.drop.row_cells rfl ?_
  simp
  refine eff_call ((stay_spec x pr gw w0 w _ h).mono ?_)
  rintro r w1 ⟨rfl, h1⟩
  simp
  have s1 := h1.drop.drop
  clear h h1
  have t1 : St w0 (A * bigA tlA T (2 * i) * bigA tlA U i * own 44 1 (.slice aa (2 * i) ca) (2 * i) (heads T (2 * i)) * own 44 1 (.slice aw (2 * i) cw) (2 * i) (twice U (2 * i)) * ecoA p g s lg E) w1 := s1.to (by simp only [ownA]; ac_rfl)
  refine eff_call ((Items_spec p g s lp lg n E w0 w1 _ hE t1).mono ?_)
  intro r1 w2 t2
  generalize hZ : Gd.inF E.its n = Z at *
  simp
  refine eff_appR (own_nilS t2 3 1) ((row_own t2).mono fun w s => s.drop) (Gd.ints_one _) (by decide) rfl (by unfold maxLen; omega) (by omega) fun cv w3 t3 => ?_
  simp at t3 ⊢
  have t4 : St w0 (A * bigA tlA T (2 * i) * bigA tlA U i * own 44 1 (.slice aa (2 * i) ca) (2 * i) (heads T (2 * i)) * own 44 1 (.slice aw (2 * i) cw) (2 * i) (twice U (2 * i)) * own 3 1 r1 Z.length (Gd.ints Z) * own 3 1 cv Z.length (Gd.ints Z) * ecoA p g s lg E) w3 := t3.to (by simp only [ecoA]; ac_rfl)
  refine eff_call ((Items_spec p g s lp lg n E w0 w3 _ hE t4).mono ?_)
  intro r2 w4 t5
  rw [hZ] at t5
  obtain ⟨a1, c1, e1, _⟩ := t5.drop.drop.swap.own_val
  obtain ⟨a2, c2, e2, _⟩ := t5.own_val
  obtain ⟨a3, c3, e3, _⟩ := t5.drop.drop.own_val
  have one1 : r1.oneCell' = true := by rw [e1]; rfl
  have one2 : r2.oneCell' = true := by rw [e2]; rfl
  have one3 : cv.oneCell' = true := by rw [e3]; rfl
  clear e1 e2 e3
  simp
  refine eff_bslO t5 (vs := [r1, r2]) (by simp [one1, one2]) rfl rfl (by decide) fun bv w5 t6 => ?_
  simp
  have t7 : St w0 (A * bigA tlA T (2 * i) * bigA tlA U i * own 44 1 (.slice aw (2 * i) cw) (2 * i) (twice U (2 * i)) * own 3 1 r1 Z.length (Gd.ints Z) * own 3 1 cv Z.length (Gd.ints Z) * ecoA p g s lg E * own 3 1 r2 Z.length (Gd.ints Z) * own 44 1 bv 2 [r1, r2] * own 44 1 (.slice aa (2 * i) ca) (2 * i) (heads T (2 * i))) w5 := t6.to (by ac_rfl)
  refine eff_appR t7 ((row_own t7.drop).mono fun w s => s.drop) (by simp [one1, one2]) (by decide) rfl (by unfold maxLen; omega) (by omega) fun all w6 t8 => ?_
  simp
  refine eff_bslO t8 (vs := [cv, cv]) (by simp [one3]) rfl rfl (by decide) fun bv2 w7 t9 => ?_
  simp
  have t10 : St w0 (A * bigA tlA T (2 * i) * bigA tlA U i * own 3 1 r1 Z.length (Gd.ints Z) * own 3 1 cv Z.length (Gd.ints Z) * ecoA p g s lg E * own 3 1 r2 Z.length (Gd.ints Z) * own 44 1 bv 2 [r1, r2] * own 44 1 all (2 * i + 2) (heads T (2 * i) ++ [r1, r2]) * own 44 1 bv2 2 [cv, cv] * own 44 1 (.slice aw (2 * i) cw) (2 * i) (twice U (2 * i))) w7 := t9.to (by ac_rfl)
  refine eff_appR t10 ((row_own t10.drop).mono fun w s => s.drop) (by simp [one3]) (by decide) rfl (by unfold maxLen; omega) (by omega) fun was w8 t11 => ?_
  simp
  refine hQ all was r1 cv (upF (upF T (2 * i) (r1, Z)) (2 * i + 1) (r2, Z)) (upF U i (cv, Z)) w8 (fun j hj => ?_) (fun j => ?_) ?_
  · by_cases ej : j = 2 * i + 1
    · subst ej
      rw [upF_at, show (2 * i + 1) / 2 = i by omega, upF_at]
    · rw [upF_ne _ _ ej]
      by_cases ek : j = 2 * i
      · subst ek
        rw [upF_at, show 2 * i / 2 = i by omega, upF_at]
      · rw [upF_ne _ _ ek, upF_ne _ _ (by omega)]
        exact hTU j (by omega)
  · by_cases ej : j = 2 * i + 1
    · subst ej; rw [upF_at]; exact hb
    · rw [upF_ne _ _ ej]
      by_cases ek : j = 2 * i
      · subst ek; rw [upF_at]; exact hb
      · rw [upF_ne _ _ ek]; exact hT j
  · have b1 : bigA tlA (upF (upF T (2 * i) (r1, Z)) (2 * i + 1) (r2, Z)) (2 * (i + 1)) = bigA tlA T (2 * i) * own 3 1 r1 Z.length (Gd.ints Z) * own 3 1 r2 Z.length (Gd.ints Z) := by
      rw [show 2 * (i + 1) = 2 * i + 1 + 1 by omega, big_snoc, big_snoc]; rfl
    have b2 : bigA tlA (upF U i (cv, Z)) (i + 1) = bigA tlA U i * own 3 1 cv Z.length (Gd.ints Z) := by rw [big_snoc]; rfl
    have b3 : heads (upF (upF T (2 * i) (r1, Z)) (2 * i + 1) (r2, Z)) (2 * (i + 1)) = heads T (2 * i) ++ [r1, r2] := by
      rw [show 2 * (i + 1) = 2 * i + 1 + 1 by omega, heads_snoc, heads_snoc]; simp
    have b4 : twice (upF U i (cv, Z)) (2 * (i + 1)) = twice U (2 * i) ++ [cv, cv] := by rw [show 2 * (i + 1) = 2 * i + 2 by omega, twice_snoc]
    simp only [ownA]
    rw [b1, b2, b3, b4]
    refine t11.cut (own 44 1 bv 2 [r1, r2] * own 44 1 bv2 2 [cv, cv]) ?_
    rw [show 2 * (i + 1) = 2 * i + 2 by omega]
    simp only [ecoA]
    ac_rfl
set_option maxHeartbeats 1000000 in
theorem own_loop (p g s b : Nat) (lp lg : Int) (E0 : Eco) (bg : Begin) (ents : List Ew) (ve : Value) (w0 w : World) (A : Asn) (o0 o3 o5 o7 o9 o10 o11 o12 o13 o14 o15 o16 o17 o18 : Value) (hE0 : EI lp lg E0)
    (hn : ents.length ≤ 1048576) (hr : Row w0 A ve ents.length 5 (eflat ents)) (hx : ∀ e ∈ ents, e.wv.oneCell' = true ∧ 0 ≤ e.x.coins ∧ e.x.coins < 18446744073709551616) (h : St w0 (A * ecoA p g s lg E0) w) :
    HC.wp E2 h3_37 (endQ Try.prog [.slot 3] (fun r w' => r = .bool true ∧ St w0 A w'))
      [o0, ve, .pointer (some ⟨b, 0, none⟩), o3, .pointer (some ⟨p, 0, none⟩), o5, .pointer (some ⟨g, 0, none⟩), o7, .pointer (some ⟨s, 0, none⟩), o9, o10, o11, o12, o13, o14, o15, o16, o17, o18] w := by
  obtain ⟨ea, ecap, rfl⟩ := hr.val
  simp
  refine loopI (fun env w' => ∃ (i : Nat) (E : Eco) (T U : Nat → Tl) (all was o13 o14 o15 o16 : Value), env = [o0, .slice ea ents.length ecap, .pointer (some ⟨b, 0, none⟩), o3, .pointer (some ⟨p, 0, none⟩), o5, .pointer (some ⟨g, 0, none⟩), o7, .pointer (some ⟨s, 0, none⟩), o9, all, was, .int .i64 i, o13, o14, o15, o16, o17, o18] ∧
      i ≤ ents.length ∧ i ≤ 12 ∧ EI lp lg E ∧ (∀ j, j < 2 * i → (T j).2 = (U (j / 2)).2) ∧ (∀ j, (T j).2.length ≤ 512) ∧ St w0 (ownA A p g s lg E T U i all was) w')
    (fun env _ => 12 - slotN env 12) ⟨0, E0, fun _ => (undef, []), fun _ => (undef, []), _, _, _, _, _, _, rfl, by omega, by omega, hE0, fun j hj => by omega, fun j => by simp, ?_⟩ ?_
  · refine ((own_nilS h 44 1).own_nil 44 1).to ?_
    have e1 : bigA tlA (fun _ => ((undef, []) : Tl)) (2 * 0) = emp := rfl
    have e2 : bigA tlA (fun _ => ((undef, []) : Tl)) 0 = emp := rfl
    simp only [ownA]
    rw [e1, sep_emp, sep_emp]
    rfl
  rintro LQ env w' ⟨i, E, T, U, all, was, o13, o14, o15, o16, rfl, hi, hi12, hE, hTU, hT, s1⟩ hN hX hR
  obtain ⟨aa, ca, rfl, _⟩ := s1.swap.own_val
  obtain ⟨aw, cw, rfl, _⟩ := s1.own_val
  simp
  have stop : ¬ (i < ents.length ∧ i < 12) → LQ (.ex 0) [o0, .slice ea ents.length ecap, .pointer (some ⟨b, 0, none⟩), o3, .pointer (some ⟨p, 0, none⟩), o5, .pointer (some ⟨g, 0, none⟩), o7, .pointer (some ⟨s, 0, none⟩), o9, .slice aa (2 * i) ca, .slice aw (2 * i) cw, .int .i64 i, o13, o14, o15, o16, o17, o18] w' := fun hs => by
    refine hX _ _ _ ?_
    simp
    have := own_rest p g s i lp lg E T U aa aw ca cw w0 w' A o0 (.slice ea ents.length ecap) (.pointer (some ⟨b, 0, none⟩)) o3 (.pointer (some ⟨p, 0, none⟩)) o5 o7 o9 (.int .i64 i) o13 o14 o15 o16 o17 o18 hE hi12 hTU hT s1
    simpa using this
  by_cases hlen : i < ents.length
  · by_cases h12 : i < 12
    · have h12i : (i : Int) < 12 := by omega
      obtain ⟨eg, eo, ecap', hv, hcell⟩ := hr.at (by omega)
      cases hv
      simp [hlen, h12i]
      obtain ⟨hw1, hw2⟩ := hx ents[i] (List.getElem_mem hlen)
      have hq : (i : Int).tmod 4 = ((i % 4 : Nat) : Int) := by rw [Int.tmod_eq_emod_of_nonneg (by omega)]; omega
      have hq3 : (i : Int).tmod 3 = ((i % 3 : Nat) : Int) := by rw [Int.tmod_eq_emod_of_nonneg (by omega)]; omega
      have hn4 : ((i % 4 : Nat) : Int) < 4 := by omega
      have sA : St w0 A w' := s1.drop.drop.drop.drop.cut (ecoA p g s lg E) rfl
      refine eff_ldcs (vs := ents[i].cs) (fun j u hu => by rw [Nat.add_assoc]; exact hcell w' sA _ _ (eflat_at hlen j u hu)) rfl ?_
      simp
      refine eff_call ((wished_spec ents[i].x ents[i].pr ents[i].wv w0 w' _ hw1 s1).mono ?_)
      rintro r w2 ⟨gw, rfl, s2⟩
      simp
      refine eff_new s2 fun c w3 s3 => ?_
      simp
      refine eff_stA (vs := ents[i].x.cs ents[i].pr (.slice (some ⟨gw, 0, none⟩) 3 4)) s3 rfl rfl (by simp [Et.cs, Value.oneCell']) (by simp) fun w4 s4 => ?_
      have s4 : St w0 (ownA A p g s lg E T U i (.slice aa (2 * i) ca) (.slice aw (2 * i) cw) * wshA gw * pt c (.cells (ents[i].x.cs ents[i].pr (.slice (some ⟨gw, 0, none⟩) 3 4)).toArray 46 (0, 0))) w4 := by simpa [Et.cs] using s4
      simp [hq, hq3]
      try simp (disch := omega) only [wrap64]
      have hxc := hw2
      obtain ⟨n, hnn⟩ : ∃ n : Int, 1 + (i : Int) % 4 = n := ⟨_, rfl⟩
      have nb : -9223372036854775808 ≤ n ∧ n < 9223372036854775808 := by omega
      have s5 : St w0 (A * bigA tlA T (2 * i) * bigA tlA U i * own 44 1 (.slice aa (2 * i) ca) (2 * i) (heads T (2 * i)) * own 44 1 (.slice aw (2 * i) cw) (2 * i) (twice U (2 * i)) * wshA gw * pt c (.cells (ents[i].x.cs ents[i].pr (.slice (some ⟨gw, 0, none⟩) 3 4)).toArray 46 (0, 0)) * ecoA p g s lg E) w4 := s4.to (by simp only [ownA]; ac_rfl)
      have hE' : EI lp lg (turnF n [] (putE n ents[i].x) E).2 := turn_ei hE nb.2 (by simp) fun E h1 h => put_ei h ⟨h1, nb.2⟩ hxc
      have tail : ∀ w5, St w0 (A * bigA tlA T (2 * i) * bigA tlA U i * own 44 1 (.slice aa (2 * i) ca) (2 * i) (heads T (2 * i)) * own 44 1 (.slice aw (2 * i) cw) (2 * i) (twice U (2 * i)) * wshA gw * pt c (.cells (ents[i].x.cs ents[i].pr (.slice (some ⟨gw, 0, none⟩) 3 4)).toArray 46 (0, 0)) * ecoA p g s lg (turnF n [] (putE n ents[i].x) E).2) w5 →
          HC.wp E2 h3_26 (blockQ 1 (seqQ E2 h3_19 LQ))
            [o0, .slice (some ⟨eg, eo, none⟩) ents.length ecap, .pointer (some ⟨b, 0, none⟩), o3, .pointer (some ⟨p, 0, none⟩), o5, .pointer (some ⟨g, 0, none⟩), o7, .pointer (some ⟨s, 0, none⟩), o9, .slice aa (2 * i) ca, .slice aw (2 * i) cw, .int .i64 i, .pointer (some ⟨c, 0, none⟩), .int .i64 n, o15, o16, o17, o18] w5 := by
        intro w5 s6
        refine own_mid _ p g s c gw i lp lg n ents[i].pr ents[i].x _ T U aa aw ca cw w0 w5 A _ _ _ _ _ _ _ _ _ _ _ _ _ hE' h12 hTU hT (s6.to (by simp only [ownA]; ac_rfl)) ?_
        intro all was a15 a16 T' U' w6 hTU' hT' s7
        simp
        try simp (disch := omega) only [wrap64]
        exact hN _ _ ⟨i + 1, _, T', U', all, was, _, _, _, _, by simp; exact ⟨rfl, rfl, rfl, rfl⟩, by omega, by omega, hE', hTU', hT', s7⟩ (by simp [slotN]; omega)
      rw [hnn]
      refine cndI (fun hc => ?_) (fun hc => ?_)
      · simp
        refine eff_ldcs (vs := ents[i].x.cs ents[i].pr (.slice (some ⟨gw, 0, none⟩) 3 4)) s4.row_cells rfl ?_
        simp
        refine eff_call ((Turn_spec p g s lp lg n ents[i].pr [] (.slice none 0 0) ents[i].x (.slice (some ⟨gw, 0, none⟩) 3 4) E w0 w4 _ hE nb (by simp) hxc (by simp) (row_nil w0 _ 3) s5).mono ?_)
        rintro r w5 ⟨rfl, s6⟩
        have := tail w5 s6
        simpa using this
      · simp
        refine eff_ldcs (vs := ents[i].x.cs ents[i].pr (.slice (some ⟨gw, 0, none⟩) 3 4)) s4.row_cells rfl ?_
        simp
        refine eff_call ((Put_spec p g s lp lg n ents[i].pr ents[i].x (.slice (some ⟨gw, 0, none⟩) 3 4) E w0 w4 _ hE nb hxc s5).mono ?_)
        rintro r w5 ⟨rfl, s6⟩
        have := tail w5 s6
        simpa using this
    · have h12i : ¬ (i : Int) < 12 := by omega
      simp [hlen, h12i]
      exact stop (by omega)
  · simp [hlen]
    exact stop (by omega)
set_option maxHeartbeats 1000000 in
theorem own_walk (bg : Begin) (ents : List Ew) (ve : Value) (w0 w : World) (A : Asn) (hb : bg.ok w0 A) (hn : ents.length ≤ 1048576) (hr : Row w0 A ve ents.length 5 (eflat ents))
    (hx : ∀ e ∈ ents, e.wv.oneCell' = true ∧ 0 ≤ e.x.coins ∧ e.x.coins < 18446744073709551616) (s : St w0 A w) :
    CallW Try.prog 3 [.agg bg.cs.toArray, ve] (fun r w' => r = .bool true ∧ St w0 A w') w := by
  refine callW_of_lift l3_ok (by simp [l3]) ?_
  simp [l3]
  refine eff_box s fun b w1 s1 => ?_
  simp
  have s1 : St w0 (A * pt b (.cells bg.cs.toArray 27 (0, 0))) w1 := s1
  have f : ∀ {w : World}, St w0 (A * pt b (.cells bg.cs.toArray 27 (0, 0))) w → ∀ j u, bg.cs[j]? = some u → w.cell? ⟨b, j, none⟩ = some u := fun h j u hu => by
    have := h.row_cells j u hu; simpa using this
  refine eff_call ((awake_spec w0 w1 _ s1).mono ?_)
  rintro r w2 ⟨rfl, s2⟩
  simp
  refine eff_ldc (v := .int .i64 bg.lim) (f s2 0 _ rfl) ?_
  simp
  refine eff_ldc (v := bg.va) (f s2 1 _ rfl) ?_
  simp
  refine eff_ldc (v := .int .u64 bg.sup) (f s2 2 _ rfl) ?_
  simp
  refine eff_call ((Pu.Load_spec bg.lim bg.accs bg.sup bg.va w0 w2 _ hb.laccs hb.sup (fun x hx => (hb.each x hx).1) (fun x hx => (hb.each x hx).2) (hb.accs.mono fun w s => s.drop) s2).mono ?_)
  intro r w3 h3
  -- whether the purse is there or not, the goods are loaded
  have goods : ∀ (pv : Value) (e : Int) (X : Asn) (w3 : World), St w0 (A * pt b (.cells bg.cs.toArray 27 (0, 0)) * X) w3 → w3.cell? ⟨b, 3, none⟩ = some (.int .i64 bg.most) ∧ w3.cell? ⟨b, 4, none⟩ = some bg.vi := fun pv e X w3 h => ⟨f h.drop 3 _ rfl, f h.drop 4 _ rfl⟩
  by_cases hld : (Pu.loadF bg.lim bg.accs bg.sup).1 = 0
  · rw [if_pos hld] at h3
    obtain ⟨p, rfl, s3⟩ := h3
    have hP := getF_accs hld hb.sup.1 hb.each
    generalize (Pu.loadF bg.lim bg.accs bg.sup).2 = P at *
    simp
    refine eff_ldc (goods undef 0 _ _ s3).1 ?_
    simp
    refine eff_ldc (goods undef 0 _ _ s3).2 ?_
    simp
    refine eff_call ((Gd.Load_spec bg.most bg.its bg.vi w0 w3 _ hb.lits (hb.its.mono fun w s => s.drop.drop) s3).mono ?_)
    intro r w4 h4
    by_cases hlg : Gd.loadE bg.most bg.its = 0
    · rw [if_pos hlg] at h4
      obtain ⟨g, rfl, s4⟩ := h4
      have hG := load_gi hlg
      simp
      refine eff_ldc (v := bg.vr) (f s4.drop.drop 5 _ rfl) ?_
      simp
      refine eff_call ((lent_spec bg.rows bg.vr w0 w4 _ hb.lrows (hb.rows.mono fun w s => s.drop.drop.drop) s4).mono ?_)
      intro lv w5 s5
      simp
      have s6 : St w0 (A * pt b (.cells bg.cs.toArray 27 (0, 0)) * lentA lv bg.rows * Pu.pur p P * Gd.gds g bg.most bg.its) w5 := s5.to (by ac_rfl)
      refine eff_call ((Load_spec p g bg.lim bg.most bg.rows lv P bg.its w0 w5 _ hP hb.lrows hb.eachR (lent_row s6.drop.drop) s6).mono ?_)
      rintro r w6 (⟨hz, s, rfl, s7⟩ | ⟨hz, rfl, s7⟩)
      · have hE := load_ei hP hG hz
        simp
        have := own_loop p g s b bg.lim bg.most _ bg ents ve w0 w6 A (.agg bg.cs.toArray) (.bool false) (.int .i64 0) (.int .i64 0) (.int .i64 0) undef undef undef undef undef undef undef undef undef hE hn hr hx (s7.cut (pt b (.cells bg.cs.toArray 27 (0, 0)) * lentA lv bg.rows) (by ac_rfl))
        simpa using this
      · simp [hz]
        exact s7.drop.drop.drop.drop
    · rw [if_neg hlg] at h4
      obtain ⟨rfl, s4⟩ := h4
      simp [hlg]
      exact s4.drop.drop
  · rw [if_neg hld] at h3
    obtain ⟨rfl, s3⟩ := h3
    have s3' : St w0 (A * pt b (.cells bg.cs.toArray 27 (0, 0)) * emp) w3 := by rw [sep_emp]; exact s3
    simp
    refine eff_ldc (goods undef 0 _ _ s3').1 ?_
    simp
    refine eff_ldc (goods undef 0 _ _ s3').2 ?_
    simp
    refine eff_call ((Gd.Load_spec bg.most bg.its bg.vi w0 w3 _ hb.lits (hb.its.mono fun w s => s.drop) s3).mono ?_)
    intro r w4 h4
    have out : ∀ {w : World}, (if Gd.loadE bg.most bg.its = 0 then ∃ p, r = .tuple #[.pointer (some ⟨p, 0, none⟩), .int .i64 0] ∧ St w0 (A * pt b (.cells bg.cs.toArray 27 (0, 0)) * Gd.gds p bg.most bg.its) w else r = .tuple #[.pointer none, .int .i64 (Gd.loadE bg.most bg.its)] ∧ St w0 (A * pt b (.cells bg.cs.toArray 27 (0, 0))) w) → St w0 A w ∧ ∃ q e, r = .tuple #[.pointer q, .int .i64 e] := fun h => by
      split at h
      · obtain ⟨q, rfl, h⟩ := h; exact ⟨h.drop.drop, _, _, rfl⟩
      · obtain ⟨rfl, h⟩ := h; exact ⟨h.drop, _, _, rfl⟩
    obtain ⟨s4, q, e, rfl⟩ := out h4
    simp [hld]
    exact s4
end Go.HL.Es

namespace Go.Proofs.Ytiokklaedanjbaa.escrowOwn
open Go.ChangeShapes Go.WideShapes Go.ChangeAt Go.RowKit Go.WideMaps Go.WideElems
open Go.ChangeMaps (open_string shut_string)
set_option linter.unusedVariables false

theorem own : ownKnob Try.prog.godebug = none := by kernel_rfl

theorem keeps : Go.HL.keepB Try.prog [27, 3, 23, 22, 76, 9, 24, 72, 25, 100, 28, 46, 44] = true := by kernel_rfl

set_option maxRecDepth 10000 in
theorem contract (H : Type) (enc : TypeId × Value → H) (W : World) (base : Nat) (args : Array Value) (ds gs : List (DataW H)) (before : List MemPlace)
    (hval : ∀ (j : Nat) t v, Try.f3.params[j]? = some t → args[j]? = some v → Value.okWide Try.prog W .any base t v)
    (hW : DataW.Whole enc Try.prog Try.f3.params.toList Rows.escrowOwnSpec.vars false W args.toList ds gs before) (hk : Rows.uptoSmall H (ds ++ gs) = true) :
    Calls Try.prog 3 args W fun e W' => ∃ v, e = .returned v ∧ Rows.escrowOwnSpec.post enc Try.prog Try.f3 false true false false W args v W' := by
  have hW' := hW
  have hlt := hW.lt
  obtain ⟨p, q, hA0, hV, rfl, hfz, hnd⟩ := hW
  have hA : DataW.TrodAll enc Try.prog W 0 (fun _ => true) true Try.f3.params.toList args.toList ds p := hA0
  have hA1 := hA
  rw [Try.params3] at hA hval
  obtain ⟨v0, vs0, d0, ds0, p0, q0, hargs, rfl, rfl, h0, r0⟩ := trodAll_cons hA
  obtain ⟨v1, vs1, d1, ds1, p1, q1, rfl, rfl, rfl, h1, r1⟩ := trodAll_cons r0
  obtain ⟨rfl, rfl, rfl⟩ := trodAll_nil r1
  obtain rfl : args = #[v0, v1] := by cases args; simp_all
  obtain ⟨rfl, rfl⟩ := trodVars_none hV
  simp only [List.append_nil, List.nil_append] at hW' hlt hA1
  have hb := Go.HL.bulk_bound hk
  simp only [List.append_nil, Rows.uptoBulkAll, Go.HL.bulk_string, Go.HL.bulk_int] at hb
  obtain ⟨a0, rfl, ok0⟩ := Go.HL.Es.open_start h0 (hval 0 27 v0 rfl rfl) (by omega)
  obtain ⟨a1, row1, bl1, ex1⟩ := Go.HL.Es.open_ents h1 (hval 1 28 v1 rfl rfl)
  have hwalk := Go.HL.Es.own_walk a0 a1 v1 W W (Go.HL.old W) ok0 (by omega) row1 ex1 (Go.HL.St.start W)
  refine Calls.mono hwalk fun e W' ⟨v, he, hv, hst⟩ => ?_
  subst hv
  refine ⟨_, he, Go.HL.post_of_old hst (pv := []) hW' (fun _ _ _ => (trodAll_cons_mk (shut_bool Try.underlying4 _) trodAll_mk0))
    (fun sp hsp => Go.HL.trodAll_keep keeps (by decide) hA1 (fun x hx => hst.same (hlt x hx)) hsp) (fun _ _ => rfl) (by simp)
    (ok_one (by kernel_rfl) rfl (okWide_bool_mk Try.underlying4 _))⟩

set_option maxRecDepth 100000 in
theorem lifted (os : Os) (started : os.Started) (H : Type) (enc : TypeId × Value → H) (F : Stop.Interp) :
    ReturnsInHanded {} Try.checked os 3 .any ((Rows.OpenSpec.upto Rows.escrowOwnSpec).pre6 enc Try.prog Try.f3 Rows.escrowOwnUptoRow.domain false) (((Rows.OpenSpec.upto Rows.escrowOwnSpec).at F).post enc Try.prog Try.f3 false true false false) := by
  refine returnsInHanded_of_cond (C := Try.checked) (s := Rows.OpenSpec.upto Rows.escrowOwnSpec) (k := Rows.uptoSmall) rfl own started (by kernel_rfl) Try.func3
    (OpenSpec.witness (enc := enc) (C := Try.checked) (s := Rows.OpenSpec.upto Rows.escrowOwnSpec) (k := Rows.uptoSmall) rfl false ⟨#[], #[.agg #[.int .i64 0, .slice none 0 0, .int .u64 0, .int .i64 0, .slice none 0 0, .slice none 0 0], .slice none 0 0], []⟩ 8 (by kernel_rfl) (by kernel_rfl) (by kernel_rfl)
      (x := ([.agg [.lit (.int .i64 0), .nil, .lit (.int .u64 0), .lit (.int .i64 0), .nil, .nil], .nil], [], [])) (by kernel_rfl) rfl (by kernel_rfl)) ?_
  intro W base args ds gs before hval hW _ hk _
  exact contract H enc W base args ds gs before hval hW hk

theorem over : Rows.escrowOwnUptoRow.holds Try.pinned (Rows.OpenSpec.upto Rows.escrowOwnSpec) :=
  OpenClaim.holds_of_cond 3 Try.f3 rfl rfl rfl rfl rfl rfl rfl ⟨rfl, rfl, rfl, rfl, rfl⟩ rfl rfl rfl rfl rfl (by kernel_rfl) Try.func3 (by kernel_rfl)
    (of_decide_eq_true (by kernel_rfl)) (by unfold Func.isWrapper; first | (rw [if_pos (by decide +kernel)]; kernel_rfl) | (rw [if_neg (by decide +kernel)]; exact ⟨rfl, rfl⟩))
    (fun os started H enc _ F => lifted os started H enc F)

theorem proved : Rows.EscrowOwnUptoSaid :=
  over
end Go.Proofs.Ytiokklaedanjbaa.escrowOwn
