/-
  What the claim leans on, part 15 of 16. Conditions: as each theorem says.
-/
import Derived.Test.YtiokklaedanjbaaGreatEAMn
import Derived.Lib.Bytealg
namespace Go.HL.Nm
open Go.HL Go.Proofs
set_option maxRecDepth 4000
set_option linter.unusedSimpArgs false
set_option linter.unusedVariables false
end Go.HL.Nm

namespace Go.HL.Nm
open Go.HL Go.Proofs
set_option maxRecDepth 4000
set_option linter.unusedSimpArgs false
set_option linter.unusedVariables false
end Go.HL.Nm

namespace Go.HL.Nm
open Go.HL
set_option maxRecDepth 4000
set_option linter.unusedSimpArgs false
set_option linter.unusedVariables false
/-- a byte that continues -/
def contB (b : UInt8) : Bool := decide (128 ≤ b.toNat) && decide (b.toNat ≤ 191)
/-- the bytes that continue at a row's head -/
def lead : List Int → List UInt8
  | [] => []
  | u :: us => if 2097280 ≤ u ∧ u ≤ 2097343 then UInt8.ofNat (u.toNat - 2097152) :: lead us else []
theorem encAll_cons (u : Int) (us : List Int) : encAll (u :: us) = encU u ++ encAll us := rfl
/-- the bad bytes are where they stay bad -/
def goodU : List Int → Prop
  | [] => True
  | u :: us => (2097152 ≤ u → oneF (UInt8.ofNat (u.toNat - 2097152) :: lead us) = (u, 1)) ∧ goodU us
/-- a map of units that leaves bad bytes as_ they are -/
structure Mild (f : Int → List Int) : Prop where
  bad : ∀ u, 2097152 ≤ u → f u = [u]
  fine : ∀ u, u < 2097152 → f u ≠ [] ∧ ∀ x ∈ f u, x < 2097152
end Go.HL.Nm

namespace Go.HL.Nm
open Go.HL
set_option maxRecDepth 4000
set_option linter.unusedSimpArgs false
set_option linter.unusedVariables false
/-- no two that look like one -/
def noP : List Int → Prop
  | a :: b :: r => ¬ (a = 114 ∧ b = 110) ∧ ¬ (a = 118 ∧ b = 118) ∧ noP (b :: r)
  | _ => True
-- how long
theorem encAll_app (a b : List Int) : encAll (a ++ b) = encAll a ++ encAll b := by simp [encAll]
theorem flat_len {f : Int → List Int} : ∀ us : List Int, (∀ u ∈ us, (encAll (f u)).length ≤ (encU u).length) → (encAll (us.flatMap f)).length ≤ (encAll us).length
  | [], _ => Nat.le_refl _
  | u :: us, h => by
    have h1 := h u (List.mem_cons_self ..)
    have h2 := flat_len us fun x hx => h x (List.mem_cons_of_mem _ hx)
    rw [List.flatMap_cons, encAll_app, encAll_cons, List.length_append, List.length_append]
    omega
-- a right name
end Go.HL.Nm

namespace Go.HL.Pu
open Go.HL Go.HL.Nm Go.Proofs
set_option maxRecDepth 4000
set_option linter.unusedSimpArgs false
set_option linter.unusedVariables false
def strs (l : List Ac) : List Value := l.map fun x => .string (mk x.name)
/-- whose key is among the first -/
def anyK (x : List UInt8) (l : List Ac) : Bool := l.any fun r => decide (keyF r.name = keyF x)
end Go.HL.Pu

namespace Go.HL.Pu
open Go.HL Go.HL.Nm Go.Proofs
set_option maxRecDepth 4000
set_option linter.unusedSimpArgs false
set_option linter.unusedVariables false
/-- accounts that were opened -/
structure Gd (rows : List Ac) : Prop where
  len : 1 ≤ rows.length ∧ rows.length ≤ 64
  names : ∀ i, (h : i < rows.length) → rows[i].name.length ≤ 1048576
  keys : (keys rows).Nodup
end Go.HL.Pu

namespace Go.HL.Pu
open Go.HL Go.HL.Nm Go.Proofs
set_option maxRecDepth 4000
set_option linter.unusedSimpArgs false
set_option linter.unusedVariables false
def mineK (l : List Int) (i : Int) : Bool := l.any fun n => decide (n = i)
def clsT (S : World → Prop) : List Value → World → Prop
  | [], w => S w
  | r :: _, w => r = .bool true ∧ S w
@[simp] theorem clsT_nil (S : World → Prop) (w : World) : clsT S [] w = S w := rfl
@[simp] theorem clsT_cons (S : World → Prop) (v : Value) (l : List Value) (w : World) : clsT S (v :: l) w = (v = .bool true ∧ S w) := rfl
end Go.HL.Pu

namespace Go.HL.Pu
open Go.HL Go.HL.Nm Go.Proofs
set_option maxRecDepth 4000
set_option linter.unusedSimpArgs false
set_option linter.unusedVariables false
theorem loadL_ok : ∀ (l : List Ac) (P : Ps), (loadL P l).1 = 0 → (∀ x ∈ l, 0 ≤ x.coins) → (loadL P l).2 = { P with held := P.held - total l, rows := P.rows ++ l } ∧ total l ≤ P.held ∨ l = []
  | [], _, _, _ => .inr rfl
  | a :: l, P, h, hc => by
    left
    have ha := hc a (List.mem_cons_self ..)
    simp only [loadL] at h ⊢
    by_cases hs : stepE P a = 0
    · rw [if_pos hs] at h ⊢
      have hle : a.coins ≤ P.held := by
        unfold stepE at hs
        split at hs
        · split at hs
          · cases hs
          · omega
        · rename_i h1; exact absurd hs h1
      have e : total (a :: l) = a.coins + total l := by simp [total]
      rcases loadL_ok l (stepP P a) h (fun x hx => hc x (List.mem_cons_of_mem _ hx)) with ⟨h1, h2⟩ | h1
      · refine ⟨?_, ?_⟩
        · rw [h1, e]
          simp only [stepP, List.append_assoc, List.singleton_append]
          congr 1
          omega
        · rw [e]
          have : (stepP P a).held = P.held - a.coins := rfl
          omega
      · subst h1
        refine ⟨?_, ?_⟩
        · rw [e]
          simp [loadL, stepP, total_nil]
        · rw [e, total_nil]; omega
    · rw [if_neg hs] at h
      exact absurd h hs
theorem load_PI {lim : Int} {rows : List Ac} {sup : Int} (h : (loadF lim rows sup).1 = 0) (hsup : 0 ≤ sup) (hc : ∀ x ∈ rows, 0 ≤ x.coins) (hn : ∀ i, (h : i < rows.length) → rows[i].name.length ≤ 1048576) :
    (loadF lim rows sup).2 = ⟨lim, rows, sup, sup - total rows⟩ ∧ PI lim (loadF lim rows sup).2 := by
  unfold loadF at h ⊢
  split at h
  · rename_i h1
    rw [if_pos h1]
    split at h
    · cases h
    · rename_i h2
      rw [if_neg h2]
      split at h
      · cases h
      · rename_i h3
        rw [if_neg h3]
        split at h
        · rename_i h4
          rw [if_pos h4]
          have hne : rows ≠ [] := by
            rintro rfl
            revert h4
            decide
          rcases loadL_ok rows _ h hc with ⟨e1, e2⟩ | e
          · rw [e1]
            refine ⟨rfl, ⟨rfl, h1, ?_, hc, ?_, ?_, by show sup ≤ _; omega, hn⟩⟩
            · have := List.length_pos_iff.2 hne
              have hl3 : (rows.length : Int) ≤ lim := by omega
              exact ⟨by show 1 ≤ ([] ++ rows).length; rw [List.nil_append]; exact this, by show ((([] ++ rows : List Ac).length : Nat) : Int) ≤ lim; rw [List.nil_append]; exact hl3⟩
            · show 0 ≤ sup - total rows
              have : (⟨lim, [], sup, sup⟩ : Ps).held = sup := rfl
              omega
            · show sup - total rows + total ([] ++ rows) = sup
              rw [List.nil_append]; omega
          · exact absurd e hne
        · cases h
  · cases h
def sps (l : List Sp) : List Value := l.flatMap Sp.cs
end Go.HL.Pu

namespace Go.HL.Es
open Go.HL Go.Proofs
set_option maxRecDepth 4000
set_option linter.unusedSimpArgs false
set_option linter.unusedVariables false
theorem scan_zero : ∀ (l : List Gd.It) (i : Nat), Gd.scanE i l = 0 → ∀ j (h : j < l.length), Gd.itemE (i + j) l[j] = 0
  | [], _, _, j, h => by simp at h
  | x :: l, i, hs, j, h => by
    have hx : Gd.itemE i x = 0 := by
      by_cases e : Gd.itemE i x = 0
      · exact e
      · simp only [Gd.scanE, if_neg e] at hs
        exact hs
    cases j with
    | zero => exact hx
    | succ j =>
      simp only [Gd.scanE, if_pos hx] at hs
      have := scan_zero l (i + 1) hs j (by simpa using h)
      have e : i + 1 + j = i + (j + 1) := by omega
      rw [e] at this
      exact this
theorem item_zero {i : Nat} {x : Gd.It} (h : Gd.itemE i x = 0) : x.num = (i : Int) + 1 ∧ (0 ≤ x.kind ∧ x.kind < 16) ∧ ((x.con = 0 ∧ 0 ≤ x.acc ∧ x.acc < 64) ∨ (0 < x.con ∧ x.acc = -1)) := by
  unfold Gd.itemE at h
  split at h
  · omega
  rename_i h1
  split at h
  · omega
  rename_i h2
  split at h
  · omega
  rename_i h3
  refine ⟨by omega, by simpa [Gd.kindF] using h2, ?_⟩
  simp only [not_or, not_and, Bool.not_eq_false] at h3
  by_cases hc : 0 < x.con
  · have := h3.2.1 hc
    exact .inr ⟨hc, by simpa using this⟩
  · have := (Gd.acc_iff _).1 (h3.2.2 hc)
    exact .inl ⟨by omega, this⟩
theorem load_gi {lim : Int} {rows : List Gd.It} (h : Gd.loadE lim rows = 0) : Gd.GI lim rows := by
  unfold Gd.loadE at h
  split at h
  · rename_i h1
    split at h
    · omega
    · rename_i h2
      have key := scan_zero rows 0 h
      have each : ∀ x ∈ rows, (0 ≤ x.kind ∧ x.kind < 16) ∧ ((x.con = 0 ∧ 0 ≤ x.acc ∧ x.acc < 64) ∨ (0 < x.con ∧ x.acc = -1)) := fun x hx => by
        obtain ⟨j, hj, rfl⟩ := List.getElem_of_mem hx
        exact (item_zero (key j hj)).2
      exact ⟨⟨fun i hi => by have := (item_zero (key i hi)).1; simpa using this, fun x hx => (each x hx).1⟩, by omega, h1.2, fun x hx => (each x hx).2⟩
  · omega
-- bazaar/bazaarlaw17.lent
def h10_0 : HC := (.seq (.reg (.chk none .lenL (.cons (.inp 0) .nil) (.chk none (.slL 2 false true false) (.cons (.inp 2) (.cons (.op .lenL (.cons (.inp 0) .nil)) .nil)) (.done [(1, (.op (.slL 2 false true false) (.cons (.inp 2) (.cons (.op .lenL (.cons (.inp 0) .nil)) .nil))))] none)))) .ret)
@[simp] theorem h10_0_wp {P : Program} {F : PF P} {Q : EX → List Value → World → Prop} {env : List Value} {w : World} : h10_0.wp F Q env w = HC.wp F (.seq (.reg (.chk none .lenL (.cons (.inp 0) .nil) (.chk none (.slL 2 false true false) (.cons (.inp 2) (.cons (.op .lenL (.cons (.inp 0) .nil)) .nil)) (.done [(1, (.op (.slL 2 false true false) (.cons (.inp 2) (.cons (.op .lenL (.cons (.inp 0) .nil)) .nil))))] none)))) .ret) Q env w := rfl
def h10_1 : HC := (.seq (.reg (.chk none (.build #[(.int .i64 0), (.int .u64 0)] [(0, 1), (1, 1)] [0, 1]) (.cons (.cst (.int .i64 (-71))) (.cons (.cst (.int .u64 71)) .nil)) (.eff (.bsl 98 1 2 #[(.int .i64 0), (.int .u64 0)] [0]) (.cons (.op (.build #[(.int .i64 0), (.int .u64 0)] [(0, 1), (1, 1)] [0, 1]) (.cons (.cst (.int .i64 (-71))) (.cons (.cst (.int .u64 71)) .nil))) .nil) (.eff (.app 41 41 98 2 16 (.agg #[(.int .i64 0), (.int .u64 0)])) (.cons (.inp 2) (.cons (.bv 0) .nil)) (.done [(2, (.bv 1))] none))))) h10_0)
@[simp] theorem h10_1_wp {P : Program} {F : PF P} {Q : EX → List Value → World → Prop} {env : List Value} {w : World} : h10_1.wp F Q env w = HC.wp F (.seq (.reg (.chk none (.build #[(.int .i64 0), (.int .u64 0)] [(0, 1), (1, 1)] [0, 1]) (.cons (.cst (.int .i64 (-71))) (.cons (.cst (.int .u64 71)) .nil)) (.eff (.bsl 98 1 2 #[(.int .i64 0), (.int .u64 0)] [0]) (.cons (.op (.build #[(.int .i64 0), (.int .u64 0)] [(0, 1), (1, 1)] [0, 1]) (.cons (.cst (.int .i64 (-71))) (.cons (.cst (.int .u64 71)) .nil))) .nil) (.eff (.app 41 41 98 2 16 (.agg #[(.int .i64 0), (.int .u64 0)])) (.cons (.inp 2) (.cons (.bv 0) .nil)) (.done [(2, (.bv 1))] none))))) h10_0) Q env w := rfl
def h10_2 : HC := (.reg (.chk none (.bin .add) (.cons (.inp 3) (.cons (.cst (.int .i64 1)) .nil)) (.done [(3, (.op (.bin .add) (.cons (.inp 3) (.cons (.cst (.int .i64 1)) .nil))))] none)))
@[simp] theorem h10_2_wp {P : Program} {F : PF P} {Q : EX → List Value → World → Prop} {env : List Value} {w : World} : h10_2.wp F Q env w = HC.wp F (.reg (.chk none (.bin .add) (.cons (.inp 3) (.cons (.cst (.int .i64 1)) .nil)) (.done [(3, (.op (.bin .add) (.cons (.inp 3) (.cons (.cst (.int .i64 1)) .nil))))] none))) Q env w := rfl
def h10_3 : HC := (.regq (some 1) (.chk none (.idxL 2) (.cons (.inp 0) (.cons (.inp 3) .nil)) (.chk none (.fld 0) (.cons (.op (.idxL 2) (.cons (.inp 0) (.cons (.inp 3) .nil))) .nil) (.eff (.ld false 1) (.cons (.op (.fld 0) (.cons (.op (.idxL 2) (.cons (.inp 0) (.cons (.inp 3) .nil))) .nil)) .nil) (.chk none (.idxL 2) (.cons (.inp 0) (.cons (.inp 3) .nil)) (.chk none (.fld 1) (.cons (.op (.idxL 2) (.cons (.inp 0) (.cons (.inp 3) .nil))) .nil) (.eff (.ld false 1) (.cons (.op (.fld 1) (.cons (.op (.idxL 2) (.cons (.inp 0) (.cons (.inp 3) .nil))) .nil)) .nil) (.chk none (.build #[(.int .i64 0), (.int .u64 0)] [(0, 1), (1, 1)] [0, 1]) (.cons (.bv 0) (.cons (.bv 1) .nil)) (.eff (.bsl 98 1 2 #[(.int .i64 0), (.int .u64 0)] [0]) (.cons (.op (.build #[(.int .i64 0), (.int .u64 0)] [(0, 1), (1, 1)] [0, 1]) (.cons (.bv 0) (.cons (.bv 1) .nil))) .nil) (.eff (.app 41 41 98 2 16 (.agg #[(.int .i64 0), (.int .u64 0)])) (.cons (.inp 2) (.cons (.bv 2) .nil)) (.done [(2, (.bv 3))] none)))))))))))
@[simp] theorem h10_3_wp {P : Program} {F : PF P} {Q : EX → List Value → World → Prop} {env : List Value} {w : World} : h10_3.wp F Q env w = HC.wp F (.regq (some 1) (.chk none (.idxL 2) (.cons (.inp 0) (.cons (.inp 3) .nil)) (.chk none (.fld 0) (.cons (.op (.idxL 2) (.cons (.inp 0) (.cons (.inp 3) .nil))) .nil) (.eff (.ld false 1) (.cons (.op (.fld 0) (.cons (.op (.idxL 2) (.cons (.inp 0) (.cons (.inp 3) .nil))) .nil)) .nil) (.chk none (.idxL 2) (.cons (.inp 0) (.cons (.inp 3) .nil)) (.chk none (.fld 1) (.cons (.op (.idxL 2) (.cons (.inp 0) (.cons (.inp 3) .nil))) .nil) (.eff (.ld false 1) (.cons (.op (.fld 1) (.cons (.op (.idxL 2) (.cons (.inp 0) (.cons (.inp 3) .nil))) .nil)) .nil) (.chk none (.build #[(.int .i64 0), (.int .u64 0)] [(0, 1), (1, 1)] [0, 1]) (.cons (.bv 0) (.cons (.bv 1) .nil)) (.eff (.bsl 98 1 2 #[(.int .i64 0), (.int .u64 0)] [0]) (.cons (.op (.build #[(.int .i64 0), (.int .u64 0)] [(0, 1), (1, 1)] [0, 1]) (.cons (.bv 0) (.cons (.bv 1) .nil))) .nil) (.eff (.app 41 41 98 2 16 (.agg #[(.int .i64 0), (.int .u64 0)])) (.cons (.inp 2) (.cons (.bv 2) .nil)) (.done [(2, (.bv 3))] none))))))))))) Q env w := rfl
def h10_4 : HC := (.seq (.block 1 h10_3) h10_2)
@[simp] theorem h10_4_wp {P : Program} {F : PF P} {Q : EX → List Value → World → Prop} {env : List Value} {w : World} : h10_4.wp F Q env w = HC.wp F (.seq (.block 1 h10_3) h10_2) Q env w := rfl
def h10_5 : HC := (.seq (.br (.chk none .lenL (.cons (.inp 0) .nil) (.chk none (.bin .lss) (.cons (.inp 3) (.cons (.op .lenL (.cons (.inp 0) .nil)) .nil)) (.done [] (some (.op (.bin .lss) (.cons (.inp 3) (.cons (.op .lenL (.cons (.inp 0) .nil)) .nil))))))) .skip (.exit 0)) h10_4)
@[simp] theorem h10_5_wp {P : Program} {F : PF P} {Q : EX → List Value → World → Prop} {env : List Value} {w : World} : h10_5.wp F Q env w = HC.wp F (.seq (.br (.chk none .lenL (.cons (.inp 0) .nil) (.chk none (.bin .lss) (.cons (.inp 3) (.cons (.op .lenL (.cons (.inp 0) .nil)) .nil)) (.done [] (some (.op (.bin .lss) (.cons (.inp 3) (.cons (.op .lenL (.cons (.inp 0) .nil)) .nil))))))) .skip (.exit 0)) h10_4) Q env w := rfl
def h10_6 : HC := (.loop h10_5)
@[simp] theorem h10_6_wp {P : Program} {F : PF P} {Q : EX → List Value → World → Prop} {env : List Value} {w : World} : h10_6.wp F Q env w = HC.wp F (.loop h10_5) Q env w := rfl
def h10_7 : HC := (.seq (.block 0 h10_6) h10_1)
@[simp] theorem h10_7_wp {P : Program} {F : PF P} {Q : EX → List Value → World → Prop} {env : List Value} {w : World} : h10_7.wp F Q env w = HC.wp F (.seq (.block 0 h10_6) h10_1) Q env w := rfl
def h10_8 : HC := (.seq (.reg (.done [(3, (.cst (.int .i64 0)))] none)) h10_7)
@[simp] theorem h10_8_wp {P : Program} {F : PF P} {Q : EX → List Value → World → Prop} {env : List Value} {w : World} : h10_8.wp F Q env w = HC.wp F (.seq (.reg (.done [(3, (.cst (.int .i64 0)))] none)) h10_7) Q env w := rfl
def h10_9 : HC := (.seq (.reg (.done [(2, (.cst (.slice none 0 0)))] none)) h10_8)
@[simp] theorem h10_9_wp {P : Program} {F : PF P} {Q : EX → List Value → World → Prop} {env : List Value} {w : World} : h10_9.wp F Q env w = HC.wp F (.seq (.reg (.done [(2, (.cst (.slice none 0 0)))] none)) h10_8) Q env w := rfl
def l10 : Lifted := ⟨[0, 2, 3, 4], 33, [.slot 1], (.seq (.reg (.done [(1, (.cst (.slice none 0 0)))] none)) h10_9)⟩
theorem l10_ok : liftFn E2 10 400 = some l10 := by kernel_rfl


/-- lent rows: the mark behind them -/
def rmark : Rw := (-71, 71)
def lentA (v : Value) (l : List Rw) : Asn := fun h => ∃ g cap, v = .slice (some ⟨g, 0, none⟩) l.length cap ∧ l.length + 1 ≤ cap ∧ cap ≤ maxLen ∧ own 98 2 (.slice (some ⟨g, 0, none⟩) (l.length + 1) cap) (l.length + 1) (rflat (l ++ [rmark])) h
theorem lopen {w0 w : World} {A : Asn} {v : Value} {l : List Rw} (s : St w0 (A * lentA v l) w) : ∃ g cap, v = .slice (some ⟨g, 0, none⟩) l.length cap ∧ l.length + 1 ≤ cap ∧ cap ≤ maxLen ∧ St w0 (A * own 98 2 (.slice (some ⟨g, 0, none⟩) (l.length + 1) cap) (l.length + 1) (rflat (l ++ [rmark]))) w := by
  obtain ⟨g', h1, h2, h3, d, e, a, g, cap, rfl, hc, hm, b⟩ := s.holds
  exact ⟨g, cap, rfl, hc, hm, s.of ⟨g', h1, h2, h3, d, e, a, b⟩⟩
theorem lclose {w0 w : World} {A : Asn} {g cap : Nat} {l : List Rw} (hc : l.length + 1 ≤ cap) (hm : cap ≤ maxLen) (s : St w0 (A * own 98 2 (.slice (some ⟨g, 0, none⟩) (l.length + 1) cap) (l.length + 1) (rflat (l ++ [rmark]))) w) : St w0 (A * lentA (.slice (some ⟨g, 0, none⟩) l.length cap) l) w :=
  s.mono (sep_mono (fun _ h => h) fun h hh => ⟨g, cap, rfl, hc, hm, hh⟩)
theorem rflat_app (a b : List Rw) : rflat (a ++ b) = rflat a ++ rflat b := by simp [rflat]
theorem lent_own {w0 w : World} {A : Asn} {v : Value} {l : List Rw} (s : St w0 (A * lentA v l) w) : St w0 (A * own 98 2 v l.length (rflat l)) w := by
  obtain ⟨g, cap, rfl, hc, hm, s1⟩ := lopen s
  rw [rflat_app] at s1
  exact s1.mono (sep_mono (fun _ h => h) fun h hh => own_less (by rw [rflat_len]) hh)
theorem lent_row {w0 w : World} {A : Asn} {v : Value} {l : List Rw} (s : St w0 (A * lentA v l) w) : Row w0 (A * lentA v l) v l.length 2 (rflat l) :=
  (row_own (lent_own s)).mono fun w s => lent_own s
/-- a slice laid; it appended -/
def clsB (X : World → Prop) (Y : Nat → World → Prop) (Z : Value → World → Prop) : List Value → World → Prop
  | [], w => X w
  | [v], w => ∃ c, v = .slice (some ⟨c, 0, none⟩) 1 1 ∧ Y c w
  | _ :: v :: _, w => Z v w
theorem clsB_pre {X : World → Prop} {Y : Nat → World → Prop} {Z : Value → World → Prop} {vs : List Value} {w : World} (he : era 1 vs = era 1 []) (h : clsB X Y Z vs w) : X w := by
  cases vs with
  | nil => exact h
  | cons _ _ => simp [era] at he
theorem lent_spec (l : List Rw) (v : Value) (w0 w : World) (A : Asn) (hl : l.length ≤ 1048576) (hrow : Row w0 A v l.length 2 (rflat l)) (s : St w0 A w) :
    CallW Tryz.prog 10 [v] (fun r w' => St w0 (A * lentA r l) w') w := by
  obtain ⟨ra, rcap, rfl⟩ := hrow.val
  refine callW_of_lift l10_ok (by simp [l10]) ?_
  simp [l10]
  refine loopI (fun env w' => ∃ (i : Nat) (fv : Value), env = [.slice ra l.length rcap, .slice none 0 0, fv, .int .i64 i] ∧ i ≤ l.length ∧ St w0 (A * own 98 2 fv i (rflat (l.take i))) w')
    (fun env _ => l.length - slotN env 3) ⟨0, _, rfl, by omega, s.own_nil 98 2⟩ ?_
  rintro LQ env w' ⟨i, fv, rfl, hi, s1⟩ hN hX hR
  simp
  refine cndI (fun hc => ?_) (fun hc => ?_)
  · simp at hc
    obtain ⟨g, o, cap', hv, hcell⟩ := hrow.at (by omega)
    cases hv
    simp [hc]
    refine regmI (clsB (St w0 (A * own 98 2 fv i (rflat (l.take i)))) (fun c => St w0 (A * own 98 2 fv i (rflat (l.take i)) * pt c (.cells l[i].cs.toArray 98 (0, 0)))) (fun v => St w0 (A * own 98 2 v (i + 1) (rflat (l.take (i + 1)))))) s1.drew ?_
    simp [hc]
    refine effm_ldc (v := .int .i64 l[i].1) (fun vs' w he hw => by have := hcell w (clsB_pre he hw).drop (i * 2 + 0) _ (rflat_at hc 0 _ rfl); simpa using this) ?_
    simp [hc]
    refine effm_ldc (v := .int .u64 l[i].2) (fun vs' w he hw => by have := hcell w (clsB_pre he hw).drop (i * 2 + 1) _ (rflat_at hc 1 _ rfl); rw [← Nat.add_assoc] at this; exact this) ?_
    simp [Instr.fill, Value.cells]
    refine effm_mv rfl (fun w hw => eff_bslV (v := .agg l[i].cs.toArray) hw rfl fun c w' h => ⟨c, rfl, h⟩) (fun sl hsl => ?_)
    obtain ⟨w7, c, rfl, _⟩ := hsl
    simp
    refine effm_mv rfl (fun w hw => ?_) (fun v' hv' => ?_)
    · obtain ⟨c', e, hw⟩ := hw
      cases e
      refine eff_app (m := 1) (news := l[i].cs) (St.swap hw) rfl (St.cells_look hw) (rw_one _) (by decide) rfl (by unfold maxLen; omega) (by omega) fun v'' w' h => ?_
      have e1 : rflat (l.take i) ++ l[i].cs = rflat (l.take (i + 1)) := by rw [List.take_succ_eq_append_getElem hc, rflat_app]; simp [rflat]
      rw [e1] at h
      exact h.swap.drop
    simp
    intro w9 h9
    try simp (disch := omega) only [wrap64]
    exact hN _ _ ⟨i + 1, _, by simp, by omega, h9⟩ (by simp [slotN]; omega)
  · simp at hc
    simp
    refine hX _ _ _ ?_
    have : i = l.length := by omega
    subst this
    rw [List.take_length] at s1
    simp [Instr.fill, Value.cells]
    refine eff_bslV (v := .agg rmark.cs.toArray) s1 rfl fun c w2 s2 => ?_
    simp
    refine eff_app (m := 1) (news := rmark.cs) s2.swap rfl s2.cells_look (rw_one _) (by decide) rfl (by unfold maxLen; omega) (by omega) fun fv2 w3 s3 => ?_
    have e1 : rflat l ++ rmark.cs = rflat (l ++ [rmark]) := by rw [rflat_app]; simp [rflat]
    rw [e1] at s3
    obtain ⟨g, cap, rfl, hcap, _⟩ := s3.own_at (by omega)
    have hle : l.length ≤ cap := by omega
    simp [hle, Pu.add_zero]
    have hm : cap ≤ maxLen := by
      rcases s3.own.2 with ⟨h, _⟩ | ⟨_, _, _, h, _, hm, _⟩
      · cases h
      · cases h; exact hm
    exact lclose hcap hm s3.swap.drop
/-- an entry with wishes in memory of their own -/
abbrev wshA (g : Nat) : Asn := pt g (.cells #[.int .i64 5, .int .i64 6, .int .i64 7, .int .i64 (-71)] 3 (0, 0))
end Go.HL.Es

namespace Go.HL.Pu
open Go.HL Go.HL.Nm Go.Proofs
set_option maxRecDepth 4000
set_option linter.unusedVariables false
theorem open_u64 {a : Int} (h : (Lit.int IntKind.u64 a).wf = true) : 0 ≤ a ∧ a ≤ 18446744073709551615 := by simpa [Lit.wf, IntKind.min, IntKind.max, IntKind.signed, IntKind.bits] using h
end Go.HL.Pu

namespace Go.HL.Es
open Go.HL Go.Proofs Go.Deep
set_option maxRecDepth 4000
set_option linter.unusedSimpArgs false
set_option linter.unusedVariables false
theorem open_i64 {m : Int} (w : (Lit.int .i64 m).wf = true) : -9223372036854775808 ≤ m ∧ m ≤ 9223372036854775807 := by
  simpa [Lit.wf, IntKind.min, IntKind.max, IntKind.signed, IntKind.bits] using w
theorem open_u64 {m : Int} (w : (Lit.int .u64 m).wf = true) : 0 ≤ m ∧ m ≤ 18446744073709551615 := by
  simpa [Lit.wf, IntKind.min, IntKind.max, IntKind.signed, IntKind.bits] using w
/-- an entry with its price and its wishes -/
structure Ew where
  x : Et
  pr : Int
  wv : Value
def Ew.cs (e : Ew) : List Value := e.x.cs e.pr e.wv
def eflat (l : List Ew) : List Value := l.flatMap Ew.cs
section
variable {H : Type} {enc : TypeId × Value → H} {W : World} {base : Nat} {spare : Nat → Bool} {held : Bool} {fuel : Nat} {cs : List Value} {x : DataW H × List MemPlace}
theorem open_ints (h : DataW.trod enc Tryz.prog W base spare held fuel 44 cs = some x) : ∃ (v : Value) (l : List Int), cs = [v] ∧ v.oneCell' = true ∧ Row W (old W) v l.length 1 (Gd.ints l) := by
  obtain ⟨v, l, h1, h2, h3, h4, h5, h6⟩ := open_erows (α := Int) (fun x => [Value.int .i64 x]) 1 (fun _ => True) (fun _ => 0) Tryz.underlying44 (by kernel_rfl) (by decide) (fun _ => rfl) (fun n cs x hx => by
    obtain ⟨m, e, _, _⟩ := DataW.trod_int Tryz.underlying3 hx
    exact ⟨m, e, trivial, Nat.zero_le _⟩) h
  refine ⟨v, l, h1, h2, ?_⟩
  have : l.flatMap (fun x => [Value.int .i64 x]) = Gd.ints l := by
    clear h4 h3 h5 h6
    induction l with
    | nil => rfl
    | cons a l ih => simp [Gd.ints, List.flatMap_cons, ih]
  rw [this] at h4
  exact h4
theorem open_accF (h : DataW.trod enc Tryz.prog W base spare held fuel 22 cs = some x) :
    ∃ (v : Value) (rows : List Pu.Ac), cs = [v] ∧ Row W (old W) v rows.length 2 (Pu.flat rows) ∧ rows.length ≤ Go.Proofs.YtiokklaedanjbaaGreat.Rows.uptoBulk x.1 ∧ ∀ r ∈ rows, r.name.length ≤ Go.Proofs.YtiokklaedanjbaaGreat.Rows.uptoBulk x.1 ∧ 0 ≤ r.coins ∧ r.coins ≤ 18446744073709551615 := by
  obtain ⟨v, rows, h1, h2, h3, h4, h5, h6⟩ := open_erows (α := Pu.Ac) Pu.Ac.cs 2 (fun x => 0 ≤ x.coins ∧ x.coins ≤ 18446744073709551615) (fun x => x.name.length) Tryz.underlying22 (by kernel_rfl) (by decide) (fun _ => rfl) (fun n cs x hx => by
    obtain ⟨hl, n', hf⟩ := open_field Tryz.underlying58 hx
    have hl2 : cs.length = 2 := hl.trans (by kernel_rfl)
    match cs, hl2 with
    | [c0, c1], _ =>
      obtain ⟨y0, k0, b0⟩ := hf 0 _ rfl
      obtain ⟨y1, k1, _⟩ := hf 1 _ rfl
      obtain ⟨m0, e0, x0, _⟩ := DataW.trod_string Tryz.underlying9 k0
      obtain ⟨m1, e1, x1, w1⟩ := DataW.trod_int Tryz.underlying23 k1
      have f0 : [c0] = [Value.string m0] := e0
      have f1 : [c1] = [Value.int .u64 m1] := e1
      cases f0; cases f1
      refine ⟨⟨m0.data.toList, m1⟩, by simp only [Pu.Ac.cs]; rw [← mk_eta], open_u64 w1, Nat.le_trans ?_ b0⟩
      rw [x0]
      show m0.data.toList.length ≤ Go.Proofs.YtiokklaedanjbaaGreat.Rows.uptoBulk (DataW.lit (.string m0.data.toList))
      rw [bulk_string]; omega) h
  exact ⟨v, rows, h1, h4, h5, fun x hx => ⟨h6 x hx, h3 x hx⟩⟩
theorem open_itemF (h : DataW.trod enc Tryz.prog W base spare held fuel 24 cs = some x) :
    ∃ (v : Value) (rows : List Gd.It), cs = [v] ∧ Row W (old W) v rows.length 4 (Gd.flat rows) ∧ rows.length ≤ Go.Proofs.YtiokklaedanjbaaGreat.Rows.uptoBulk x.1 := by
  obtain ⟨v, rows, h1, h2, _, h3, h4, _⟩ := open_erows (α := Gd.It) Gd.It.cs 4 (fun _ => True) (fun _ => 0) Tryz.underlying24 (by kernel_rfl) (by decide) (fun _ => rfl) (fun n cs x hx => by
    obtain ⟨row, hr, hc⟩ := open_istruct Tryz.underlying60 (by kernel_rfl) (by kernel_rfl) hx
    match row, hr with
    | [a, b, c, d], _ => exact ⟨⟨a, b, c, d⟩, hc, trivial, Nat.zero_le _⟩) h
  exact ⟨v, rows, h1, h3, h4⟩
theorem open_rowF (h : DataW.trod enc Tryz.prog W base spare held fuel 25 cs = some x) :
    ∃ (v : Value) (rows : List Rw), cs = [v] ∧ Row W (old W) v rows.length 2 (rflat rows) ∧ rows.length ≤ Go.Proofs.YtiokklaedanjbaaGreat.Rows.uptoBulk x.1 ∧ ∀ r ∈ rows, (-9223372036854775808 ≤ r.1 ∧ r.1 < 9223372036854775808) ∧ 0 ≤ r.2 ∧ r.2 < 18446744073709551616 := by
  obtain ⟨v, rows, h1, h2, h3, h4, h5, _⟩ := open_erows (α := Rw) Rw.cs 2 (fun r => (-9223372036854775808 ≤ r.1 ∧ r.1 < 9223372036854775808) ∧ 0 ≤ r.2 ∧ r.2 < 18446744073709551616) (fun _ => 0) Tryz.underlying25 (by kernel_rfl) (by decide) (fun _ => rfl) (fun n cs x hx => by
    obtain ⟨hl, n', hf⟩ := open_field Tryz.underlying100 hx
    have hl2 : cs.length = 2 := hl.trans (by kernel_rfl)
    match cs, hl2 with
    | [c0, c1], _ =>
      obtain ⟨y0, k0, _⟩ := hf 0 _ rfl
      obtain ⟨y1, k1, _⟩ := hf 1 _ rfl
      obtain ⟨m0, e0, x0, w0⟩ := DataW.trod_int Tryz.underlying3 k0
      obtain ⟨m1, e1, x1, w1⟩ := DataW.trod_int Tryz.underlying23 k1
      have f0 : [c0] = [Value.int .i64 m0] := e0
      have f1 : [c1] = [Value.int .u64 m1] := e1
      cases f0; cases f1
      have h0 := open_i64 w0
      have h1 := open_u64 w1
      exact ⟨(m0, m1), rfl, ⟨⟨h0.1, by simp only; omega⟩, h1.1, by simp only; omega⟩, Nat.zero_le _⟩) h
  exact ⟨v, rows, h1, h4, h5, h3⟩
end
/-- a start -/
structure Begin where
  lim : Int
  va : Value
  accs : List Pu.Ac
  sup : Int
  most : Int
  vi : Value
  its : List Gd.It
  vr : Value
  rows : List Rw
def Begin.cs (b : Begin) : List Value := [.int .i64 b.lim, b.va, .int .u64 b.sup, .int .i64 b.most, b.vi, b.vr]
structure Begin.ok (b : Begin) (w0 : World) (A : Asn) : Prop where
  lim : -9223372036854775808 ≤ b.lim ∧ b.lim ≤ 9223372036854775807
  most : -9223372036854775808 ≤ b.most ∧ b.most ≤ 9223372036854775807
  sup : 0 ≤ b.sup ∧ b.sup < 18446744073709551616
  accs : Row w0 A b.va b.accs.length 2 (Pu.flat b.accs)
  its : Row w0 A b.vi b.its.length 4 (Gd.flat b.its)
  rows : Row w0 A b.vr b.rows.length 2 (rflat b.rows)
  laccs : b.accs.length ≤ 1048576
  lits : b.its.length ≤ 1048576
  lrows : b.rows.length ≤ 1048576
  each : ∀ x ∈ b.accs, x.name.length ≤ 1048576 ∧ 0 ≤ x.coins ∧ x.coins < 18446744073709551616
  eachR : ∀ r ∈ b.rows, (-9223372036854775808 ≤ r.1 ∧ r.1 < 9223372036854775808) ∧ 0 ≤ r.2 ∧ r.2 < 18446744073709551616
theorem open_start {H : Type} {enc : TypeId × Value → H} {W : World} {spare : Nat → Bool} {v : Value} {d : DataW H} {ps : List MemPlace} (h : DataW.Trod enc Tryz.prog W 0 spare true 27 v d ps) {base : Nat} (hval : Value.okWide Tryz.prog W .any base 27 v)
    (hb : Go.Proofs.YtiokklaedanjbaaGreat.Rows.uptoBulk d ≤ 1048576) : ∃ b : Begin, v = .agg b.cs.toArray ∧ b.ok W (old W) := by
  obtain ⟨cs, rfl, _⟩ := Go.WideShapes.okWide_struct Tryz.underlying27 hval
  obtain ⟨n, h⟩ := h
  obtain ⟨hl, n', hf⟩ := open_field Tryz.underlying27 h
  have hl2 : cs.toList.length = 6 := hl.trans (by kernel_rfl)
  obtain ⟨l, rfl⟩ : ∃ l : List Value, cs = l.toArray := ⟨cs.toList, by simp⟩
  simp only [cells_agg] at hf
  have hl2 : l.length = 6 := by simpa using hl2
  match l, hl2 with
  | [c0, c1, c2, c3, c4, c5], _ =>
    obtain ⟨y0, k0, b0⟩ := hf 0 _ rfl
    obtain ⟨y1, k1, b1⟩ := hf 1 _ rfl
    obtain ⟨y2, k2, b2⟩ := hf 2 _ rfl
    obtain ⟨y3, k3, b3⟩ := hf 3 _ rfl
    obtain ⟨y4, k4, b4⟩ := hf 4 _ rfl
    obtain ⟨y5, k5, b5⟩ := hf 5 _ rfl
    obtain ⟨m0, e0, x0, w0⟩ := DataW.trod_int Tryz.underlying3 k0
    obtain ⟨va, accs, e1, r1, n1, p1⟩ := open_accF k1
    obtain ⟨m2, e2, x2, w2⟩ := DataW.trod_int Tryz.underlying23 k2
    obtain ⟨m3, e3, x3, w3⟩ := DataW.trod_int Tryz.underlying3 k3
    obtain ⟨vi, its, e4, r4, n4⟩ := open_itemF k4
    obtain ⟨vr, rows, e5, r5, n5, p5⟩ := open_rowF k5
    have f0 : [c0] = [Value.int .i64 m0] := e0
    have f1 : [c1] = [va] := e1
    have f2 : [c2] = [Value.int .u64 m2] := e2
    have f3 : [c3] = [Value.int .i64 m3] := e3
    have f4 : [c4] = [vi] := e4
    have f5 : [c5] = [vr] := e5
    cases f0; cases f1; cases f2; cases f3; cases f4; cases f5
    have h2 := open_u64 w2
    refine ⟨⟨m0, c1, accs, m2, m3, c4, its, c5, rows⟩, rfl, open_i64 w0, open_i64 w3, ⟨h2.1, by simp only; omega⟩, r1, r4, r5, ?_, ?_, ?_, fun x hx => ?_, p5⟩
    · simp only at *; omega
    · simp only at *; omega
    · simp only at *; omega
    · have := p1 x hx; simp only at *; omega
end Go.HL.Es

namespace Go.HL.Es
open Go.HL Go.Proofs
set_option maxRecDepth 4000
set_option linter.unusedSimpArgs false
set_option linter.unusedVariables false
/-- the coins of gifts; those to one account -/
def tot : List Gf → Int
  | [] => 0
  | x :: t => x.coins + tot t
def toK (k : Int) : List Gf → Int
  | [] => 0
  | x :: t => (if x.to = k then x.coins else 0) + toK k t
theorem tot_app : ∀ a b : List Gf, tot (a ++ b) = tot a + tot b
  | [], b => by simp [tot]
  | x :: t, b => by simp only [List.cons_append, tot, tot_app t b]; omega
theorem toK_app (k : Int) : ∀ a b : List Gf, toK k (a ++ b) = toK k a + toK k b
  | [], b => by simp [toK]
  | x :: t, b => by simp only [List.cons_append, toK, toK_app k t b]; omega
theorem tot_perm {a b : List Gf} (h : a.Perm b) : tot a = tot b := by
  induction h with
  | nil => rfl
  | cons x _ ih => simp only [tot, ih]
  | swap x y l => simp only [tot]; omega
  | trans _ _ h1 h2 => exact h1.trans h2
theorem toK_perm (k : Int) {a b : List Gf} (h : a.Perm b) : toK k a = toK k b := by
  induction h with
  | nil => rfl
  | cons x _ ih => simp only [toK, ih]
  | swap x y l => simp only [toK]; omega
  | trans _ _ h1 h2 => exact h1.trans h2
theorem tot_nonneg {l : List Gf} (h : ∀ x ∈ l, 0 ≤ x.coins) : 0 ≤ tot l := by
  induction l with
  | nil => exact Int.le_refl _
  | cons x t ih =>
    have := ih fun y hy => h y (.tail _ hy)
    have := h x (.head _)
    simp only [tot]; omega
/-- what is in the contract, and to whom it goes back -/
structure J (c : Int) (E0 E : Eco) (B : List Gf) : Prop where
  len : E.P.rows.length = E0.P.rows.length
  name : ∀ k, k < E0.P.rows.length → (E.P.rows.getD k ⟨[], 0⟩).name = (E0.P.rows.getD k ⟨[], 0⟩).name
  coin : ∀ k, k < E0.P.rows.length → Pu.coin E.P.rows k + toK k B = Pu.coin E0.P.rows k
  cns : cns E.l c = tot B
  ilen : E.its.length = E0.its.length
  free : ∀ i, i < E0.its.length → (∀ x ∈ B, x.item ≠ (i : Int) + 1) → E.its[i]? = E0.its[i]?
  held : ∀ x ∈ B, x.item ≠ 0 → ∃ (i : Nat) (n k : Int), x.item = (i : Int) + 1 ∧ E0.its[i]? = some ⟨n, k, x.to, 0⟩ ∧ E.its[i]? = some ⟨n, k, -1, c⟩
  once : B.Pairwise fun x y => x.item ≠ 0 → x.item ≠ y.item
  each : ∀ x ∈ B, Pu.accE E0.P.rows x.to = 0 ∧ 0 ≤ x.coins ∧ (x.item ≠ 0 ∨ 0 < x.coins)
theorem J.perm {c : Int} {E0 E : Eco} {B B' : List Gf} (h : J c E0 E B) (hp : B.Perm B') : J c E0 E B' where
  len := h.len
  name := h.name
  coin k hk := by rw [← toK_perm k hp]; exact h.coin k hk
  cns := by rw [← tot_perm hp]; exact h.cns
  ilen := h.ilen
  free i hi hx := h.free i hi fun x hx' => hx x (hp.mem_iff.1 hx')
  held x hx := h.held x (hp.mem_iff.2 hx)
  once := (hp.pairwise_iff (fun {x y} hxy hy e => hxy (by rw [← e]; exact hy) e.symm)).1 h.once
  each x hx := h.each x (hp.mem_iff.2 hx)
theorem acc_len {l l' : List Pu.Ac} (h : l.length = l'.length) (n : Int) : Pu.accE l n = Pu.accE l' n := by unfold Pu.accE; rw [h]
theorem getF_at {its : List Gd.It} {i : Nat} {x : Gd.It} (h : its[i]? = some x) : Gd.getF its ((i : Int) + 1) = (x, 0) := by
  obtain ⟨hi, hx⟩ := List.getElem?_eq_some_iff.1 h
  unfold Gd.getF
  rw [if_pos (by omega)]
  have : ((i : Int) + 1).toNat - 1 = i := by omega
  rw [this]
  simp [hi, hx]
/-- the first of them goes back -/
theorem J.give {lp lg c : Int} {E0 E : Eco} {x : Gf} {B : List Gf} (h : J c E0 E (x :: B)) (hE : EI lp lg E) (hc : 1 ≤ c ∧ c < 9223372036854775808) : ∃ E', giveF c x E = (0, E') ∧ J c E0 E' B ∧ EI lp lg E' := by
  obtain ⟨ha0, hc0, _⟩ := h.each x (.head _)
  have ha : Pu.accE E.P.rows x.to = 0 := by rw [acc_len h.len]; exact ha0
  have htot : 0 ≤ tot B := tot_nonneg fun y hy => (h.each y (.tail _ hy)).2.1
  have hcns := h.cns
  simp only [tot] at hcns
  have gv : Gives c x E := by
    refine ⟨get_acc.2 ha, fun hi => ?_, by omega⟩
    obtain ⟨i, n, k, e, _, h2⟩ := h.held x (.head _) hi
    rw [e, getF_at h2]
    exact ⟨rfl, rfl⟩
  have hok := ((give_cases c x E).resolve_right fun q => q.1 gv).2
  have hle := cns_le hE.R c
  have hsum := hE.sum
  have hput := (put_back hE.P ha (c := x.coins) ⟨hc0, by omega⟩).1
  obtain ⟨t, ht, htl⟩ := Pu.acc_in ha
  have e0 : x.to.toNat = t := by omega
  refine ⟨_, hok, ?_, by have := give_ei hE hc hc0 (x := x); rw [hok] at this; exact this⟩
  rw [hput, e0]
  constructor
  · exact (Pu.setC_len _ _ _).trans h.len
  · intro k hk
    have hk' : k < E.P.rows.length := by rw [h.len]; exact hk
    rw [← h.name k hk]
    show ((Pu.setC E.P.rows t (Pu.coin E.P.rows t + x.coins)).getD k ⟨[], 0⟩).name = _
    obtain ⟨hk2, hnm⟩ := Pu.setC_name (l := E.P.rows) (i := t) (k := k) (c := Pu.coin E.P.rows t + x.coins) (by rw [Pu.setC_len]; exact hk')
    simp only [List.getD_eq_getElem?_getD, List.getElem?_eq_getElem hk', List.getElem?_eq_getElem (show k < (Pu.setC E.P.rows t (Pu.coin E.P.rows t + x.coins)).length by rw [Pu.setC_len]; exact hk'), Option.getD_some]
    exact hnm
  · intro k hk
    have := h.coin k hk
    simp only [toK] at this
    show Pu.coin (Pu.setC E.P.rows t (Pu.coin E.P.rows t + x.coins)) k + toK k B = _
    rw [Pu.coin_set htl]
    by_cases ek : k = t
    · subst ek
      rw [if_pos rfl]
      rw [if_pos ht] at this
      omega
    · rw [if_neg ek]
      rw [if_neg (by omega)] at this
      omega
  · show Es.cns (setR c (Es.cns E.l c - x.coins) E.l) c = tot B
    rw [cns_setR hE.R hc (by omega), if_pos rfl]; omega
  · show (if x.item ≠ 0 then (Gd.freeF E.its x.item x.to).2 else E.its).length = _
    split
    · unfold Gd.freeF Gd.putF
      split
      · split
        · split
          · rw [List.length_set]; exact h.ilen
          · exact h.ilen
        · exact h.ilen
      · exact h.ilen
    · exact h.ilen
  all_goals (try exact (List.pairwise_cons.1 h.once).2)
  all_goals (try exact fun y hy => h.each y (.tail _ hy))
  · intro i hi hx
    show (if x.item ≠ 0 then (Gd.freeF E.its x.item x.to).2 else E.its)[i]? = _
    by_cases hi0 : x.item = 0
    · rw [if_neg (by simp [hi0])]
      refine h.free i hi fun y hy => ?_
      rcases List.mem_cons.1 hy with rfl | hy
      · omega
      · exact hx y hy
    · rw [if_pos hi0]
      obtain ⟨j, n, k, ej, h1, h2⟩ := h.held x (.head _) hi0
      have hfr : (Gd.freeF E.its x.item x.to).2 = E.its.set j ⟨n, k, x.to, 0⟩ := by
        obtain ⟨hj, hxj⟩ := List.getElem?_eq_some_iff.1 h2
        unfold Gd.freeF Gd.putF
        have e1 : ((j : Int) + 1).toNat - 1 = j := by omega
        rw [if_pos (acc_of hE.P ha), ej, if_pos (by omega), e1]
        have e2 : E.its.getD j ⟨0, 0, 0, 0⟩ = ⟨n, k, -1, c⟩ := by simp [hj, hxj]
        rw [e2, if_pos (by simp; omega)]
      rw [hfr]
      by_cases eij : i = j
      · subst eij
        obtain ⟨hj, _⟩ := List.getElem?_eq_some_iff.1 h2
        rw [List.getElem?_set_self hj, h1]
      · rw [List.getElem?_set_ne (Ne.symm eij)]
        refine h.free i hi fun y hy => ?_
        rcases List.mem_cons.1 hy with rfl | hy
        · omega
        · exact hx y hy
  · intro y hy hyi
    obtain ⟨i, n, k, e, h1, h2⟩ := h.held y (.tail _ hy) hyi
    refine ⟨i, n, k, e, h1, ?_⟩
    show (if x.item ≠ 0 then (Gd.freeF E.its x.item x.to).2 else E.its)[i]? = _
    by_cases hi0 : x.item = 0
    · rw [if_neg (by simp [hi0])]; exact h2
    · rw [if_pos hi0]
      obtain ⟨j, n', k', ej, g1, g2⟩ := h.held x (.head _) hi0
      have hne := (List.pairwise_cons.1 h.once).1 y hy hi0
      have hij : j ≠ i := by rintro rfl; exact hne (by omega)
      unfold Gd.freeF Gd.putF
      have e1 : ((j : Int) + 1).toNat - 1 = j := by omega
      rw [ej]
      split
      · split
        · split
          · rw [e1, List.getElem?_set_ne hij]; exact h2
          · exact h2
        · exact h2
      · exact h2
/-- all of them go back -/
theorem J.all {lp lg c : Int} {E0 : Eco} (hc : 1 ≤ c ∧ c < 9223372036854775808) : ∀ {B B' : List Gf} {E : Eco}, J c E0 E (B ++ B') → EI lp lg E → ∃ E', giveL c B E = (0, E') ∧ J c E0 E' B' ∧ EI lp lg E'
  | [], _, E, h, hE => ⟨E, rfl, h, hE⟩
  | x :: t, B', E, h, hE => by
    obtain ⟨E1, e1, h1, hE1⟩ := J.give (x := x) (B := t ++ B') h hE hc
    obtain ⟨E2, e2, h2, hE2⟩ := J.all hc h1 hE1
    refine ⟨E2, ?_, h2, hE2⟩
    simp only [giveL, e1]
    simpa using e2
end Go.HL.Es

namespace Go.HL.Es
open Go.HL Go.Proofs
set_option maxRecDepth 4000
set_option linter.unusedSimpArgs false
set_option linter.unusedVariables false
/-- a step -/
structure So where
  kind : Int
  con : Int
  gv : Value
  gs : List Gf
  e : Ew
def So.cs (o : So) : List Value := [.int .i64 o.kind, .int .i64 o.con, o.gv] ++ o.e.cs
/-- a step within bounds -/
structure So.ok (o : So) (w0 : World) (A : Asn) : Prop where
  con : -9223372036854775808 ≤ o.con ∧ o.con < 9223372036854775808
  gv : o.gv.oneCell' = true
  row : Row w0 A o.gv o.gs.length 3 (gflat o.gs)
  len : o.gs.length ≤ 1048576
  gs : ∀ x ∈ o.gs, 0 ≤ x.coins ∧ x.coins < 18446744073709551616
  wv : o.e.wv.oneCell' = true
  coins : 0 ≤ o.e.x.coins ∧ o.e.x.coins < 18446744073709551616
theorem So.ok.mono {o : So} {w0 : World} {A B : Asn} (h : o.ok w0 A) (hs : ∀ w, St w0 B w → St w0 A w) : o.ok w0 B := ⟨h.con, h.gv, h.row.mono hs, h.len, h.gs, h.wv, h.coins⟩
theorem so_one {o : So} {w0 : World} {A : Asn} (h : o.ok w0 A) : ∀ u ∈ o.cs, u.oneCell' = true := by
  intro u hu
  simp only [So.cs, Ew.cs, Et.cs, List.cons_append, List.nil_append, List.mem_cons, List.not_mem_nil, or_false] at hu
  rcases hu with rfl | rfl | rfl | rfl | rfl | rfl | rfl | rfl
  · rfl
  · rfl
  · exact h.gv
  · rfl
  · rfl
  · rfl
  · rfl
  · exact h.wv
def doesF (o : So) (E : Eco) : Int × Bool × Eco :=
  if o.kind = 1 then ((turnF o.con [] (putE o.con o.e.x) E).1, true, (turnF o.con [] (putE o.con o.e.x) E).2)
  else if o.kind = 2 then ((turnF o.con o.gs (putE o.con o.e.x) E).1, true, (turnF o.con o.gs (putE o.con o.e.x) E).2)
  else if o.kind = 3 then ((turnF o.con o.gs (endE o.con) E).1, true, (turnF o.con o.gs (endE o.con) E).2)
  else (0, false, E)
-- bazaar/bazaarlaw17.does
def h15_0 : HC := (.seq (.reg (.chk none (.cal 8) (.cons (.inp 5) .nil) (.done [(3, (.op (.cal 8) (.cons (.inp 5) .nil))), (4, (.cst (.bool true)))] none))) .ret)
@[simp] theorem h15_0_wp {P : Program} {F : PF P} {Q : EX → List Value → World → Prop} {env : List Value} {w : World} : h15_0.wp F Q env w = HC.wp F (.seq (.reg (.chk none (.cal 8) (.cons (.inp 5) .nil) (.done [(3, (.op (.cal 8) (.cons (.inp 5) .nil))), (4, (.cst (.bool true)))] none))) .ret) Q env w := rfl
def h15_1 : HC := (.reg (.chk none (.fld 1) (.cons (.inp 2) .nil) (.eff (.ld false 1) (.cons (.op (.fld 1) (.cons (.inp 2) .nil)) .nil) (.chk none (.fld 3) (.cons (.inp 2) .nil) (.eff (.ld true 5) (.cons (.op (.fld 3) (.cons (.inp 2) .nil)) .nil) (.eff (.call 27) (.cons (.inp 0) (.cons (.bv 0) (.cons (.bv 1) .nil))) (.done [(5, (.bv 2))] none)))))))
@[simp] theorem h15_1_wp {P : Program} {F : PF P} {Q : EX → List Value → World → Prop} {env : List Value} {w : World} : h15_1.wp F Q env w = HC.wp F (.reg (.chk none (.fld 1) (.cons (.inp 2) .nil) (.eff (.ld false 1) (.cons (.op (.fld 1) (.cons (.inp 2) .nil)) .nil) (.chk none (.fld 3) (.cons (.inp 2) .nil) (.eff (.ld true 5) (.cons (.op (.fld 3) (.cons (.inp 2) .nil)) .nil) (.eff (.call 27) (.cons (.inp 0) (.cons (.bv 0) (.cons (.bv 1) .nil))) (.done [(5, (.bv 2))] none))))))) Q env w := rfl
def h15_2 : HC := (.reg (.chk none (.fld 1) (.cons (.inp 2) .nil) (.eff (.ld false 1) (.cons (.op (.fld 1) (.cons (.inp 2) .nil)) .nil) (.chk none (.fld 2) (.cons (.inp 2) .nil) (.eff (.ld false 1) (.cons (.op (.fld 2) (.cons (.inp 2) .nil)) .nil) (.chk none (.fld 3) (.cons (.inp 2) .nil) (.eff (.ld true 5) (.cons (.op (.fld 3) (.cons (.inp 2) .nil)) .nil) (.eff (.call 43) (.cons (.inp 0) (.cons (.bv 0) (.cons (.bv 1) (.cons (.bv 2) .nil)))) (.done [(5, (.bv 3))] none)))))))))
@[simp] theorem h15_2_wp {P : Program} {F : PF P} {Q : EX → List Value → World → Prop} {env : List Value} {w : World} : h15_2.wp F Q env w = HC.wp F (.reg (.chk none (.fld 1) (.cons (.inp 2) .nil) (.eff (.ld false 1) (.cons (.op (.fld 1) (.cons (.inp 2) .nil)) .nil) (.chk none (.fld 2) (.cons (.inp 2) .nil) (.eff (.ld false 1) (.cons (.op (.fld 2) (.cons (.inp 2) .nil)) .nil) (.chk none (.fld 3) (.cons (.inp 2) .nil) (.eff (.ld true 5) (.cons (.op (.fld 3) (.cons (.inp 2) .nil)) .nil) (.eff (.call 43) (.cons (.inp 0) (.cons (.bv 0) (.cons (.bv 1) (.cons (.bv 2) .nil)))) (.done [(5, (.bv 3))] none))))))))) Q env w := rfl
def h15_3 : HC := (.reg (.chk none (.fld 1) (.cons (.inp 2) .nil) (.eff (.ld false 1) (.cons (.op (.fld 1) (.cons (.inp 2) .nil)) .nil) (.chk none (.fld 2) (.cons (.inp 2) .nil) (.eff (.ld false 1) (.cons (.op (.fld 2) (.cons (.inp 2) .nil)) .nil) (.eff (.call 44) (.cons (.inp 0) (.cons (.bv 0) (.cons (.bv 1) .nil))) (.done [(5, (.bv 2))] none)))))))
@[simp] theorem h15_3_wp {P : Program} {F : PF P} {Q : EX → List Value → World → Prop} {env : List Value} {w : World} : h15_3.wp F Q env w = HC.wp F (.reg (.chk none (.fld 1) (.cons (.inp 2) .nil) (.eff (.ld false 1) (.cons (.op (.fld 1) (.cons (.inp 2) .nil)) .nil) (.chk none (.fld 2) (.cons (.inp 2) .nil) (.eff (.ld false 1) (.cons (.op (.fld 2) (.cons (.inp 2) .nil)) .nil) (.eff (.call 44) (.cons (.inp 0) (.cons (.bv 0) (.cons (.bv 1) .nil))) (.done [(5, (.bv 2))] none))))))) Q env w := rfl
def h15_4 : HC := (.seq (.reg (.done [(3, (.cst (.int .i64 0))), (4, (.cst (.bool false)))] none)) .ret)
@[simp] theorem h15_4_wp {P : Program} {F : PF P} {Q : EX → List Value → World → Prop} {env : List Value} {w : World} : h15_4.wp F Q env w = HC.wp F (.seq (.reg (.done [(3, (.cst (.int .i64 0))), (4, (.cst (.bool false)))] none)) .ret) Q env w := rfl
def h15_5 : HC := (.br (.chk none (.bin .eql) (.cons (.inp 6) (.cons (.cst (.int .i64 3)) .nil)) (.done [] (some (.op (.bin .eql) (.cons (.inp 6) (.cons (.cst (.int .i64 3)) .nil)))))) h15_3 h15_4)
@[simp] theorem h15_5_wp {P : Program} {F : PF P} {Q : EX → List Value → World → Prop} {env : List Value} {w : World} : h15_5.wp F Q env w = HC.wp F (.br (.chk none (.bin .eql) (.cons (.inp 6) (.cons (.cst (.int .i64 3)) .nil)) (.done [] (some (.op (.bin .eql) (.cons (.inp 6) (.cons (.cst (.int .i64 3)) .nil)))))) h15_3 h15_4) Q env w := rfl
def h15_6 : HC := (.br (.chk none (.bin .eql) (.cons (.inp 6) (.cons (.cst (.int .i64 2)) .nil)) (.done [] (some (.op (.bin .eql) (.cons (.inp 6) (.cons (.cst (.int .i64 2)) .nil)))))) h15_2 h15_5)
@[simp] theorem h15_6_wp {P : Program} {F : PF P} {Q : EX → List Value → World → Prop} {env : List Value} {w : World} : h15_6.wp F Q env w = HC.wp F (.br (.chk none (.bin .eql) (.cons (.inp 6) (.cons (.cst (.int .i64 2)) .nil)) (.done [] (some (.op (.bin .eql) (.cons (.inp 6) (.cons (.cst (.int .i64 2)) .nil)))))) h15_2 h15_5) Q env w := rfl
def h15_7 : HC := (.br (.chk none (.bin .eql) (.cons (.inp 6) (.cons (.cst (.int .i64 1)) .nil)) (.done [] (some (.op (.bin .eql) (.cons (.inp 6) (.cons (.cst (.int .i64 1)) .nil)))))) h15_1 h15_6)
@[simp] theorem h15_7_wp {P : Program} {F : PF P} {Q : EX → List Value → World → Prop} {env : List Value} {w : World} : h15_7.wp F Q env w = HC.wp F (.br (.chk none (.bin .eql) (.cons (.inp 6) (.cons (.cst (.int .i64 1)) .nil)) (.done [] (some (.op (.bin .eql) (.cons (.inp 6) (.cons (.cst (.int .i64 1)) .nil)))))) h15_1 h15_6) Q env w := rfl
def h15_8 : HC := (.seq (.block 0 h15_7) h15_0)
@[simp] theorem h15_8_wp {P : Program} {F : PF P} {Q : EX → List Value → World → Prop} {env : List Value} {w : World} : h15_8.wp F Q env w = HC.wp F (.seq (.block 0 h15_7) h15_0) Q env w := rfl
def h15_9 : HC := (.seq (.reg (.chk none (.fld 0) (.cons (.inp 2) .nil) (.eff (.ld false 1) (.cons (.op (.fld 0) (.cons (.inp 2) .nil)) .nil) (.done [(6, (.bv 0))] none)))) h15_8)
@[simp] theorem h15_9_wp {P : Program} {F : PF P} {Q : EX → List Value → World → Prop} {env : List Value} {w : World} : h15_9.wp F Q env w = HC.wp F (.seq (.reg (.chk none (.fld 0) (.cons (.inp 2) .nil) (.eff (.ld false 1) (.cons (.op (.fld 0) (.cons (.inp 2) .nil)) .nil) (.done [(6, (.bv 0))] none)))) h15_8) Q env w := rfl
def h15_10 : HC := (.seq (.reg (.done [(5, (.cst (.int .i64 0)))] none)) h15_9)
@[simp] theorem h15_10_wp {P : Program} {F : PF P} {Q : EX → List Value → World → Prop} {env : List Value} {w : World} : h15_10.wp F Q env w = HC.wp F (.seq (.reg (.done [(5, (.cst (.int .i64 0)))] none)) h15_9) Q env w := rfl
def l15 : Lifted := ⟨[0, 1, 3, 4, 5, 6, 8], 37, [.slot 3, .slot 4], (.seq (.reg (.eff (.box 48) (.cons (.inp 1) .nil) (.done [(2, (.bv 0)), (3, (.cst (.int .i64 0))), (4, (.cst (.bool false)))] none))) h15_10)⟩
theorem l15_ok : liftFn E2 15 400 = some l15 := by kernel_rfl

-- bazaar/bazaarlaw17.turned
def h17_0 : HC := (.seq (.reg (.done [(3, (.inp 4))] none)) .ret)
@[simp] theorem h17_0_wp {P : Program} {F : PF P} {Q : EX → List Value → World → Prop} {env : List Value} {w : World} : h17_0.wp F Q env w = HC.wp F (.seq (.reg (.done [(3, (.inp 4))] none)) .ret) Q env w := rfl
def h17_1 : HC := (.reg (.chk none (.fld 3) (.cons (.inp 2) .nil) (.chk none (.fld 2) (.cons (.op (.fld 3) (.cons (.inp 2) .nil)) .nil) (.eff (.ld false 1) (.cons (.op (.fld 2) (.cons (.op (.fld 3) (.cons (.inp 2) .nil)) .nil)) .nil) (.chk none (.bin .sub) (.cons (.inp 4) (.cons (.bv 0) .nil)) (.done [(4, (.op (.bin .sub) (.cons (.inp 4) (.cons (.bv 0) .nil))))] none))))))
@[simp] theorem h17_1_wp {P : Program} {F : PF P} {Q : EX → List Value → World → Prop} {env : List Value} {w : World} : h17_1.wp F Q env w = HC.wp F (.reg (.chk none (.fld 3) (.cons (.inp 2) .nil) (.chk none (.fld 2) (.cons (.op (.fld 3) (.cons (.inp 2) .nil)) .nil) (.eff (.ld false 1) (.cons (.op (.fld 2) (.cons (.op (.fld 3) (.cons (.inp 2) .nil)) .nil)) .nil) (.chk none (.bin .sub) (.cons (.inp 4) (.cons (.bv 0) .nil)) (.done [(4, (.op (.bin .sub) (.cons (.inp 4) (.cons (.bv 0) .nil))))] none)))))) Q env w := rfl
def h17_2 : HC := (.seq (.br (.chk none (.fld 0) (.cons (.inp 2) .nil) (.eff (.ld false 1) (.cons (.op (.fld 0) (.cons (.inp 2) .nil)) .nil) (.chk none (.bin .neq) (.cons (.bv 0) (.cons (.cst (.int .i64 3)) .nil)) (.bnd (.op (.bin .neq) (.cons (.bv 0) (.cons (.cst (.int .i64 3)) .nil))) (.chk (some ((.bv 1), true)) (.fld 3) (.cons (.inp 2) .nil) (.chk (some ((.bv 1), true)) (.fld 0) (.cons (.op (.fld 3) (.cons (.inp 2) .nil)) .nil) (.ite (.bv 1) true (.eff (.ld false 1) (.cons (.ite (.bv 1) true (.op (.fld 0) (.cons (.op (.fld 3) (.cons (.inp 2) .nil)) .nil)) (.cst (.tuple #[]))) .nil) (.chk none (.bin .eql) (.cons (.bv 2) (.cons (.inp 1) .nil)) (.isb none (.bv 1) (.done [] (some (.op (.bin .eql) (.cons (.bv 2) (.cons (.inp 1) .nil)))))))) (.isb none (.bv 1) (.done [] (some (.cst (.bool false)))))))))))) h17_1 .skip) h17_0)
@[simp] theorem h17_2_wp {P : Program} {F : PF P} {Q : EX → List Value → World → Prop} {env : List Value} {w : World} : h17_2.wp F Q env w = HC.wp F (.seq (.br (.chk none (.fld 0) (.cons (.inp 2) .nil) (.eff (.ld false 1) (.cons (.op (.fld 0) (.cons (.inp 2) .nil)) .nil) (.chk none (.bin .neq) (.cons (.bv 0) (.cons (.cst (.int .i64 3)) .nil)) (.bnd (.op (.bin .neq) (.cons (.bv 0) (.cons (.cst (.int .i64 3)) .nil))) (.chk (some ((.bv 1), true)) (.fld 3) (.cons (.inp 2) .nil) (.chk (some ((.bv 1), true)) (.fld 0) (.cons (.op (.fld 3) (.cons (.inp 2) .nil)) .nil) (.ite (.bv 1) true (.eff (.ld false 1) (.cons (.ite (.bv 1) true (.op (.fld 0) (.cons (.op (.fld 3) (.cons (.inp 2) .nil)) .nil)) (.cst (.tuple #[]))) .nil) (.chk none (.bin .eql) (.cons (.bv 2) (.cons (.inp 1) .nil)) (.isb none (.bv 1) (.done [] (some (.op (.bin .eql) (.cons (.bv 2) (.cons (.inp 1) .nil)))))))) (.isb none (.bv 1) (.done [] (some (.cst (.bool false)))))))))))) h17_1 .skip) h17_0) Q env w := rfl
def h17_3 : HC := (.reg (.chk none (.bin .add) (.cons (.inp 5) (.cons (.cst (.int .i64 1)) .nil)) (.done [(5, (.op (.bin .add) (.cons (.inp 5) (.cons (.cst (.int .i64 1)) .nil))))] none)))
@[simp] theorem h17_3_wp {P : Program} {F : PF P} {Q : EX → List Value → World → Prop} {env : List Value} {w : World} : h17_3.wp F Q env w = HC.wp F (.reg (.chk none (.bin .add) (.cons (.inp 5) (.cons (.cst (.int .i64 1)) .nil)) (.done [(5, (.op (.bin .add) (.cons (.inp 5) (.cons (.cst (.int .i64 1)) .nil))))] none))) Q env w := rfl
def h17_4 : HC := (.reg (.chk none (.fld 2) (.cons (.inp 2) .nil) (.eff (.ld false 1) (.cons (.op (.fld 2) (.cons (.inp 2) .nil)) .nil) (.chk none (.idxL 3) (.cons (.bv 0) (.cons (.inp 5) .nil)) (.chk none (.fld 2) (.cons (.op (.idxL 3) (.cons (.bv 0) (.cons (.inp 5) .nil))) .nil) (.eff (.ld false 1) (.cons (.op (.fld 2) (.cons (.op (.idxL 3) (.cons (.bv 0) (.cons (.inp 5) .nil))) .nil)) .nil) (.chk none (.bin .add) (.cons (.inp 4) (.cons (.bv 1) .nil)) (.done [(4, (.op (.bin .add) (.cons (.inp 4) (.cons (.bv 1) .nil))))] none))))))))
@[simp] theorem h17_4_wp {P : Program} {F : PF P} {Q : EX → List Value → World → Prop} {env : List Value} {w : World} : h17_4.wp F Q env w = HC.wp F (.reg (.chk none (.fld 2) (.cons (.inp 2) .nil) (.eff (.ld false 1) (.cons (.op (.fld 2) (.cons (.inp 2) .nil)) .nil) (.chk none (.idxL 3) (.cons (.bv 0) (.cons (.inp 5) .nil)) (.chk none (.fld 2) (.cons (.op (.idxL 3) (.cons (.bv 0) (.cons (.inp 5) .nil))) .nil) (.eff (.ld false 1) (.cons (.op (.fld 2) (.cons (.op (.idxL 3) (.cons (.bv 0) (.cons (.inp 5) .nil))) .nil)) .nil) (.chk none (.bin .add) (.cons (.inp 4) (.cons (.bv 1) .nil)) (.done [(4, (.op (.bin .add) (.cons (.inp 4) (.cons (.bv 1) .nil))))] none)))))))) Q env w := rfl
def h17_5 : HC := (.br (.chk none (.fld 2) (.cons (.inp 2) .nil) (.eff (.ld false 1) (.cons (.op (.fld 2) (.cons (.inp 2) .nil)) .nil) (.chk none (.idxL 3) (.cons (.bv 0) (.cons (.inp 5) .nil)) (.chk none (.fld 0) (.cons (.op (.idxL 3) (.cons (.bv 0) (.cons (.inp 5) .nil))) .nil) (.eff (.ld false 1) (.cons (.op (.fld 0) (.cons (.op (.idxL 3) (.cons (.bv 0) (.cons (.inp 5) .nil))) .nil)) .nil) (.chk none (.bin .eql) (.cons (.bv 1) (.cons (.inp 1) .nil)) (.done [] (some (.op (.bin .eql) (.cons (.bv 1) (.cons (.inp 1) .nil))))))))))) h17_4 .skip)
@[simp] theorem h17_5_wp {P : Program} {F : PF P} {Q : EX → List Value → World → Prop} {env : List Value} {w : World} : h17_5.wp F Q env w = HC.wp F (.br (.chk none (.fld 2) (.cons (.inp 2) .nil) (.eff (.ld false 1) (.cons (.op (.fld 2) (.cons (.inp 2) .nil)) .nil) (.chk none (.idxL 3) (.cons (.bv 0) (.cons (.inp 5) .nil)) (.chk none (.fld 0) (.cons (.op (.idxL 3) (.cons (.bv 0) (.cons (.inp 5) .nil))) .nil) (.eff (.ld false 1) (.cons (.op (.fld 0) (.cons (.op (.idxL 3) (.cons (.bv 0) (.cons (.inp 5) .nil))) .nil)) .nil) (.chk none (.bin .eql) (.cons (.bv 1) (.cons (.inp 1) .nil)) (.done [] (some (.op (.bin .eql) (.cons (.bv 1) (.cons (.inp 1) .nil))))))))))) h17_4 .skip) Q env w := rfl
def h17_6 : HC := (.seq (.block 1 h17_5) h17_3)
@[simp] theorem h17_6_wp {P : Program} {F : PF P} {Q : EX → List Value → World → Prop} {env : List Value} {w : World} : h17_6.wp F Q env w = HC.wp F (.seq (.block 1 h17_5) h17_3) Q env w := rfl
def h17_7 : HC := (.seq (.br (.chk none (.fld 2) (.cons (.inp 2) .nil) (.eff (.ld false 1) (.cons (.op (.fld 2) (.cons (.inp 2) .nil)) .nil) (.chk none .lenL (.cons (.bv 0) .nil) (.chk none (.bin .lss) (.cons (.inp 5) (.cons (.op .lenL (.cons (.bv 0) .nil)) .nil)) (.bnd (.op (.bin .lss) (.cons (.inp 5) (.cons (.op .lenL (.cons (.bv 0) .nil)) .nil))) (.chk (some ((.bv 1), true)) (.fld 0) (.cons (.inp 2) .nil) (.ite (.bv 1) true (.eff (.ld false 1) (.cons (.ite (.bv 1) true (.op (.fld 0) (.cons (.inp 2) .nil)) (.cst (.tuple #[]))) .nil) (.chk none (.bin .neq) (.cons (.bv 2) (.cons (.cst (.int .i64 1)) .nil)) (.isb none (.bv 1) (.done [] (some (.op (.bin .neq) (.cons (.bv 2) (.cons (.cst (.int .i64 1)) .nil)))))))) (.isb none (.bv 1) (.done [] (some (.cst (.bool false)))))))))))) .skip (.exit 0)) h17_6)
@[simp] theorem h17_7_wp {P : Program} {F : PF P} {Q : EX → List Value → World → Prop} {env : List Value} {w : World} : h17_7.wp F Q env w = HC.wp F (.seq (.br (.chk none (.fld 2) (.cons (.inp 2) .nil) (.eff (.ld false 1) (.cons (.op (.fld 2) (.cons (.inp 2) .nil)) .nil) (.chk none .lenL (.cons (.bv 0) .nil) (.chk none (.bin .lss) (.cons (.inp 5) (.cons (.op .lenL (.cons (.bv 0) .nil)) .nil)) (.bnd (.op (.bin .lss) (.cons (.inp 5) (.cons (.op .lenL (.cons (.bv 0) .nil)) .nil))) (.chk (some ((.bv 1), true)) (.fld 0) (.cons (.inp 2) .nil) (.ite (.bv 1) true (.eff (.ld false 1) (.cons (.ite (.bv 1) true (.op (.fld 0) (.cons (.inp 2) .nil)) (.cst (.tuple #[]))) .nil) (.chk none (.bin .neq) (.cons (.bv 2) (.cons (.cst (.int .i64 1)) .nil)) (.isb none (.bv 1) (.done [] (some (.op (.bin .neq) (.cons (.bv 2) (.cons (.cst (.int .i64 1)) .nil)))))))) (.isb none (.bv 1) (.done [] (some (.cst (.bool false)))))))))))) .skip (.exit 0)) h17_6) Q env w := rfl
def h17_8 : HC := (.loop h17_7)
@[simp] theorem h17_8_wp {P : Program} {F : PF P} {Q : EX → List Value → World → Prop} {env : List Value} {w : World} : h17_8.wp F Q env w = HC.wp F (.loop h17_7) Q env w := rfl
def h17_9 : HC := (.seq (.block 0 h17_8) h17_2)
@[simp] theorem h17_9_wp {P : Program} {F : PF P} {Q : EX → List Value → World → Prop} {env : List Value} {w : World} : h17_9.wp F Q env w = HC.wp F (.seq (.block 0 h17_8) h17_2) Q env w := rfl
def h17_10 : HC := (.seq (.reg (.done [(5, (.cst (.int .i64 0)))] none)) h17_9)
@[simp] theorem h17_10_wp {P : Program} {F : PF P} {Q : EX → List Value → World → Prop} {env : List Value} {w : World} : h17_10.wp F Q env w = HC.wp F (.seq (.reg (.done [(5, (.cst (.int .i64 0)))] none)) h17_9) Q env w := rfl
def h17_11 : HC := (.seq (.reg (.done [(4, (.cst (.int .u64 0)))] none)) h17_10)
@[simp] theorem h17_11_wp {P : Program} {F : PF P} {Q : EX → List Value → World → Prop} {env : List Value} {w : World} : h17_11.wp F Q env w = HC.wp F (.seq (.reg (.done [(4, (.cst (.int .u64 0)))] none)) h17_10) Q env w := rfl
def l17 : Lifted := ⟨[0, 1, 2, 4, 5, 6], 51, [.slot 3], (.seq (.reg (.eff (.box 48) (.cons (.inp 0) .nil) (.done [(2, (.bv 0)), (3, (.cst (.int .u64 0)))] none))) h17_11)⟩
theorem l17_ok : liftFn E2 17 400 = some l17 := by kernel_rfl

-- bazaar/bazaarlaw17.where
def h18_0 : HC := (.seq (.reg (.eff (.ld true 4) (.cons (.inp 3) .nil) (.eff (.st 4) (.cons (.inp 4) (.cons (.bv 0) .nil)) (.done [] none)))) .ret)
@[simp] theorem h18_0_wp {P : Program} {F : PF P} {Q : EX → List Value → World → Prop} {env : List Value} {w : World} : h18_0.wp F Q env w = HC.wp F (.seq (.reg (.eff (.ld true 4) (.cons (.inp 3) .nil) (.eff (.st 4) (.cons (.inp 4) (.cons (.bv 0) .nil)) (.done [] none)))) .ret) Q env w := rfl
def h18_1 : HC := (.reg (.chk none (.fld 1) (.cons (.inp 2) .nil) (.eff (.ld false 1) (.cons (.op (.fld 1) (.cons (.inp 2) .nil)) .nil) (.chk none (.fld 3) (.cons (.inp 3) .nil) (.eff (.st 1) (.cons (.op (.fld 3) (.cons (.inp 3) .nil)) (.cons (.bv 0) .nil)) (.done [] none))))))
@[simp] theorem h18_1_wp {P : Program} {F : PF P} {Q : EX → List Value → World → Prop} {env : List Value} {w : World} : h18_1.wp F Q env w = HC.wp F (.reg (.chk none (.fld 1) (.cons (.inp 2) .nil) (.eff (.ld false 1) (.cons (.op (.fld 1) (.cons (.inp 2) .nil)) .nil) (.chk none (.fld 3) (.cons (.inp 3) .nil) (.eff (.st 1) (.cons (.op (.fld 3) (.cons (.inp 3) .nil)) (.cons (.bv 0) .nil)) (.done [] none)))))) Q env w := rfl
def h18_2 : HC := (.seq (.reg (.chk none (.fld 2) (.cons (.inp 3) .nil) (.eff (.st 1) (.cons (.op (.fld 2) (.cons (.inp 3) .nil)) (.cons (.cst (.int .i64 (-1))) .nil)) (.done [] none)))) h18_1)
@[simp] theorem h18_2_wp {P : Program} {F : PF P} {Q : EX → List Value → World → Prop} {env : List Value} {w : World} : h18_2.wp F Q env w = HC.wp F (.seq (.reg (.chk none (.fld 2) (.cons (.inp 3) .nil) (.eff (.st 1) (.cons (.op (.fld 2) (.cons (.inp 3) .nil)) (.cons (.cst (.int .i64 (-1))) .nil)) (.done [] none)))) h18_1) Q env w := rfl
def h18_3 : HC := (.seq (.br (.chk none (.fld 0) (.cons (.inp 2) .nil) (.eff (.ld false 1) (.cons (.op (.fld 0) (.cons (.inp 2) .nil)) .nil) (.chk none (.bin .neq) (.cons (.bv 0) (.cons (.cst (.int .i64 3)) .nil)) (.bnd (.op (.bin .neq) (.cons (.bv 0) (.cons (.cst (.int .i64 3)) .nil))) (.chk (some ((.bv 1), true)) (.fld 3) (.cons (.inp 2) .nil) (.chk (some ((.bv 1), true)) (.fld 1) (.cons (.op (.fld 3) (.cons (.inp 2) .nil)) .nil) (.ite (.bv 1) true (.eff (.ld false 1) (.cons (.ite (.bv 1) true (.op (.fld 1) (.cons (.op (.fld 3) (.cons (.inp 2) .nil)) .nil)) (.cst (.tuple #[]))) .nil) (.chk none (.fld 0) (.cons (.inp 3) .nil) (.eff (.ld false 1) (.cons (.op (.fld 0) (.cons (.inp 3) .nil)) .nil) (.chk none (.bin .eql) (.cons (.bv 2) (.cons (.bv 3) .nil)) (.isb none (.bv 1) (.done [] (some (.op (.bin .eql) (.cons (.bv 2) (.cons (.bv 3) .nil)))))))))) (.isb none (.bv 1) (.done [] (some (.cst (.bool false)))))))))))) h18_2 .skip) h18_0)
@[simp] theorem h18_3_wp {P : Program} {F : PF P} {Q : EX → List Value → World → Prop} {env : List Value} {w : World} : h18_3.wp F Q env w = HC.wp F (.seq (.br (.chk none (.fld 0) (.cons (.inp 2) .nil) (.eff (.ld false 1) (.cons (.op (.fld 0) (.cons (.inp 2) .nil)) .nil) (.chk none (.bin .neq) (.cons (.bv 0) (.cons (.cst (.int .i64 3)) .nil)) (.bnd (.op (.bin .neq) (.cons (.bv 0) (.cons (.cst (.int .i64 3)) .nil))) (.chk (some ((.bv 1), true)) (.fld 3) (.cons (.inp 2) .nil) (.chk (some ((.bv 1), true)) (.fld 1) (.cons (.op (.fld 3) (.cons (.inp 2) .nil)) .nil) (.ite (.bv 1) true (.eff (.ld false 1) (.cons (.ite (.bv 1) true (.op (.fld 1) (.cons (.op (.fld 3) (.cons (.inp 2) .nil)) .nil)) (.cst (.tuple #[]))) .nil) (.chk none (.fld 0) (.cons (.inp 3) .nil) (.eff (.ld false 1) (.cons (.op (.fld 0) (.cons (.inp 3) .nil)) .nil) (.chk none (.bin .eql) (.cons (.bv 2) (.cons (.bv 3) .nil)) (.isb none (.bv 1) (.done [] (some (.op (.bin .eql) (.cons (.bv 2) (.cons (.bv 3) .nil)))))))))) (.isb none (.bv 1) (.done [] (some (.cst (.bool false)))))))))))) h18_2 .skip) h18_0) Q env w := rfl
def h18_4 : HC := (.reg (.chk none (.bin .add) (.cons (.inp 5) (.cons (.cst (.int .i64 1)) .nil)) (.done [(5, (.op (.bin .add) (.cons (.inp 5) (.cons (.cst (.int .i64 1)) .nil))))] none)))
@[simp] theorem h18_4_wp {P : Program} {F : PF P} {Q : EX → List Value → World → Prop} {env : List Value} {w : World} : h18_4.wp F Q env w = HC.wp F (.reg (.chk none (.bin .add) (.cons (.inp 5) (.cons (.cst (.int .i64 1)) .nil)) (.done [(5, (.op (.bin .add) (.cons (.inp 5) (.cons (.cst (.int .i64 1)) .nil))))] none))) Q env w := rfl
def h18_5 : HC := (.reg (.chk none (.fld 3) (.cons (.inp 3) .nil) (.eff (.st 1) (.cons (.op (.fld 3) (.cons (.inp 3) .nil)) (.cons (.cst (.int .i64 0)) .nil)) (.done [] none))))
@[simp] theorem h18_5_wp {P : Program} {F : PF P} {Q : EX → List Value → World → Prop} {env : List Value} {w : World} : h18_5.wp F Q env w = HC.wp F (.reg (.chk none (.fld 3) (.cons (.inp 3) .nil) (.eff (.st 1) (.cons (.op (.fld 3) (.cons (.inp 3) .nil)) (.cons (.cst (.int .i64 0)) .nil)) (.done [] none)))) Q env w := rfl
def h18_6 : HC := (.seq (.reg (.chk none (.fld 2) (.cons (.inp 2) .nil) (.eff (.ld false 1) (.cons (.op (.fld 2) (.cons (.inp 2) .nil)) .nil) (.chk none (.idxL 3) (.cons (.bv 0) (.cons (.inp 5) .nil)) (.chk none (.fld 0) (.cons (.op (.idxL 3) (.cons (.bv 0) (.cons (.inp 5) .nil))) .nil) (.eff (.ld false 1) (.cons (.op (.fld 0) (.cons (.op (.idxL 3) (.cons (.bv 0) (.cons (.inp 5) .nil))) .nil)) .nil) (.chk none (.fld 2) (.cons (.inp 3) .nil) (.eff (.st 1) (.cons (.op (.fld 2) (.cons (.inp 3) .nil)) (.cons (.bv 1) .nil)) (.done [] none))))))))) h18_5)
@[simp] theorem h18_6_wp {P : Program} {F : PF P} {Q : EX → List Value → World → Prop} {env : List Value} {w : World} : h18_6.wp F Q env w = HC.wp F (.seq (.reg (.chk none (.fld 2) (.cons (.inp 2) .nil) (.eff (.ld false 1) (.cons (.op (.fld 2) (.cons (.inp 2) .nil)) .nil) (.chk none (.idxL 3) (.cons (.bv 0) (.cons (.inp 5) .nil)) (.chk none (.fld 0) (.cons (.op (.idxL 3) (.cons (.bv 0) (.cons (.inp 5) .nil))) .nil) (.eff (.ld false 1) (.cons (.op (.fld 0) (.cons (.op (.idxL 3) (.cons (.bv 0) (.cons (.inp 5) .nil))) .nil)) .nil) (.chk none (.fld 2) (.cons (.inp 3) .nil) (.eff (.st 1) (.cons (.op (.fld 2) (.cons (.inp 3) .nil)) (.cons (.bv 1) .nil)) (.done [] none))))))))) h18_5) Q env w := rfl
def h18_7 : HC := (.brq (some 0) (.chk none (.fld 2) (.cons (.inp 2) .nil) (.eff (.ld false 1) (.cons (.op (.fld 2) (.cons (.inp 2) .nil)) .nil) (.chk none (.idxL 3) (.cons (.bv 0) (.cons (.inp 5) .nil)) (.chk none (.fld 1) (.cons (.op (.idxL 3) (.cons (.bv 0) (.cons (.inp 5) .nil))) .nil) (.eff (.ld false 1) (.cons (.op (.fld 1) (.cons (.op (.idxL 3) (.cons (.bv 0) (.cons (.inp 5) .nil))) .nil)) .nil) (.chk none (.fld 0) (.cons (.inp 3) .nil) (.eff (.ld false 1) (.cons (.op (.fld 0) (.cons (.inp 3) .nil)) .nil) (.chk none (.bin .eql) (.cons (.bv 1) (.cons (.bv 2) .nil)) (.done [] (some (.op (.bin .eql) (.cons (.bv 1) (.cons (.bv 2) .nil))))))))))))) h18_6 .skip)
@[simp] theorem h18_7_wp {P : Program} {F : PF P} {Q : EX → List Value → World → Prop} {env : List Value} {w : World} : h18_7.wp F Q env w = HC.wp F (.brq (some 0) (.chk none (.fld 2) (.cons (.inp 2) .nil) (.eff (.ld false 1) (.cons (.op (.fld 2) (.cons (.inp 2) .nil)) .nil) (.chk none (.idxL 3) (.cons (.bv 0) (.cons (.inp 5) .nil)) (.chk none (.fld 1) (.cons (.op (.idxL 3) (.cons (.bv 0) (.cons (.inp 5) .nil))) .nil) (.eff (.ld false 1) (.cons (.op (.fld 1) (.cons (.op (.idxL 3) (.cons (.bv 0) (.cons (.inp 5) .nil))) .nil)) .nil) (.chk none (.fld 0) (.cons (.inp 3) .nil) (.eff (.ld false 1) (.cons (.op (.fld 0) (.cons (.inp 3) .nil)) .nil) (.chk none (.bin .eql) (.cons (.bv 1) (.cons (.bv 2) .nil)) (.done [] (some (.op (.bin .eql) (.cons (.bv 1) (.cons (.bv 2) .nil))))))))))))) h18_6 .skip) Q env w := rfl
def h18_8 : HC := (.seq (.block 1 h18_7) h18_4)
@[simp] theorem h18_8_wp {P : Program} {F : PF P} {Q : EX → List Value → World → Prop} {env : List Value} {w : World} : h18_8.wp F Q env w = HC.wp F (.seq (.block 1 h18_7) h18_4) Q env w := rfl
def h18_9 : HC := (.seq (.br (.chk none (.fld 2) (.cons (.inp 2) .nil) (.eff (.ld false 1) (.cons (.op (.fld 2) (.cons (.inp 2) .nil)) .nil) (.chk none .lenL (.cons (.bv 0) .nil) (.chk none (.bin .lss) (.cons (.inp 5) (.cons (.op .lenL (.cons (.bv 0) .nil)) .nil)) (.bnd (.op (.bin .lss) (.cons (.inp 5) (.cons (.op .lenL (.cons (.bv 0) .nil)) .nil))) (.chk (some ((.bv 1), true)) (.fld 0) (.cons (.inp 2) .nil) (.ite (.bv 1) true (.eff (.ld false 1) (.cons (.ite (.bv 1) true (.op (.fld 0) (.cons (.inp 2) .nil)) (.cst (.tuple #[]))) .nil) (.chk none (.bin .neq) (.cons (.bv 2) (.cons (.cst (.int .i64 1)) .nil)) (.isb none (.bv 1) (.done [] (some (.op (.bin .neq) (.cons (.bv 2) (.cons (.cst (.int .i64 1)) .nil)))))))) (.isb none (.bv 1) (.done [] (some (.cst (.bool false)))))))))))) .skip (.exit 0)) h18_8)
@[simp] theorem h18_9_wp {P : Program} {F : PF P} {Q : EX → List Value → World → Prop} {env : List Value} {w : World} : h18_9.wp F Q env w = HC.wp F (.seq (.br (.chk none (.fld 2) (.cons (.inp 2) .nil) (.eff (.ld false 1) (.cons (.op (.fld 2) (.cons (.inp 2) .nil)) .nil) (.chk none .lenL (.cons (.bv 0) .nil) (.chk none (.bin .lss) (.cons (.inp 5) (.cons (.op .lenL (.cons (.bv 0) .nil)) .nil)) (.bnd (.op (.bin .lss) (.cons (.inp 5) (.cons (.op .lenL (.cons (.bv 0) .nil)) .nil))) (.chk (some ((.bv 1), true)) (.fld 0) (.cons (.inp 2) .nil) (.ite (.bv 1) true (.eff (.ld false 1) (.cons (.ite (.bv 1) true (.op (.fld 0) (.cons (.inp 2) .nil)) (.cst (.tuple #[]))) .nil) (.chk none (.bin .neq) (.cons (.bv 2) (.cons (.cst (.int .i64 1)) .nil)) (.isb none (.bv 1) (.done [] (some (.op (.bin .neq) (.cons (.bv 2) (.cons (.cst (.int .i64 1)) .nil)))))))) (.isb none (.bv 1) (.done [] (some (.cst (.bool false)))))))))))) .skip (.exit 0)) h18_8) Q env w := rfl
def h18_10 : HC := (.loop h18_9)
@[simp] theorem h18_10_wp {P : Program} {F : PF P} {Q : EX → List Value → World → Prop} {env : List Value} {w : World} : h18_10.wp F Q env w = HC.wp F (.loop h18_9) Q env w := rfl
def h18_11 : HC := (.seq (.block 0 h18_10) h18_3)
@[simp] theorem h18_11_wp {P : Program} {F : PF P} {Q : EX → List Value → World → Prop} {env : List Value} {w : World} : h18_11.wp F Q env w = HC.wp F (.seq (.block 0 h18_10) h18_3) Q env w := rfl
def h18_12 : HC := (.seq (.reg (.done [(5, (.cst (.int .i64 0)))] none)) h18_11)
@[simp] theorem h18_12_wp {P : Program} {F : PF P} {Q : EX → List Value → World → Prop} {env : List Value} {w : World} : h18_12.wp F Q env w = HC.wp F (.seq (.reg (.done [(5, (.cst (.int .i64 0)))] none)) h18_11) Q env w := rfl
def l18 : Lifted := ⟨[0, 1, 2, 3, 4, 5], 51, [.cell 4 true 4], (.seq (.reg (.eff (.box 48) (.cons (.inp 0) .nil) (.eff (.box 60) (.cons (.inp 1) .nil) (.eff (.new 60 (.agg #[(.int .i64 0), (.int .i64 0), (.int .i64 0), (.int .i64 0)])) .nil (.done [(2, (.bv 0)), (3, (.bv 1)), (4, (.bv 2))] none))))) h18_12)⟩
theorem l18_ok : liftFn E2 18 400 = some l18 := by kernel_rfl

-- bazaar/bazaarlaw17.others
def h19_0 : HC := (.seq (.reg (.done [(3, (.cst (.bool true)))] none)) .ret)
@[simp] theorem h19_0_wp {P : Program} {F : PF P} {Q : EX → List Value → World → Prop} {env : List Value} {w : World} : h19_0.wp F Q env w = HC.wp F (.seq (.reg (.done [(3, (.cst (.bool true)))] none)) .ret) Q env w := rfl
def h19_1 : HC := (.reg (.chk none (.bin .add) (.cons (.inp 8) (.cons (.cst (.int .i64 1)) .nil)) (.done [(8, (.op (.bin .add) (.cons (.inp 8) (.cons (.cst (.int .i64 1)) .nil))))] none)))
@[simp] theorem h19_1_wp {P : Program} {F : PF P} {Q : EX → List Value → World → Prop} {env : List Value} {w : World} : h19_1.wp F Q env w = HC.wp F (.reg (.chk none (.bin .add) (.cons (.inp 8) (.cons (.cst (.int .i64 1)) .nil)) (.done [(8, (.op (.bin .add) (.cons (.inp 8) (.cons (.cst (.int .i64 1)) .nil))))] none))) Q env w := rfl
def h19_2 : HC := (.seq (.reg (.done [(3, (.cst (.bool false)))] none)) .ret)
@[simp] theorem h19_2_wp {P : Program} {F : PF P} {Q : EX → List Value → World → Prop} {env : List Value} {w : World} : h19_2.wp F Q env w = HC.wp F (.seq (.reg (.done [(3, (.cst (.bool false)))] none)) .ret) Q env w := rfl
def h19_3 : HC := (.brq (some 0) (.chk none (.idxL 2) (.cons (.inp 4) (.cons (.inp 8) .nil)) (.eff (.ld true 2) (.cons (.op (.idxL 2) (.cons (.inp 4) (.cons (.inp 8) .nil))) .nil) (.chk none (.idxL 2) (.cons (.inp 5) (.cons (.inp 8) .nil)) (.eff (.ld true 2) (.cons (.op (.idxL 2) (.cons (.inp 5) (.cons (.inp 8) .nil))) .nil) (.eff (.bin .neq 98 (.tmp 66) (.tmp 70)) (.cons (.bv 0) (.cons (.bv 1) .nil)) (.done [] (some (.bv 2)))))))) h19_2 .skip)
@[simp] theorem h19_3_wp {P : Program} {F : PF P} {Q : EX → List Value → World → Prop} {env : List Value} {w : World} : h19_3.wp F Q env w = HC.wp F (.brq (some 0) (.chk none (.idxL 2) (.cons (.inp 4) (.cons (.inp 8) .nil)) (.eff (.ld true 2) (.cons (.op (.idxL 2) (.cons (.inp 4) (.cons (.inp 8) .nil))) .nil) (.chk none (.idxL 2) (.cons (.inp 5) (.cons (.inp 8) .nil)) (.eff (.ld true 2) (.cons (.op (.idxL 2) (.cons (.inp 5) (.cons (.inp 8) .nil))) .nil) (.eff (.bin .neq 98 (.tmp 66) (.tmp 70)) (.cons (.bv 0) (.cons (.bv 1) .nil)) (.done [] (some (.bv 2)))))))) h19_2 .skip) Q env w := rfl
def h19_4 : HC := (.seq (.block 5 h19_3) h19_1)
@[simp] theorem h19_4_wp {P : Program} {F : PF P} {Q : EX → List Value → World → Prop} {env : List Value} {w : World} : h19_4.wp F Q env w = HC.wp F (.seq (.block 5 h19_3) h19_1) Q env w := rfl
def h19_5 : HC := (.seq (.br (.chk none .lenL (.cons (.inp 4) .nil) (.chk none (.bin .lss) (.cons (.inp 8) (.cons (.op .lenL (.cons (.inp 4) .nil)) .nil)) (.done [] (some (.op (.bin .lss) (.cons (.inp 8) (.cons (.op .lenL (.cons (.inp 4) .nil)) .nil))))))) .skip (.exit 4)) h19_4)
@[simp] theorem h19_5_wp {P : Program} {F : PF P} {Q : EX → List Value → World → Prop} {env : List Value} {w : World} : h19_5.wp F Q env w = HC.wp F (.seq (.br (.chk none .lenL (.cons (.inp 4) .nil) (.chk none (.bin .lss) (.cons (.inp 8) (.cons (.op .lenL (.cons (.inp 4) .nil)) .nil)) (.done [] (some (.op (.bin .lss) (.cons (.inp 8) (.cons (.op .lenL (.cons (.inp 4) .nil)) .nil))))))) .skip (.exit 4)) h19_4) Q env w := rfl
def h19_6 : HC := (.loop h19_5)
@[simp] theorem h19_6_wp {P : Program} {F : PF P} {Q : EX → List Value → World → Prop} {env : List Value} {w : World} : h19_6.wp F Q env w = HC.wp F (.loop h19_5) Q env w := rfl
def h19_7 : HC := (.seq (.block 4 h19_6) h19_0)
@[simp] theorem h19_7_wp {P : Program} {F : PF P} {Q : EX → List Value → World → Prop} {env : List Value} {w : World} : h19_7.wp F Q env w = HC.wp F (.seq (.block 4 h19_6) h19_0) Q env w := rfl
def h19_8 : HC := (.seq (.reg (.done [(8, (.cst (.int .i64 0)))] none)) h19_7)
@[simp] theorem h19_8_wp {P : Program} {F : PF P} {Q : EX → List Value → World → Prop} {env : List Value} {w : World} : h19_8.wp F Q env w = HC.wp F (.seq (.reg (.done [(8, (.cst (.int .i64 0)))] none)) h19_7) Q env w := rfl
def h19_9 : HC := (.seq (.reg (.done [(3, (.cst (.bool false)))] none)) .ret)
@[simp] theorem h19_9_wp {P : Program} {F : PF P} {Q : EX → List Value → World → Prop} {env : List Value} {w : World} : h19_9.wp F Q env w = HC.wp F (.seq (.reg (.done [(3, (.cst (.bool false)))] none)) .ret) Q env w := rfl
def h19_10 : HC := (.seq (.br (.chk none .lenL (.cons (.inp 4) .nil) (.chk none .lenL (.cons (.inp 5) .nil) (.chk none (.bin .neq) (.cons (.op .lenL (.cons (.inp 4) .nil)) (.cons (.op .lenL (.cons (.inp 5) .nil)) .nil)) (.done [] (some (.op (.bin .neq) (.cons (.op .lenL (.cons (.inp 4) .nil)) (.cons (.op .lenL (.cons (.inp 5) .nil)) .nil)))))))) h19_9 .skip) h19_8)
@[simp] theorem h19_10_wp {P : Program} {F : PF P} {Q : EX → List Value → World → Prop} {env : List Value} {w : World} : h19_10.wp F Q env w = HC.wp F (.seq (.br (.chk none .lenL (.cons (.inp 4) .nil) (.chk none .lenL (.cons (.inp 5) .nil) (.chk none (.bin .neq) (.cons (.op .lenL (.cons (.inp 4) .nil)) (.cons (.op .lenL (.cons (.inp 5) .nil)) .nil)) (.done [] (some (.op (.bin .neq) (.cons (.op .lenL (.cons (.inp 4) .nil)) (.cons (.op .lenL (.cons (.inp 5) .nil)) .nil)))))))) h19_9 .skip) h19_8) Q env w := rfl
def h19_11 : HC := (.reg (.chk none (.bin .add) (.cons (.inp 7) (.cons (.cst (.int .i64 1)) .nil)) (.done [(7, (.op (.bin .add) (.cons (.inp 7) (.cons (.cst (.int .i64 1)) .nil))))] none)))
@[simp] theorem h19_11_wp {P : Program} {F : PF P} {Q : EX → List Value → World → Prop} {env : List Value} {w : World} : h19_11.wp F Q env w = HC.wp F (.reg (.chk none (.bin .add) (.cons (.inp 7) (.cons (.cst (.int .i64 1)) .nil)) (.done [(7, (.op (.bin .add) (.cons (.inp 7) (.cons (.cst (.int .i64 1)) .nil))))] none))) Q env w := rfl
def h19_12 : HC := (.reg (.chk none (.idxL 2) (.cons (.inp 1) (.cons (.inp 7) .nil)) (.eff (.ld true 2) (.cons (.op (.idxL 2) (.cons (.inp 1) (.cons (.inp 7) .nil))) .nil) (.eff (.bsl 98 1 2 #[(.int .i64 0), (.int .u64 0)] [0]) (.cons (.bv 0) .nil) (.eff (.app 41 41 98 2 16 (.agg #[(.int .i64 0), (.int .u64 0)])) (.cons (.inp 5) (.cons (.bv 1) .nil)) (.done [(5, (.bv 2))] none))))))
@[simp] theorem h19_12_wp {P : Program} {F : PF P} {Q : EX → List Value → World → Prop} {env : List Value} {w : World} : h19_12.wp F Q env w = HC.wp F (.reg (.chk none (.idxL 2) (.cons (.inp 1) (.cons (.inp 7) .nil)) (.eff (.ld true 2) (.cons (.op (.idxL 2) (.cons (.inp 1) (.cons (.inp 7) .nil))) .nil) (.eff (.bsl 98 1 2 #[(.int .i64 0), (.int .u64 0)] [0]) (.cons (.bv 0) .nil) (.eff (.app 41 41 98 2 16 (.agg #[(.int .i64 0), (.int .u64 0)])) (.cons (.inp 5) (.cons (.bv 1) .nil)) (.done [(5, (.bv 2))] none)))))) Q env w := rfl
def h19_13 : HC := (.br (.chk none (.idxL 2) (.cons (.inp 1) (.cons (.inp 7) .nil)) (.chk none (.fld 0) (.cons (.op (.idxL 2) (.cons (.inp 1) (.cons (.inp 7) .nil))) .nil) (.eff (.ld false 1) (.cons (.op (.fld 0) (.cons (.op (.idxL 2) (.cons (.inp 1) (.cons (.inp 7) .nil))) .nil)) .nil) (.chk none (.bin .neq) (.cons (.bv 0) (.cons (.inp 2) .nil)) (.done [] (some (.op (.bin .neq) (.cons (.bv 0) (.cons (.inp 2) .nil))))))))) h19_12 .skip)
@[simp] theorem h19_13_wp {P : Program} {F : PF P} {Q : EX → List Value → World → Prop} {env : List Value} {w : World} : h19_13.wp F Q env w = HC.wp F (.br (.chk none (.idxL 2) (.cons (.inp 1) (.cons (.inp 7) .nil)) (.chk none (.fld 0) (.cons (.op (.idxL 2) (.cons (.inp 1) (.cons (.inp 7) .nil))) .nil) (.eff (.ld false 1) (.cons (.op (.fld 0) (.cons (.op (.idxL 2) (.cons (.inp 1) (.cons (.inp 7) .nil))) .nil)) .nil) (.chk none (.bin .neq) (.cons (.bv 0) (.cons (.inp 2) .nil)) (.done [] (some (.op (.bin .neq) (.cons (.bv 0) (.cons (.inp 2) .nil))))))))) h19_12 .skip) Q env w := rfl
def h19_14 : HC := (.seq (.block 3 h19_13) h19_11)
@[simp] theorem h19_14_wp {P : Program} {F : PF P} {Q : EX → List Value → World → Prop} {env : List Value} {w : World} : h19_14.wp F Q env w = HC.wp F (.seq (.block 3 h19_13) h19_11) Q env w := rfl
def h19_15 : HC := (.seq (.br (.chk none .lenL (.cons (.inp 1) .nil) (.chk none (.bin .lss) (.cons (.inp 7) (.cons (.op .lenL (.cons (.inp 1) .nil)) .nil)) (.done [] (some (.op (.bin .lss) (.cons (.inp 7) (.cons (.op .lenL (.cons (.inp 1) .nil)) .nil))))))) .skip (.exit 2)) h19_14)
@[simp] theorem h19_15_wp {P : Program} {F : PF P} {Q : EX → List Value → World → Prop} {env : List Value} {w : World} : h19_15.wp F Q env w = HC.wp F (.seq (.br (.chk none .lenL (.cons (.inp 1) .nil) (.chk none (.bin .lss) (.cons (.inp 7) (.cons (.op .lenL (.cons (.inp 1) .nil)) .nil)) (.done [] (some (.op (.bin .lss) (.cons (.inp 7) (.cons (.op .lenL (.cons (.inp 1) .nil)) .nil))))))) .skip (.exit 2)) h19_14) Q env w := rfl
def h19_16 : HC := (.loop h19_15)
@[simp] theorem h19_16_wp {P : Program} {F : PF P} {Q : EX → List Value → World → Prop} {env : List Value} {w : World} : h19_16.wp F Q env w = HC.wp F (.loop h19_15) Q env w := rfl
def h19_17 : HC := (.seq (.block 2 h19_16) h19_10)
@[simp] theorem h19_17_wp {P : Program} {F : PF P} {Q : EX → List Value → World → Prop} {env : List Value} {w : World} : h19_17.wp F Q env w = HC.wp F (.seq (.block 2 h19_16) h19_10) Q env w := rfl
def h19_18 : HC := (.seq (.reg (.done [(7, (.cst (.int .i64 0)))] none)) h19_17)
@[simp] theorem h19_18_wp {P : Program} {F : PF P} {Q : EX → List Value → World → Prop} {env : List Value} {w : World} : h19_18.wp F Q env w = HC.wp F (.seq (.reg (.done [(7, (.cst (.int .i64 0)))] none)) h19_17) Q env w := rfl
def h19_19 : HC := (.reg (.chk none (.bin .add) (.cons (.inp 6) (.cons (.cst (.int .i64 1)) .nil)) (.done [(6, (.op (.bin .add) (.cons (.inp 6) (.cons (.cst (.int .i64 1)) .nil))))] none)))
@[simp] theorem h19_19_wp {P : Program} {F : PF P} {Q : EX → List Value → World → Prop} {env : List Value} {w : World} : h19_19.wp F Q env w = HC.wp F (.reg (.chk none (.bin .add) (.cons (.inp 6) (.cons (.cst (.int .i64 1)) .nil)) (.done [(6, (.op (.bin .add) (.cons (.inp 6) (.cons (.cst (.int .i64 1)) .nil))))] none))) Q env w := rfl
def h19_20 : HC := (.reg (.chk none (.idxL 2) (.cons (.inp 0) (.cons (.inp 6) .nil)) (.eff (.ld true 2) (.cons (.op (.idxL 2) (.cons (.inp 0) (.cons (.inp 6) .nil))) .nil) (.eff (.bsl 98 1 2 #[(.int .i64 0), (.int .u64 0)] [0]) (.cons (.bv 0) .nil) (.eff (.app 41 41 98 2 16 (.agg #[(.int .i64 0), (.int .u64 0)])) (.cons (.inp 4) (.cons (.bv 1) .nil)) (.done [(4, (.bv 2))] none))))))
@[simp] theorem h19_20_wp {P : Program} {F : PF P} {Q : EX → List Value → World → Prop} {env : List Value} {w : World} : h19_20.wp F Q env w = HC.wp F (.reg (.chk none (.idxL 2) (.cons (.inp 0) (.cons (.inp 6) .nil)) (.eff (.ld true 2) (.cons (.op (.idxL 2) (.cons (.inp 0) (.cons (.inp 6) .nil))) .nil) (.eff (.bsl 98 1 2 #[(.int .i64 0), (.int .u64 0)] [0]) (.cons (.bv 0) .nil) (.eff (.app 41 41 98 2 16 (.agg #[(.int .i64 0), (.int .u64 0)])) (.cons (.inp 4) (.cons (.bv 1) .nil)) (.done [(4, (.bv 2))] none)))))) Q env w := rfl
def h19_21 : HC := (.br (.chk none (.idxL 2) (.cons (.inp 0) (.cons (.inp 6) .nil)) (.chk none (.fld 0) (.cons (.op (.idxL 2) (.cons (.inp 0) (.cons (.inp 6) .nil))) .nil) (.eff (.ld false 1) (.cons (.op (.fld 0) (.cons (.op (.idxL 2) (.cons (.inp 0) (.cons (.inp 6) .nil))) .nil)) .nil) (.chk none (.bin .neq) (.cons (.bv 0) (.cons (.inp 2) .nil)) (.done [] (some (.op (.bin .neq) (.cons (.bv 0) (.cons (.inp 2) .nil))))))))) h19_20 .skip)
@[simp] theorem h19_21_wp {P : Program} {F : PF P} {Q : EX → List Value → World → Prop} {env : List Value} {w : World} : h19_21.wp F Q env w = HC.wp F (.br (.chk none (.idxL 2) (.cons (.inp 0) (.cons (.inp 6) .nil)) (.chk none (.fld 0) (.cons (.op (.idxL 2) (.cons (.inp 0) (.cons (.inp 6) .nil))) .nil) (.eff (.ld false 1) (.cons (.op (.fld 0) (.cons (.op (.idxL 2) (.cons (.inp 0) (.cons (.inp 6) .nil))) .nil)) .nil) (.chk none (.bin .neq) (.cons (.bv 0) (.cons (.inp 2) .nil)) (.done [] (some (.op (.bin .neq) (.cons (.bv 0) (.cons (.inp 2) .nil))))))))) h19_20 .skip) Q env w := rfl
def h19_22 : HC := (.seq (.block 1 h19_21) h19_19)
@[simp] theorem h19_22_wp {P : Program} {F : PF P} {Q : EX → List Value → World → Prop} {env : List Value} {w : World} : h19_22.wp F Q env w = HC.wp F (.seq (.block 1 h19_21) h19_19) Q env w := rfl
def h19_23 : HC := (.seq (.br (.chk none .lenL (.cons (.inp 0) .nil) (.chk none (.bin .lss) (.cons (.inp 6) (.cons (.op .lenL (.cons (.inp 0) .nil)) .nil)) (.done [] (some (.op (.bin .lss) (.cons (.inp 6) (.cons (.op .lenL (.cons (.inp 0) .nil)) .nil))))))) .skip (.exit 0)) h19_22)
@[simp] theorem h19_23_wp {P : Program} {F : PF P} {Q : EX → List Value → World → Prop} {env : List Value} {w : World} : h19_23.wp F Q env w = HC.wp F (.seq (.br (.chk none .lenL (.cons (.inp 0) .nil) (.chk none (.bin .lss) (.cons (.inp 6) (.cons (.op .lenL (.cons (.inp 0) .nil)) .nil)) (.done [] (some (.op (.bin .lss) (.cons (.inp 6) (.cons (.op .lenL (.cons (.inp 0) .nil)) .nil))))))) .skip (.exit 0)) h19_22) Q env w := rfl
def h19_24 : HC := (.loop h19_23)
@[simp] theorem h19_24_wp {P : Program} {F : PF P} {Q : EX → List Value → World → Prop} {env : List Value} {w : World} : h19_24.wp F Q env w = HC.wp F (.loop h19_23) Q env w := rfl
def h19_25 : HC := (.seq (.block 0 h19_24) h19_18)
@[simp] theorem h19_25_wp {P : Program} {F : PF P} {Q : EX → List Value → World → Prop} {env : List Value} {w : World} : h19_25.wp F Q env w = HC.wp F (.seq (.block 0 h19_24) h19_18) Q env w := rfl
def h19_26 : HC := (.seq (.reg (.done [(6, (.cst (.int .i64 0)))] none)) h19_25)
@[simp] theorem h19_26_wp {P : Program} {F : PF P} {Q : EX → List Value → World → Prop} {env : List Value} {w : World} : h19_26.wp F Q env w = HC.wp F (.seq (.reg (.done [(6, (.cst (.int .i64 0)))] none)) h19_25) Q env w := rfl
def h19_27 : HC := (.seq (.reg (.done [(4, (.cst (.slice none 0 0))), (5, (.cst (.slice none 0 0)))] none)) h19_26)
@[simp] theorem h19_27_wp {P : Program} {F : PF P} {Q : EX → List Value → World → Prop} {env : List Value} {w : World} : h19_27.wp F Q env w = HC.wp F (.seq (.reg (.done [(4, (.cst (.slice none 0 0))), (5, (.cst (.slice none 0 0)))] none)) h19_26) Q env w := rfl
def l19 : Lifted := ⟨[0, 1, 2, 6, 7, 8, 9, 10, 11], 72, [.slot 3], (.seq (.reg (.done [(3, (.cst (.bool false)))] none)) h19_27)⟩
theorem l19_ok : liftFn E2 19 400 = some l19 := by kernel_rfl

-- bazaar/bazaarlaw17.sum
def h20_0 : HC := (.seq (.reg (.done [(1, (.inp 2))] none)) .ret)
@[simp] theorem h20_0_wp {P : Program} {F : PF P} {Q : EX → List Value → World → Prop} {env : List Value} {w : World} : h20_0.wp F Q env w = HC.wp F (.seq (.reg (.done [(1, (.inp 2))] none)) .ret) Q env w := rfl
def h20_1 : HC := (.reg (.chk none (.bin .add) (.cons (.inp 3) (.cons (.cst (.int .i64 1)) .nil)) (.done [(3, (.op (.bin .add) (.cons (.inp 3) (.cons (.cst (.int .i64 1)) .nil))))] none)))
@[simp] theorem h20_1_wp {P : Program} {F : PF P} {Q : EX → List Value → World → Prop} {env : List Value} {w : World} : h20_1.wp F Q env w = HC.wp F (.reg (.chk none (.bin .add) (.cons (.inp 3) (.cons (.cst (.int .i64 1)) .nil)) (.done [(3, (.op (.bin .add) (.cons (.inp 3) (.cons (.cst (.int .i64 1)) .nil))))] none))) Q env w := rfl
def h20_2 : HC := (.reg (.chk none (.idxL 2) (.cons (.inp 0) (.cons (.inp 3) .nil)) (.chk none (.fld 1) (.cons (.op (.idxL 2) (.cons (.inp 0) (.cons (.inp 3) .nil))) .nil) (.eff (.ld false 1) (.cons (.op (.fld 1) (.cons (.op (.idxL 2) (.cons (.inp 0) (.cons (.inp 3) .nil))) .nil)) .nil) (.chk none (.bin .add) (.cons (.inp 2) (.cons (.bv 0) .nil)) (.done [(2, (.op (.bin .add) (.cons (.inp 2) (.cons (.bv 0) .nil))))] none))))))
@[simp] theorem h20_2_wp {P : Program} {F : PF P} {Q : EX → List Value → World → Prop} {env : List Value} {w : World} : h20_2.wp F Q env w = HC.wp F (.reg (.chk none (.idxL 2) (.cons (.inp 0) (.cons (.inp 3) .nil)) (.chk none (.fld 1) (.cons (.op (.idxL 2) (.cons (.inp 0) (.cons (.inp 3) .nil))) .nil) (.eff (.ld false 1) (.cons (.op (.fld 1) (.cons (.op (.idxL 2) (.cons (.inp 0) (.cons (.inp 3) .nil))) .nil)) .nil) (.chk none (.bin .add) (.cons (.inp 2) (.cons (.bv 0) .nil)) (.done [(2, (.op (.bin .add) (.cons (.inp 2) (.cons (.bv 0) .nil))))] none)))))) Q env w := rfl
def h20_3 : HC := (.seq (.block 1 h20_2) h20_1)
@[simp] theorem h20_3_wp {P : Program} {F : PF P} {Q : EX → List Value → World → Prop} {env : List Value} {w : World} : h20_3.wp F Q env w = HC.wp F (.seq (.block 1 h20_2) h20_1) Q env w := rfl
def h20_4 : HC := (.seq (.br (.chk none .lenL (.cons (.inp 0) .nil) (.chk none (.bin .lss) (.cons (.inp 3) (.cons (.op .lenL (.cons (.inp 0) .nil)) .nil)) (.done [] (some (.op (.bin .lss) (.cons (.inp 3) (.cons (.op .lenL (.cons (.inp 0) .nil)) .nil))))))) .skip (.exit 0)) h20_3)
@[simp] theorem h20_4_wp {P : Program} {F : PF P} {Q : EX → List Value → World → Prop} {env : List Value} {w : World} : h20_4.wp F Q env w = HC.wp F (.seq (.br (.chk none .lenL (.cons (.inp 0) .nil) (.chk none (.bin .lss) (.cons (.inp 3) (.cons (.op .lenL (.cons (.inp 0) .nil)) .nil)) (.done [] (some (.op (.bin .lss) (.cons (.inp 3) (.cons (.op .lenL (.cons (.inp 0) .nil)) .nil))))))) .skip (.exit 0)) h20_3) Q env w := rfl
def h20_5 : HC := (.loop h20_4)
@[simp] theorem h20_5_wp {P : Program} {F : PF P} {Q : EX → List Value → World → Prop} {env : List Value} {w : World} : h20_5.wp F Q env w = HC.wp F (.loop h20_4) Q env w := rfl
def h20_6 : HC := (.seq (.block 0 h20_5) h20_0)
@[simp] theorem h20_6_wp {P : Program} {F : PF P} {Q : EX → List Value → World → Prop} {env : List Value} {w : World} : h20_6.wp F Q env w = HC.wp F (.seq (.block 0 h20_5) h20_0) Q env w := rfl
def h20_7 : HC := (.seq (.reg (.done [(3, (.cst (.int .i64 0)))] none)) h20_6)
@[simp] theorem h20_7_wp {P : Program} {F : PF P} {Q : EX → List Value → World → Prop} {env : List Value} {w : World} : h20_7.wp F Q env w = HC.wp F (.seq (.reg (.done [(3, (.cst (.int .i64 0)))] none)) h20_6) Q env w := rfl
def h20_8 : HC := (.seq (.reg (.done [(2, (.cst (.int .u64 0)))] none)) h20_7)
@[simp] theorem h20_8_wp {P : Program} {F : PF P} {Q : EX → List Value → World → Prop} {env : List Value} {w : World} : h20_8.wp F Q env w = HC.wp F (.seq (.reg (.done [(2, (.cst (.int .u64 0)))] none)) h20_7) Q env w := rfl
def l20 : Lifted := ⟨[0, 2, 3, 4], 19, [.slot 1], (.seq (.reg (.done [(1, (.cst (.int .u64 0)))] none)) h20_8)⟩
theorem l20_ok : liftFn E2 20 400 = some l20 := by kernel_rfl


theorem does_spec (p g s : Nat) (lp lg : Int) (o : So) (E : Eco) (w0 w : World) (A : Asn) (ho : o.ok w0 A) (hE : EI lp lg E) (h : St w0 (A * ecoA p g s lg E) w) :
    CallW Tryz.prog 15 [.pointer (some ⟨s, 0, none⟩), .agg o.cs.toArray] (fun r w' => r = .tuple #[.int .i64 (doesF o E).1, .bool (doesF o E).2.1] ∧ St w0 (A * ecoA p g s lg (doesF o E).2.2) w') w := by
  refine callW_of_lift l15_ok (by simp [l15]) ?_
  simp [l15]
  refine eff_box h fun b w1 h1 => ?_
  simp
  have h2 : St w0 (A * ecoA p g s lg E * pt b (.cells o.cs.toArray 48 (0, 0))) w1 := h1
  have f : ∀ j u, o.cs[j]? = some u → w1.cell? ⟨b, j, none⟩ = some u := fun j u hu => by
    have := h2.row_cells j u hu; simpa using this
  have f5 : ∀ j u, (o.e.cs)[j]? = some u → w1.cell? ⟨b, 3 + j, none⟩ = some u := fun j u hu => f (3 + j) u (by rw [Nat.add_comm]; simpa [So.cs] using hu)
  have s3 : St w0 (A * pt b (.cells o.cs.toArray 48 (0, 0)) * ecoA p g s lg E) w1 := h2.to (by ac_rfl)
  have out : ∀ {E' : Eco} {w' : World}, St w0 (A * pt b (.cells o.cs.toArray 48 (0, 0)) * ecoA p g s lg E') w' → St w0 (A * ecoA p g s lg E') w' := fun h => h.swap.drop
  refine eff_ldc (v := .int .i64 o.kind) (f 0 _ rfl) ?_
  simp
  refine cndI (fun k1 => ?_) (fun k1 => ?_)
  · simp at k1
    simp
    refine eff_ldc (v := .int .i64 o.con) (f 1 _ rfl) ?_
    simp
    refine eff_ldcs (vs := o.e.cs) f5 rfl ?_
    simp
    refine eff_call ((Put_spec p g s lp lg o.con o.e.pr o.e.x o.e.wv E w0 w1 _ hE ho.con ho.coins s3).mono ?_)
    rintro r w2 ⟨rfl, h4⟩
    simp [doesF, k1]
    exact out h4
  simp at k1
  simp
  refine cndI (fun k2 => ?_) (fun k2 => ?_)
  · simp at k2
    simp
    refine eff_ldc (v := .int .i64 o.con) (f 1 _ rfl) ?_
    simp
    refine eff_ldc (v := o.gv) (f 2 _ rfl) ?_
    simp
    refine eff_ldcs (vs := o.e.cs) f5 rfl ?_
    simp
    refine eff_call ((Turn_spec p g s lp lg o.con o.e.pr o.gs o.gv o.e.x o.e.wv E w0 w1 _ hE ho.con ho.gs ho.coins (by have := ho.len; omega) (ho.row.mono fun w s => s.drop) s3).mono ?_)
    rintro r w2 ⟨rfl, h4⟩
    simp [doesF, k1, k2]
    exact out h4
  simp at k2
  simp
  refine cndI (fun k3 => ?_) (fun k3 => ?_)
  · simp at k3
    simp
    refine eff_ldc (v := .int .i64 o.con) (f 1 _ rfl) ?_
    simp
    refine eff_ldc (v := o.gv) (f 2 _ rfl) ?_
    simp
    refine eff_call ((End_spec p g s lp lg o.con o.gs o.gv E w0 w1 _ hE ho.con ho.gs (by have := ho.len; omega) (ho.row.mono fun w s => s.drop) s3).mono ?_)
    rintro r w2 ⟨rfl, h4⟩
    simp [doesF, k1, k2, k3]
    exact out h4
  simp at k3
  simp [doesF, k1, k2, k3]
  exact h2.drop
theorem wrapU (x : Int) : IntKind.u64.wrap x = x % 18446744073709551616 := by simp [IntKind.wrap, IntKind.bits, IntKind.signed]
theorem sumR_app (a b : List Rw) : sumR (a ++ b) = sumR a + sumR b := by simp [sumR]
theorem sum_spec (l : List Rw) (v : Value) (w0 w : World) (A : Asn) (hn : l.length ≤ 4194304) (hr : Row w0 A v l.length 2 (rflat l)) (h : St w0 A w) :
    CallW Tryz.prog 20 [v] (fun r w' => r = .int .u64 (sumR l % 18446744073709551616) ∧ St w0 A w') w := by
  obtain ⟨a, cap, rfl⟩ := hr.val
  refine callW_of_lift l20_ok (by simp [l20]) ?_
  simp [l20]
  refine loopI (fun env w' => ∃ (i : Nat) (o1 : Value), env = [.slice a l.length cap, o1, .int .u64 (sumR (l.take i) % 18446744073709551616), .int .i64 i] ∧ i ≤ l.length ∧ St w0 A w')
    (fun env _ => l.length - slotN env 3) ⟨0, _, by simp [sumR]; rfl, by omega, h⟩ ?_
  rintro LQ env w' ⟨i, o1, rfl, hi, s1⟩ hN hX hR
  simp
  refine cndI (fun hc => ?_) (fun hc => ?_)
  · simp at hc
    obtain ⟨g, o, cap', hv, hcell⟩ := hr.at (by omega)
    cases hv
    simp [hc]
    refine eff_ldc (v := .int .u64 l[i].2) (by have := hcell w' s1 (i * 2 + 1) _ (rflat_at hc 1 _ rfl); rw [← Nat.add_assoc] at this; exact this) ?_
    simp
    try simp (disch := omega) only [wrap64]
    refine hN _ _ ⟨i + 1, _, by simp; refine ⟨rfl, ?_⟩; rw [wrapU, List.take_succ_eq_append_getElem hc, sumR_app]; simp only [sumR, List.map_cons, List.map_nil, List.sum_cons, List.sum_nil, Int.add_zero, Int.emod_add_emod], by omega, s1⟩ (by simp [slotN]; omega)
  · simp at hc
    simp
    refine hX _ _ _ ?_
    have : i = l.length := by omega
    subst this
    rw [List.take_length]
    simp
    exact s1
/-- how a step must turn an account's coins -/
def turnedF (o : So) (k : Int) : Int := ((if o.kind = 1 then 0 else toK k o.gs) - (if o.kind ≠ 3 ∧ o.e.x.acc = k then o.e.x.coins else 0)) % 18446744073709551616
theorem turned_spec (o : So) (k : Int) (w0 w : World) (A : Asn) (ho : o.ok w0 A) (h : St w0 A w) :
    CallW Tryz.prog 17 [.agg o.cs.toArray, .int .i64 k] (fun r w' => r = .int .u64 (turnedF o k) ∧ St w0 A w') w := by
  have hlen := ho.len
  obtain ⟨ga, gcap, hgv⟩ := ho.row.val
  refine callW_of_lift l17_ok (by simp [l17]) ?_
  simp [l17]
  refine eff_box h fun b w1 h1 => ?_
  simp
  have h1 : St w0 (A * pt b (.cells o.cs.toArray 48 (0, 0))) w1 := h1
  have f : ∀ {w : World}, St w0 (A * pt b (.cells o.cs.toArray 48 (0, 0))) w → ∀ j u, o.cs[j]? = some u → w.cell? ⟨b, j, none⟩ = some u := fun h j u hu => by
    have := h.row_cells j u hu; simpa using this
  refine loopI (fun env w' => ∃ (i : Nat), env = [.agg o.cs.toArray, .int .i64 k, .pointer (some ⟨b, 0, none⟩), .int .u64 0, .int .u64 ((if o.kind = 1 then 0 else toK k (o.gs.take i)) % 18446744073709551616), .int .i64 i] ∧ i ≤ o.gs.length ∧ St w0 (A * pt b (.cells o.cs.toArray 48 (0, 0))) w')
    (fun env _ => o.gs.length - slotN env 5) ⟨0, by simp [toK], by omega, h1⟩ ?_
  clear h1 h
  rintro LQ env w' ⟨i, rfl, hi, s1⟩ hN hX hR
  simp
  refine eff_ldc (v := .slice ga o.gs.length gcap) (by rw [← hgv]; exact f s1 2 _ rfl) ?_
  simp
  have fin : ∀ w', (o.kind = 1 ∨ i = o.gs.length) → St w0 (A * pt b (.cells o.cs.toArray 48 (0, 0))) w' →
      LQ (.ex 0) [.agg o.cs.toArray, .int .i64 k, .pointer (some ⟨b, 0, none⟩), .int .u64 0, .int .u64 ((if o.kind = 1 then 0 else toK k (o.gs.take i)) % 18446744073709551616), .int .i64 i] w' := by
    intro w' hor s1
    refine hX _ _ _ ?_
    have e : (if o.kind = 1 then 0 else toK k (o.gs.take i)) = (if o.kind = 1 then 0 else toK k o.gs) := by
      rcases hor with h | h
      · rw [if_pos h, if_pos h]
      · rw [h, List.take_length]
    rw [e]
    simp
    refine eff_ldc (v := .int .i64 o.kind) (f s1 0 _ rfl) ?_
    simp
    by_cases h3 : o.kind = 3
    · simp [h3]
      refine ⟨?_, s1.drop⟩
      simp [turnedF, h3]
    · simp [h3]
      refine eff_ldc (v := .int .i64 o.e.x.acc) (f s1 3 _ rfl) ?_
      simp
      refine cndI (fun ha => ?_) (fun ha => ?_)
      · simp at ha
        simp
        refine eff_ldc (v := .int .u64 o.e.x.coins) (f s1 5 _ rfl) ?_
        simp
        refine ⟨?_, s1.drop⟩
        simp only [turnedF, wrapU]
        rw [if_pos (show o.kind ≠ 3 ∧ o.e.x.acc = k from ⟨h3, ha⟩), Int.emod_sub_emod]
      · simp at ha
        simp
        refine ⟨?_, s1.drop⟩
        simp only [turnedF]
        rw [if_neg (show ¬ (o.kind ≠ 3 ∧ o.e.x.acc = k) from fun h => ha h.2), Int.sub_zero]
  by_cases hlt : i < o.gs.length
  · simp [hlt]
    refine eff_ldc (v := .int .i64 o.kind) (f s1 0 _ rfl) ?_
    simp
    by_cases h1 : o.kind = 1
    · simp [h1]
      have := fin w' (.inl h1) s1
      simpa [h1] using this
    · simp [h1]
      obtain ⟨gg, go, gc', hv, hcell⟩ := ho.row.at (by omega)
      rw [hgv] at hv
      cases hv
      have hc : ∀ {w : World}, St w0 (A * pt b (.cells o.cs.toArray 48 (0, 0))) w → ∀ j u, (o.gs[i].cs)[j]? = some u → w.cell? ⟨gg, go + i * 3 + j, none⟩ = some u := fun s j u hu => by
        rw [Nat.add_assoc]; exact hcell _ s.drop _ _ (gflat_at hlt j u hu)
      refine eff_ldc (v := .slice (some ⟨gg, go, none⟩) o.gs.length gcap) (by rw [← hgv]; exact f s1 2 _ rfl) ?_
      simp [hlt]
      refine eff_ldc (v := .int .i64 o.gs[i].to) (by have := hc s1 0 _ rfl; simpa using this) ?_
      simp
      have step : toK k (o.gs.take (i + 1)) = toK k (o.gs.take i) + (if o.gs[i].to = k then o.gs[i].coins else 0) := by
        rw [List.take_succ_eq_append_getElem hlt, toK_app]; simp [toK]
      refine cndI (fun ha => ?_) (fun ha => ?_)
      · simp at ha
        simp
        refine eff_ldc (v := .slice (some ⟨gg, go, none⟩) o.gs.length gcap) (by rw [← hgv]; exact f s1 2 _ rfl) ?_
        simp [hlt]
        refine eff_ldc (v := .int .u64 o.gs[i].coins) (hc s1 2 _ rfl) ?_
        simp
        try simp (disch := omega) only [wrap64]
        refine hN _ _ ⟨i + 1, by simp; rw [wrapU, step, if_pos ha, if_neg h1, Int.emod_add_emod], by omega, s1⟩ (by simp [slotN]; omega)
      · simp at ha
        simp
        try simp (disch := omega) only [wrap64]
        refine hN _ _ ⟨i + 1, by simp; rw [step, if_neg ha, if_neg h1, Int.add_zero], by omega, s1⟩ (by simp [slotN]; omega)
  · simp [hlt]
    have := fin w' (.inr (by omega)) s1
    simpa using this
end Go.HL.Es

namespace Go.HL.Es
open Go.HL Go.Proofs
set_option maxRecDepth 4000
set_option linter.unusedSimpArgs false
set_option linter.unusedVariables false
/-- what gives an entry back -/
def giftsOf (x : Et) : List Gf := (if x.item ≠ 0 then [⟨x.acc, x.item, 0⟩] else []) ++ (if x.coins ≠ 0 then [⟨x.acc, 0, x.coins⟩] else [])
theorem gifts_tot (x : Et) : tot (giftsOf x) = x.coins := by
  unfold giftsOf; split <;> split <;> simp_all [tot]
theorem gifts_toK (x : Et) (k : Int) : toK k (giftsOf x) = if x.acc = k then x.coins else 0 := by
  unfold giftsOf; split <;> split <;> simp_all [toK]
theorem gifts_mem {x : Et} {y : Gf} (h : y ∈ giftsOf x) : (x.item ≠ 0 ∧ y = ⟨x.acc, x.item, 0⟩) ∨ (x.coins ≠ 0 ∧ y = ⟨x.acc, 0, x.coins⟩) := by
  unfold giftsOf at h
  rcases List.mem_append.1 h with h | h
  · split at h
    · rename_i hi; exact .inl ⟨hi, by simpa using h⟩
    · cases h
  · split at h
    · rename_i hi; exact .inr ⟨hi, by simpa using h⟩
    · cases h
theorem put_ok {c : Int} {x : Et} {E : Eco} (h : (putE c x E).1 = 0) : (Pu.getF E.P x.acc).2 = 0 ∧ (x.item ≠ 0 → (Gd.getF E.its x.item).2 = 0 ∧ (Gd.getF E.its x.item).1.con = 0 ∧ (Gd.getF E.its x.item).1.acc = x.acc) ∧ (Pu.takeF E.P x.acc x.coins).1 = 0 ∧
    putE c x E = (0, ⟨(Pu.takeF E.P x.acc x.coins).2, if x.item ≠ 0 then (Gd.holdF E.its x.item c).2 else E.its, setR c (cns E.l c + x.coins) E.l⟩) := by
  unfold putE at h ⊢
  split at h
  · cases h
  rename_i h1
  split at h
  · cases h
  rename_i h2
  split at h
  · rename_i h3; exact absurd h h3
  rename_i h3
  rw [if_neg h1, if_neg h2, if_neg h3]
  refine ⟨by simpa using h1, fun hi => ?_, by simpa using h3, rfl⟩
  refine ⟨?_, ?_, ?_⟩
  · by_cases q : (Gd.getF E.its x.item).2 = 0
    · exact q
    · exact absurd ⟨hi, .inl q⟩ h2
  · by_cases q : (Gd.getF E.its x.item).1.con = 0
    · exact q
    · exact absurd ⟨hi, .inr (.inl q)⟩ h2
  · by_cases q : (Gd.getF E.its x.item).1.acc = x.acc
    · exact q
    · exact absurd ⟨hi, .inr (.inr q)⟩ h2
theorem take_ok {P : Pu.Ps} {n c : Int} (h : (Pu.takeF P n c).1 = 0) : Pu.accE P.rows n = 0 ∧ c ≤ Pu.coin P.rows n.toNat ∧ Pu.takeF P n c = (0, { P with held := P.held + c, rows := Pu.setC P.rows n.toNat (Pu.coin P.rows n.toNat - c) }) := by
  unfold Pu.takeF at h ⊢
  split at h
  · rename_i h1
    split at h
    · cases h
    · rename_i h2
      rw [if_pos h1, if_neg h2]
      exact ⟨h1, by omega, rfl⟩
  · cases h
theorem J.put {lp lg c : Int} {E0 E : Eco} {x : Et} {B : List Gf} (h : J c E0 E B) (hE : EI lp lg E) (hc : 1 ≤ c ∧ c < 9223372036854775808) (hx : 0 ≤ x.coins) (hp : (putE c x E).1 = 0) : J c E0 (putE c x E).2 (B ++ giftsOf x) := by
  obtain ⟨g1, g2, g3, e⟩ := put_ok hp
  obtain ⟨ha, hle, et⟩ := take_ok g3
  obtain ⟨t, ht, htl⟩ := Pu.acc_in ha
  have e0 : x.acc.toNat = t := by omega
  have hb := hE.cns_bd c
  rw [e, et, e0]
  rw [e0] at hle
  -- the item that is held
  have key : x.item ≠ 0 → ∃ (j : Nat) (n k : Int), x.item = (j : Int) + 1 ∧ E.its[j]? = some ⟨n, k, x.acc, 0⟩ ∧ (Gd.holdF E.its x.item c).2 = E.its.set j ⟨n, k, -1, c⟩ := fun hi => by
    obtain ⟨q1, q2, q3⟩ := g2 hi
    obtain ⟨j, ej, hj, hxj⟩ := get_in q1
    rw [hxj] at q2 q3
    refine ⟨j, E.its[j].num, E.its[j].kind, ej, ?_, ?_⟩
    · rw [List.getElem?_eq_getElem hj, ← q2, ← q3]
    · unfold Gd.holdF Gd.putF
      have e1 : ((j : Int) + 1).toNat - 1 = j := by omega
      rw [if_neg (by omega), ej, if_pos (by omega), e1]
      have e2 : E.its.getD j ⟨0, 0, 0, 0⟩ = E.its[j] := by simp [hj]
      rw [e2, if_pos (by simp [q2])]
  have apart : ∀ {j : Nat} {n k : Int}, E.its[j]? = some ⟨n, k, x.acc, 0⟩ → ∀ y ∈ B, y.item ≠ (j : Int) + 1 := by
    intro j n k hj y hy ey
    obtain ⟨i, n', k', e', _, h2⟩ := h.held y hy (by omega)
    have : i = j := by omega
    subst this
    rw [hj] at h2
    simp at h2; omega
  refine ⟨(Pu.setC_len _ _ _).trans h.len, fun k hk => ?_, fun k hk => ?_, ?_, ?_, fun i hi hx' => ?_, fun y hy hyi => ?_, ?_, fun y hy => ?_⟩
  · have hk' : k < E.P.rows.length := by rw [h.len]; exact hk
    rw [← h.name k hk]
    obtain ⟨hk2, hnm⟩ := Pu.setC_name (l := E.P.rows) (i := t) (k := k) (c := Pu.coin E.P.rows t - x.coins) (by rw [Pu.setC_len]; exact hk')
    simp only [List.getD_eq_getElem?_getD, List.getElem?_eq_getElem hk', List.getElem?_eq_getElem (show k < (Pu.setC E.P.rows t (Pu.coin E.P.rows t - x.coins)).length by rw [Pu.setC_len]; exact hk'), Option.getD_some]
    exact hnm
  · have := h.coin k hk
    show Pu.coin (Pu.setC E.P.rows t (Pu.coin E.P.rows t - x.coins)) k + toK k (B ++ giftsOf x) = _
    rw [toK_app, gifts_toK, Pu.coin_set htl]
    by_cases ek : k = t
    · subst ek; rw [if_pos rfl, if_pos ht]; omega
    · rw [if_neg ek, if_neg (by omega)]; omega
  · show Es.cns (setR c (Es.cns E.l c + x.coins) E.l) c = _
    rw [cns_setR hE.R hc (by omega), if_pos rfl, tot_app, gifts_tot, h.cns]
  · show (if x.item ≠ 0 then (Gd.holdF E.its x.item c).2 else E.its).length = _
    split
    · rename_i hi
      obtain ⟨j, n, k, _, _, hs⟩ := key hi
      rw [hs, List.length_set]; exact h.ilen
    · exact h.ilen
  · show (if x.item ≠ 0 then (Gd.holdF E.its x.item c).2 else E.its)[i]? = _
    have hB := h.free i hi fun y hy => hx' y (List.mem_append_left _ hy)
    split
    · rename_i hi'
      obtain ⟨j, n, k, ej, _, hs⟩ := key hi'
      have hne : x.item ≠ (i : Int) + 1 := hx' ⟨x.acc, x.item, 0⟩ (List.mem_append_right _ (by simp [giftsOf, hi']))
      rw [hs, List.getElem?_set_ne (by omega)]; exact hB
    · exact hB
  · show ∃ (i : Nat) (n k : Int), _ ∧ _ ∧ (if x.item ≠ 0 then (Gd.holdF E.its x.item c).2 else E.its)[i]? = _
    rcases List.mem_append.1 hy with hy | hy
    · obtain ⟨i, n, k, e1, e2, e3⟩ := h.held y hy hyi
      refine ⟨i, n, k, e1, e2, ?_⟩
      split
      · rename_i hi'
        obtain ⟨j, n', k', ej, hj, hs⟩ := key hi'
        have := apart hj y hy
        rw [hs, List.getElem?_set_ne (by omega)]; exact e3
      · exact e3
    · rcases gifts_mem hy with ⟨hi', rfl⟩ | ⟨_, rfl⟩
      · obtain ⟨j, n, k, ej, hj, hs⟩ := key hi'
        have hjl := (List.getElem?_eq_some_iff.1 hj).1
        refine ⟨j, n, k, ej, ?_, ?_⟩
        · rw [← h.free j (by rw [← h.ilen]; exact hjl) (apart hj)]; exact hj
        · rw [if_pos hi', hs, List.getElem?_set_self hjl]
      · exact absurd rfl hyi
  · rw [List.pairwise_append]
    refine ⟨h.once, ?_, fun a haB b hb hai => ?_⟩
    · unfold giftsOf; split <;> split <;> simp_all
    · rcases gifts_mem hb with ⟨hi', rfl⟩ | ⟨_, rfl⟩
      · obtain ⟨j, n, k, ej, hj, _⟩ := key hi'
        have := apart hj a haB
        simp only; omega
      · exact hai
  · rcases List.mem_append.1 hy with hy | hy
    · exact h.each y hy
    · have ha0 : Pu.accE E0.P.rows x.acc = 0 := by rw [← acc_len h.len]; exact ha
      rcases gifts_mem hy with ⟨hi', rfl⟩ | ⟨hc', rfl⟩
      · exact ⟨ha0, Int.le_refl _, .inl hi'⟩
      · exact ⟨ha0, hx, .inr (by simp only; omega)⟩
/-- nothing of the contract is left -/
theorem J.none {lp lg c : Int} {E0 E : Eco} (h : J c E0 E []) (hE : EI lp lg E) (hc : 1 ≤ c) (h0 : Gd.inF E0.its c = []) : E.P.rows = E0.P.rows ∧ E.its = E0.its ∧ Es.cns E.l c = 0 ∧ endE c E = (0, E) := by
  have hi : E.its = E0.its := by
    apply List.ext_getElem?
    intro i
    by_cases q : i < E0.its.length
    · exact h.free i q (by simp)
    · rw [List.getElem?_eq_none (by rw [h.ilen]; omega), List.getElem?_eq_none (by omega)]
  have hcn : Es.cns E.l c = 0 := h.cns
  refine ⟨?_, hi, hcn, ?_⟩
  · apply List.ext_getElem
    · exact h.len
    · intro k h1 h2
      have a := h.name k h2
      have b := h.coin k h2
      simp only [toK, Int.add_zero] at b
      rw [Pu.coin_at h1, Pu.coin_at h2] at b
      simp only [List.getD_eq_getElem?_getD, List.getElem?_eq_getElem h1, List.getElem?_eq_getElem h2, Option.getD_some] at a
      cases hx : E.P.rows[k]; cases hy : E0.P.rows[k]
      rw [hx, hy] at a b
      simp only at a b
      rw [a, b]
  · unfold endE; rw [hi, h0, hcn]; rfl
theorem J.left {c : Int} {E0 E : Eco} {y : Gf} (h : J c E0 E [y]) (hc : 1 ≤ c) : (endE c E).1 = 170 := by
  unfold endE
  rw [if_pos]
  obtain ⟨_, h2, h3⟩ := h.each y (.head _)
  rcases h3 with hi | hco
  · right
    obtain ⟨i, n, k, _, _, e⟩ := h.held y (.head _) hi
    have hm : (⟨n, k, -1, c⟩ : Gd.It) ∈ E.its := List.mem_of_getElem? e
    have : n ∈ Gd.inF E.its c := List.mem_map.2 ⟨⟨n, k, -1, c⟩, List.mem_filter.2 ⟨hm, by simp; omega⟩, rfl⟩
    intro q
    rw [List.length_eq_zero_iff.1 q] at this
    cases this
  · left
    rw [h.cns]
    simp only [tot]; omega
theorem J.accs {lp lg c : Int} {E0 E : Eco} {B : List Gf} (h : J c E0 E B) : ∀ x ∈ B, 0 ≤ x.coins ∧ Pu.accE E.P.rows x.to = 0 := fun x hx => ⟨(h.each x hx).2.1, by rw [acc_len h.len]; exact (h.each x hx).1⟩
end Go.HL.Es

namespace Go.HL.Es
open Go.HL Go.Proofs
set_option maxRecDepth 4000
set_option linter.unusedSimpArgs false
set_option linter.unusedVariables false
def sumN (T : Int → Int) : Nat → Int
  | 0 => 0
  | n + 1 => sumN T n + T n
theorem sumN_add (T U : Int → Int) : ∀ n, sumN (fun k => T k + U k) n = sumN T n + sumN U n
  | 0 => rfl
  | n + 1 => by simp only [sumN, sumN_add T U n]; omega
theorem sumN_one (t v : Int) : ∀ n : Nat, sumN (fun k => if t = k then v else 0) n = if 0 ≤ t ∧ t < n then v else 0
  | 0 => by simp [sumN]; omega
  | n + 1 => by
    simp only [sumN, sumN_one t v n]
    by_cases h : t = n
    · rw [if_pos h, if_neg (by omega), if_pos (by omega)]; omega
    · rw [if_neg h, Int.add_zero]
      by_cases h2 : 0 ≤ t ∧ t < n
      · rw [if_pos h2, if_pos (by omega)]
      · rw [if_neg h2, if_neg (by omega)]
/-- what a change of the economy turns -/
structure Moves (c : Int) (E E' : Eco) (T : Int → Int) (f : Gd.It → Gd.It) (d : Int) : Prop where
  len : E'.P.rows.length = E.P.rows.length
  sup : E'.P.sup = E.P.sup
  name : ∀ k, k < E.P.rows.length → (E'.P.rows.getD k ⟨[], 0⟩).name = (E.P.rows.getD k ⟨[], 0⟩).name
  coin : ∀ k : Nat, k < E.P.rows.length → Pu.coin E'.P.rows k = Pu.coin E.P.rows k + T k
  all : sumN T E.P.rows.length = -d
  cns : cns E'.l c = cns E.l c + d
  rest : del c E'.l = del c E.l
  its : E'.its = E.its.map f
theorem Moves.trans {c d d' : Int} {E E' E2 : Eco} {T U : Int → Int} {f f' : Gd.It → Gd.It} (h : Moves c E E' T f d) (h' : Moves c E' E2 U f' d') : Moves c E E2 (fun k => T k + U k) (fun x => f' (f x)) (d + d') where
  len := h'.len.trans h.len
  sup := h'.sup.trans h.sup
  name k hk := (h'.name k (by rw [h.len]; exact hk)).trans (h.name k hk)
  coin k hk := by rw [h'.coin k (by rw [h.len]; exact hk), h.coin k hk]; omega
  all := by
    rw [sumN_add, h.all]
    have := h'.all
    rw [h.len] at this
    omega
  cns := by rw [h'.cns, h.cns]; omega
  rest := h'.rest.trans h.rest
  its := by rw [h'.its, h.its, List.map_map]; rfl
theorem sumN_zero : ∀ n, sumN (fun _ => 0) n = 0
  | 0 => rfl
  | n + 1 => by simp only [sumN, sumN_zero n]; rfl
theorem Moves.refl (c : Int) (E : Eco) : Moves c E E (fun _ => 0) id 0 :=
  ⟨rfl, rfl, fun _ _ => rfl, fun k _ => (Int.add_zero _).symm, sumN_zero _, (Int.add_zero _).symm, rfl, (List.map_id _).symm⟩
theorem del_ins (c v : Int) : ∀ {l : List Rw}, (∀ r ∈ l, r.1 ≠ c) → del c (ins c v l) = l
  | [], _ => by simp [ins, del]
  | r :: t, h => by
    have h0 := h r (.head _)
    have ht : ∀ r ∈ t, r.1 ≠ c := fun x hx => h x (.tail _ hx)
    simp only [ins]
    split
    · have e : del c ((c, v) :: r :: t) = del c (r :: t) := by simp [del]
      rw [e, del_none h]
    · have e : del c (r :: ins c v t) = r :: del c (ins c v t) := by simp [del, h0]
      rw [e, del_ins c v ht]
theorem del_setR (c v : Int) (l : List Rw) : del c (setR c v l) = del c l := by
  have h : ∀ r ∈ del c l, r.1 ≠ c := fun r hr => (del_mem.1 hr).2
  unfold setR
  split
  · exact del_none h
  · exact del_ins c v h
/-- where a gift, an entry puts an item -/
def gW (x : Gf) (it : Gd.It) : Gd.It := if x.item = it.num then ⟨it.num, it.kind, x.to, 0⟩ else it
def eW (c : Int) (x : Et) (it : Gd.It) : Gd.It := if x.item = it.num then ⟨it.num, it.kind, -1, c⟩ else it
theorem map_set {its : List Gd.It} {lim : Int} (hg : Gd.GI lim its) {j : Nat} (hj : j < its.length) (y : Gd.It) (f : Gd.It → Gd.It) (h1 : f its[j] = y) (h2 : ∀ it : Gd.It, it.num ≠ (j : Int) + 1 → f it = it) : its.set j y = its.map f := by
  apply List.ext_getElem
  · simp
  · intro i a b
    have hi : i < its.length := by simpa using a
    rw [List.getElem_map, List.getElem_set]
    split
    · rename_i e; subst e; exact h1.symm
    · rename_i e
      exact (h2 its[i] (by rw [hg.num i hi]; omega)).symm
theorem map_none {its : List Gd.It} {lim : Int} (hg : Gd.GI lim its) {n : Int} (hn : n = 0) (f : Gd.It → Gd.It) (h2 : ∀ it : Gd.It, it.num ≠ n → f it = it) : its = its.map f := by
  apply List.ext_getElem
  · simp
  · intro i a b
    rw [List.getElem_map, h2 its[i] (by rw [hg.num i a]; omega)]
theorem coins_move {l : List Pu.Ac} {t : Nat} (h : t < l.length) (v : Int) (k : Nat) : Pu.coin (Pu.setC l t (Pu.coin l t + v)) k = Pu.coin l k + (if (t : Int) = k then v else 0) := by
  rw [Pu.coin_set h]
  by_cases e : k = t
  · subst e; simp
  · rw [if_neg e, if_neg (by omega)]; omega
theorem name_move {l : List Pu.Ac} {t : Nat} (v : Int) (k : Nat) (hk : k < l.length) : ((Pu.setC l t v).getD k ⟨[], 0⟩).name = (l.getD k ⟨[], 0⟩).name := by
  obtain ⟨hk2, hnm⟩ := Pu.setC_name (l := l) (i := t) (k := k) (c := v) (by rw [Pu.setC_len]; exact hk)
  simp only [List.getD_eq_getElem?_getD, List.getElem?_eq_getElem hk, List.getElem?_eq_getElem (show k < (Pu.setC l t v).length by rw [Pu.setC_len]; exact hk), Option.getD_some]
  exact hnm
theorem give_moves {lp lg c : Int} {x : Gf} {E : Eco} (hE : EI lp lg E) (hc : 1 ≤ c ∧ c < 9223372036854775808) (hx : 0 ≤ x.coins) (h : (giveF c x E).1 = 0) : Moves c E (giveF c x E).2 (fun k => if x.to = k then x.coins else 0) (gW x) (-x.coins) := by
  obtain ⟨g, e⟩ := (give_cases c x E).resolve_right fun q => q.2.1 h
  have ha := get_acc.1 g.acc
  have hle := cns_le hE.R c
  have hsum := hE.sum
  have hgc := g.coins
  have hput := (put_back hE.P ha (c := x.coins) ⟨hx, by omega⟩).1
  obtain ⟨t, ht, htl⟩ := Pu.acc_in ha
  have e0 : x.to.toNat = t := by omega
  rw [e, hput, e0]
  constructor
  · exact Pu.setC_len _ _ _
  · rfl
  · exact fun k hk => name_move _ k hk
  · intro k hk
    rw [ht]
    exact coins_move htl x.coins k
  · rw [sumN_one, if_pos ⟨by omega, by omega⟩]; omega
  · show cns (setR c (cns E.l c - x.coins) E.l) c = _
    rw [cns_setR hE.R hc (by omega), if_pos rfl]; omega
  · exact del_setR _ _ _
  · show (if x.item ≠ 0 then (Gd.freeF E.its x.item x.to).2 else E.its) = _
    by_cases hi : x.item = 0
    · rw [if_neg (by simp [hi])]
      exact map_none hE.G hi _ fun it hit => by unfold gW; rw [if_neg (Ne.symm hit)]
    · rw [if_pos hi]
      obtain ⟨g1, g2⟩ := g.item hi
      obtain ⟨j, ej, hj, hxj⟩ := get_in g1
      rw [hxj] at g2
      have hfr : (Gd.freeF E.its x.item x.to).2 = E.its.set j ⟨E.its[j].num, E.its[j].kind, x.to, 0⟩ := by
        unfold Gd.freeF Gd.putF
        have e1 : ((j : Int) + 1).toNat - 1 = j := by omega
        rw [if_pos (acc_of hE.P ha), ej, if_pos (by omega), e1]
        have e2 : E.its.getD j ⟨0, 0, 0, 0⟩ = E.its[j] := by simp [hj]
        rw [e2, if_pos (by simp; omega)]
      rw [hfr]
      refine map_set hE.G hj _ _ ?_ fun it hit => ?_
      · unfold gW; rw [if_pos (by rw [hE.G.num j hj, ej])]
      · unfold gW; rw [if_neg (by rw [ej]; exact Ne.symm hit)]
theorem put_moves {lp lg c : Int} {x : Et} {E : Eco} (hE : EI lp lg E) (hc : 1 ≤ c ∧ c < 9223372036854775808) (hx : 0 ≤ x.coins) (h : (putE c x E).1 = 0) : Moves c E (putE c x E).2 (fun k => if x.acc = k then -x.coins else 0) (eW c x) x.coins := by
  obtain ⟨g1, g2, g3, e⟩ := put_ok h
  obtain ⟨ha, hle, et⟩ := take_ok g3
  obtain ⟨t, ht, htl⟩ := Pu.acc_in ha
  have e0 : x.acc.toNat = t := by omega
  have hb := hE.cns_bd c
  rw [e, et, e0]
  constructor
  · exact Pu.setC_len _ _ _
  · rfl
  · exact fun k hk => name_move _ k hk
  · intro k hk
    rw [ht]
    exact coins_move htl (-x.coins) k
  · rw [sumN_one, if_pos ⟨by omega, by omega⟩]
  · show cns (setR c (cns E.l c + x.coins) E.l) c = _
    rw [cns_setR hE.R hc (by omega), if_pos rfl]
  · exact del_setR _ _ _
  · show (if x.item ≠ 0 then (Gd.holdF E.its x.item c).2 else E.its) = _
    by_cases hi : x.item = 0
    · rw [if_neg (by simp [hi])]
      exact map_none hE.G hi _ fun it hit => by unfold eW; rw [if_neg (Ne.symm hit)]
    · rw [if_pos hi]
      obtain ⟨q1, q2, q3⟩ := g2 hi
      obtain ⟨j, ej, hj, hxj⟩ := get_in q1
      rw [hxj] at q2 q3
      have hfr : (Gd.holdF E.its x.item c).2 = E.its.set j ⟨E.its[j].num, E.its[j].kind, -1, c⟩ := by
        unfold Gd.holdF Gd.putF
        have e1 : ((j : Int) + 1).toNat - 1 = j := by omega
        rw [if_neg (by omega), ej, if_pos (by omega), e1]
        have e2 : E.its.getD j ⟨0, 0, 0, 0⟩ = E.its[j] := by simp [hj]
        rw [e2, if_pos (by simp [q2])]
      rw [hfr]
      refine map_set hE.G hj _ _ ?_ fun it hit => ?_
      · unfold eW; rw [if_pos (by rw [hE.G.num j hj, ej])]
      · unfold eW; rw [if_neg (by rw [ej]; exact Ne.symm hit)]
/-- where gifts put an item, one by one -/
def gsW (gs : List Gf) (it : Gd.It) : Gd.It := gs.foldl (fun it x => gW x it) it
theorem giveL_moves {lp lg c : Int} (hc : 1 ≤ c ∧ c < 9223372036854775808) : ∀ {gs : List Gf} {E : Eco}, EI lp lg E → (∀ x ∈ gs, 0 ≤ x.coins) → (giveL c gs E).1 = 0 → Moves c E (giveL c gs E).2 (fun k => toK k gs) (gsW gs) (-tot gs)
  | [], E, _, _, _ => by
    have e : gsW [] = id := rfl
    rw [e]
    simpa [toK, tot, giveL] using Moves.refl c E
  | x :: t, E, hE, hx, h => by
    have hx0 := hx x (.head _)
    by_cases h1 : (giveF c x E).1 = 0
    · have m1 := give_moves hE hc hx0 h1
      have hE1 := give_ei hE hc hx0 (x := x)
      simp only [giveL, h1, ne_eq, not_true_eq_false, if_false] at h ⊢
      have m2 := giveL_moves hc hE1 (fun y hy => hx y (.tail _ hy)) h
      have := m1.trans m2
      have ed : -x.coins + -tot t = -tot (x :: t) := by simp only [tot]; omega
      rw [ed] at this
      exact this
    · simp only [giveL, ne_eq, h1, not_false_eq_true, if_true] at h
/-- what a whole step turns -/
theorem turn_moves {lp lg c : Int} {gs : List Gf} {bes : Eco → Int × Eco} {E : Eco} {U : Int → Int} {f : Gd.It → Gd.It} {d : Int} (hE : EI lp lg E) (hc : c < 9223372036854775808) (hx : ∀ x ∈ gs, 0 ≤ x.coins)
    (hb : ∀ E, 1 ≤ c → EI lp lg E → (bes E).1 = 0 → Moves c E (bes E).2 U f d) (h : (turnF c gs bes E).1 = 0) : 1 ≤ c ∧ Moves c E (turnF c gs bes E).2 (fun k => toK k gs + U k) (fun it => f (gsW gs it)) (-tot gs + d) := by
  unfold turnF at h ⊢
  split at h
  · cases h
  rename_i h1
  split at h
  · rename_i h2; exact absurd h h2
  rename_i h2
  split at h
  · rename_i h3; exact absurd h h3
  rename_i h3
  rw [if_neg h1, if_neg h2, if_neg h3]
  have hcc : 1 ≤ c ∧ c < 9223372036854775808 := ⟨by omega, hc⟩
  exact ⟨hcc.1, (giveL_moves hcc hE hx (by simpa using h2)).trans (hb _ hcc.1 (giveL_ei hcc hE hx) (by simpa using h3))⟩
theorem turn_no {c : Int} {gs : List Gf} {bes : Eco → Int × Eco} {E : Eco} (h : (turnF c gs bes E).1 ≠ 0) : (turnF c gs bes E).2 = E := by
  unfold turnF at h ⊢
  split
  · rfl
  split
  · rfl
  split
  · rfl
  · rename_i h1 h2 h3; rw [if_neg h1, if_neg h2, if_neg h3] at h; exact absurd rfl h
end Go.HL.Es

namespace Go.HL.Es
open Go.HL Go.Proofs
set_option maxRecDepth 4000
set_option linter.unusedSimpArgs false
set_option linter.unusedVariables false
/-- where a step puts an item -/
def whereG (o : So) (i : Nat) (it : Gd.It) : Gd.It := if o.kind = 1 then it else gsW (o.gs.take i) it
def whereF (o : So) (it : Gd.It) : Gd.It := if o.kind ≠ 3 then eW o.con o.e.x (whereG o o.gs.length it) else whereG o o.gs.length it
theorem gW_num (x : Gf) (it : Gd.It) : (gW x it).num = it.num := by unfold gW; split <;> rfl
theorem gsW_app (a b : List Gf) (it : Gd.It) : gsW (a ++ b) it = gsW b (gsW a it) := by simp [gsW]
theorem gsW_num : ∀ (l : List Gf) (it : Gd.It), (gsW l it).num = it.num
  | [], _ => rfl
  | x :: t, it => by
    have := gsW_num t (gW x it)
    rw [gW_num] at this
    exact this
theorem whereG_num (o : So) (i : Nat) (it : Gd.It) : (whereG o i it).num = it.num := by
  unfold whereG
  split
  · rfl
  · exact gsW_num _ _
theorem where_spec (o : So) (it : Gd.It) (w0 w : World) (A : Asn) (ho : o.ok w0 A) (h : St w0 A w) :
    CallW Tryz.prog 18 [.agg o.cs.toArray, .agg it.cs.toArray] (fun r w' => r = .agg (whereF o it).cs.toArray ∧ St w0 A w') w := by
  have hlen := ho.len
  obtain ⟨ga, gcap, hgv⟩ := ho.row.val
  refine callW_of_lift l18_ok (by simp [l18]) ?_
  simp [l18]
  refine eff_box h fun b w1 h1 => ?_
  simp
  refine eff_box h1 fun c w2 h2 => ?_
  simp
  refine eff_new h2 fun d w3 h3 => ?_
  simp
  have h3 : St w0 (A * pt b (.cells o.cs.toArray 48 (0, 0)) * pt d (.cells #[.int .i64 0, .int .i64 0, .int .i64 0, .int .i64 0] 60 (0, 0)) * pt c (.cells it.cs.toArray 60 (0, 0))) w3 := h3.swap
  have low : ∀ {X Y : Asn} {w : World}, St w0 (A * pt b (.cells o.cs.toArray 48 (0, 0)) * Y * X) w → St w0 A w := fun s => s.drop.drop.drop
  have f : ∀ {X Y : Asn} {w : World}, St w0 (A * pt b (.cells o.cs.toArray 48 (0, 0)) * Y * X) w → ∀ j u, o.cs[j]? = some u → w.cell? ⟨b, j, none⟩ = some u := fun s j u hu => by
    have := s.drop.drop.row_cells j u hu; simpa using this
  have q : ∀ {B : Asn} {y : Gd.It} {w : World}, St w0 (B * pt c (.cells y.cs.toArray 60 (0, 0))) w → ∀ j u, y.cs[j]? = some u → w.cell? ⟨c, j, none⟩ = some u := fun s j u hu => by
    have := s.row_cells j u hu; simpa using this
  have hgc : ∀ {w : World}, St w0 A w → ∀ {i : Nat} (h : i < o.gs.length), ∃ gg go, o.gv = .slice (some ⟨gg, go, none⟩) o.gs.length gcap ∧ ∀ {w : World}, St w0 A w → ∀ j u, (o.gs[i].cs)[j]? = some u → w.cell? ⟨gg, go + i * 3 + j, none⟩ = some u := fun {w} s {i} h => by
    obtain ⟨gg, go, gc', hv, hcell⟩ := ho.row.at (by omega)
    rw [hgv] at hv
    cases hv
    exact ⟨gg, go, hgv, fun s j u hu => by rw [Nat.add_assoc]; exact hcell _ s _ _ (gflat_at h j u hu)⟩
  generalize hB : A * pt b (.cells o.cs.toArray 48 (0, 0)) = B0 at *
  refine loopI (fun env w' => ∃ (i : Nat), env = [.agg o.cs.toArray, .agg it.cs.toArray, .pointer (some ⟨b, 0, none⟩), .pointer (some ⟨c, 0, none⟩), .pointer (some ⟨d, 0, none⟩), .int .i64 i] ∧ i ≤ o.gs.length ∧ St w0 (B0 * pt d (.cells #[.int .i64 0, .int .i64 0, .int .i64 0, .int .i64 0] 60 (0, 0)) * pt c (.cells (whereG o i it).cs.toArray 60 (0, 0))) w')
    (fun env _ => o.gs.length - slotN env 5) ⟨0, by simp, by omega, by
      have e : whereG o 0 it = it := by unfold whereG; split <;> rfl
      rw [e]; exact h3⟩ ?_
  clear h1 h2 h3 h
  rintro LQ env w' ⟨i, rfl, hi, s1⟩ hN hX hR
  simp
  refine eff_ldc (v := .slice ga o.gs.length gcap) (by rw [← hgv]; exact f s1 2 _ rfl) ?_
  simp
  have fin : ∀ w', (o.kind = 1 ∨ i = o.gs.length) → St w0 (B0 * pt d (.cells #[.int .i64 0, .int .i64 0, .int .i64 0, .int .i64 0] 60 (0, 0)) * pt c (.cells (whereG o i it).cs.toArray 60 (0, 0))) w' →
      LQ (.ex 0) [.agg o.cs.toArray, .agg it.cs.toArray, .pointer (some ⟨b, 0, none⟩), .pointer (some ⟨c, 0, none⟩), .pointer (some ⟨d, 0, none⟩), .int .i64 i] w' := by
    intro w' hor s1
    refine hX _ _ _ ?_
    have e : whereG o i it = whereG o o.gs.length it := by
      rcases hor with h | h
      · unfold whereG; rw [if_pos h, if_pos h]
      · rw [h]
    rw [e] at s1
    have en := whereG_num o o.gs.length it
    simp
    refine eff_ldc (v := .int .i64 o.kind) (f s1 0 _ rfl) ?_
    simp
    by_cases h3 : o.kind = 3
    · simp [h3]
      try simp
      refine eff_ldcs (vs := (whereG o o.gs.length it).cs) (fun j u hu => by rw [Nat.zero_add]; exact q s1 j u hu) rfl ?_
      try simp
      refine eff_stA (vs := (whereG o o.gs.length it).cs) (St.swap s1) rfl rfl (Gd.cs_one _) (by simp) fun w9 s9 => ?_
      try simp
      refine rv_cellA (vs := (whereG o o.gs.length it).cs) (b := d) (off := 0) rfl (fun j u hu => ?_) rfl ?_
      · have := s9.row_cells (vs := (whereG o o.gs.length it).cs) j u hu; simpa using this
      · have ew : whereF o it = (whereG o o.gs.length it) := by unfold whereF; rw [if_neg (by simp [h3])]
        rw [ew]
        exact ⟨rfl, low s9⟩
    · simp [h3]
      refine eff_ldc (v := .int .i64 o.e.x.item) (f s1 4 _ rfl) ?_
      simp
      refine eff_ldc (v := .int .i64 (whereG o o.gs.length it).num) (q s1 0 _ rfl) ?_
      simp
      refine cndI (fun ha => ?_) (fun ha => ?_)
      · simp at ha
        simp
        refine eff_st1 s1 rfl (by simp [Gd.It.cs]) fun w5 s5 => ?_
        simp
        refine eff_ldc (v := .int .i64 o.con) (f s5 1 _ rfl) ?_
        simp
        refine eff_st1 s5 rfl (by simp [Gd.It.cs]) fun w6 s6 => ?_
        have e6 : ((whereG o o.gs.length it).cs.toArray.setIfInBounds 2 (.int .i64 (-1))).setIfInBounds 3 (.int .i64 o.con) = (eW o.con o.e.x (whereG o o.gs.length it)).cs.toArray := by simp [eW, ha, Gd.It.cs]
        rw [e6] at s6
        try simp
        refine eff_ldcs (vs := (eW o.con o.e.x (whereG o o.gs.length it)).cs) (fun j u hu => by rw [Nat.zero_add]; exact q s6 j u hu) rfl ?_
        try simp
        refine eff_stA (vs := (eW o.con o.e.x (whereG o o.gs.length it)).cs) (St.swap s6) rfl rfl (Gd.cs_one _) (by simp) fun w9 s9 => ?_
        try simp
        refine rv_cellA (vs := (eW o.con o.e.x (whereG o o.gs.length it)).cs) (b := d) (off := 0) rfl (fun j u hu => ?_) rfl ?_
        · have := s9.row_cells (vs := (eW o.con o.e.x (whereG o o.gs.length it)).cs) j u hu; simpa using this
        · have ew : whereF o it = (eW o.con o.e.x (whereG o o.gs.length it)) := by unfold whereF; rw [if_pos h3]
          rw [ew]
          exact ⟨rfl, low s9⟩
      · simp at ha
        have e6 : eW o.con o.e.x (whereG o o.gs.length it) = whereG o o.gs.length it := by unfold eW; rw [if_neg ha]
        try simp
        refine eff_ldcs (vs := (whereG o o.gs.length it).cs) (fun j u hu => by rw [Nat.zero_add]; exact q s1 j u hu) rfl ?_
        try simp
        refine eff_stA (vs := (whereG o o.gs.length it).cs) (St.swap s1) rfl rfl (Gd.cs_one _) (by simp) fun w9 s9 => ?_
        try simp
        refine rv_cellA (vs := (whereG o o.gs.length it).cs) (b := d) (off := 0) rfl (fun j u hu => ?_) rfl ?_
        · have := s9.row_cells (vs := (whereG o o.gs.length it).cs) j u hu; simpa using this
        · have ew : whereF o it = (whereG o o.gs.length it) := by unfold whereF; rw [if_pos h3, e6]
          rw [ew]
          exact ⟨rfl, low s9⟩
  by_cases hlt : i < o.gs.length
  · simp [hlt]
    refine eff_ldc (v := .int .i64 o.kind) (f s1 0 _ rfl) ?_
    simp
    by_cases h1 : o.kind = 1
    · simp [h1]
      exact fin w' (.inl h1) s1
    · simp [h1]
      obtain ⟨gg, go, hv, hcell⟩ := hgc (low s1) hlt
      have step : whereG o (i + 1) it = gW o.gs[i] (whereG o i it) := by
        unfold whereG
        rw [if_neg h1, if_neg h1, List.take_succ_eq_append_getElem hlt, gsW_app]; rfl
      refine brqI s1 ?_
      simp
      refine effq_ldc (v := .slice (some ⟨gg, go, none⟩) o.gs.length gcap) (fun w s => by rw [← hv]; exact f s 2 _ rfl) ?_
      simp [hlt]
      refine effq_ldc (v := .int .i64 o.gs[i].item) (fun w s => hcell (low s) 1 _ rfl) ?_
      simp
      refine effq_ldc (v := .int .i64 (whereG o i it).num) (fun w s => q s 0 _ rfl) ?_
      simp
      intro w2 s2
      refine cndI (fun ha => ?_) (fun ha => ?_)
      · simp at ha
        simp
        refine eff_ldc (v := .slice (some ⟨gg, go, none⟩) o.gs.length gcap) (by rw [← hv]; exact f s2 2 _ rfl) ?_
        simp [hlt]
        refine eff_ldc (v := .int .i64 o.gs[i].to) (by have := hcell (low s2) 0 _ rfl; simpa using this) ?_
        simp
        refine eff_st1 s2 rfl (by simp [Gd.It.cs]) fun w5 s5 => ?_
        simp
        refine eff_st1 s5 rfl (by simp [Gd.It.cs]) fun w6 s6 => ?_
        have e6 : ((whereG o i it).cs.toArray.setIfInBounds 2 (.int .i64 o.gs[i].to)).setIfInBounds 3 (.int .i64 0) = (whereG o (i + 1) it).cs.toArray := by rw [step]; simp [gW, ha, Gd.It.cs]
        rw [e6] at s6
        simp
        try simp (disch := omega) only [wrap64]
        exact hN _ _ ⟨i + 1, by simp, by omega, s6⟩ (by simp [slotN]; omega)
      · simp at ha
        simp
        try simp (disch := omega) only [wrap64]
        have e6 : whereG o (i + 1) it = whereG o i it := by rw [step]; unfold gW; rw [if_neg ha]
        exact hN _ _ ⟨i + 1, by simp, by omega, by rw [e6]; exact s2⟩ (by simp [slotN]; omega)
  · simp [hlt]
    exact fin w' (.inr (by omega)) s1
theorem rowT : PrimStruct Tryz.prog 98 [.int .i64, .int .u64] := ⟨by kernel_rfl, by kernel_rfl, by kernel_rfl, by kernel_rfl⟩
def rpv (x : Rw) : List PV := [.int .i64 x.1, .int .u64 x.2]
theorem rpv_eq (x y : Rw) : decide (rpv x = rpv y) = decide (x = y) := by
  cases x; cases y
  simp [rpv]
/-- the rows of others, the same in both -/
theorem others_spec (la lb : List Rw) (va vb : Value) (k : Int) (w0 w : World) (A : Asn) (na : la.length ≤ 4194304) (nb : lb.length ≤ 4194304) (hla : Row w0 A va la.length 2 (rflat la)) (hlb : Row w0 A vb lb.length 2 (rflat lb)) (h : St w0 A w) :
    CallW Tryz.prog 19 [va, vb, .int .i64 k] (fun r w' => r = .bool (decide (del k la = del k lb)) ∧ St w0 A w') w := by
  obtain ⟨aa, ca, rfl⟩ := hla.val
  obtain ⟨ab, cb, rfl⟩ := hlb.val
  refine callW_of_lift l19_ok (by simp [l19]) ?_
  simp [l19]
  refine loopI (fun env w' => ∃ (i : Nat) (xv : Value) (o7 o8 : Value), env = [.slice aa la.length ca, .slice ab lb.length cb, .int .i64 k, .bool false, xv, .slice none 0 0, .int .i64 i, o7, o8] ∧ i ≤ la.length ∧ St w0 (A * own 98 2 xv (del k (la.take i)).length (rflat (del k (la.take i)))) w')
    (fun env _ => la.length - slotN env 6) ⟨0, _, _, _, rfl, by omega, h.own_nil 98 2⟩ ?_
  rintro LQ env w' ⟨i, xv, o7, o8, rfl, hi, s1⟩ hN hX hR
  have low : ∀ {X : Asn} {w : World}, St w0 (A * X) w → St w0 A w := fun s => s.drop
  simp
  refine cndI (fun hc => ?_) (fun hc => ?_)
  · simp at hc
    have step : del k (la.take (i + 1)) = del k (la.take i) ++ (if la[i].1 ≠ k then [la[i]] else []) := by
      rw [List.take_succ_eq_append_getElem hc]; unfold del; rw [List.filter_append]; congr 1; simp [List.filter_cons]
    obtain ⟨g, o, cap', hv, hcell⟩ := hla.at (by omega)
    cases hv
    simp [hc]
    refine eff_ldc (v := .int .i64 la[i].1) (by have := hcell _ (low s1) (i * 2 + 0) _ (rflat_at hc 0 _ rfl); simpa using this) ?_
    simp
    refine cndI (fun h4 => ?_) (fun h4 => ?_)
    · simp at h4
      simp [hc]
      refine eff_ldcs (vs := la[i].cs) (fun j u hu => by have := hcell _ (low s1) (i * 2 + j) _ (rflat_at hc j _ hu); rw [← Nat.add_assoc] at this; exact this) rfl ?_
      simp [Instr.fill, Value.cells]
      refine eff_bslV (v := .agg la[i].cs.toArray) s1 rfl fun c w2 s2 => ?_
      simp
      have hle : (del k (la.take i)).length ≤ 4194304 := by have := List.length_filter_le (fun r : Rw => decide (r.1 ≠ k)) (la.take i); have h2 : (la.take i).length ≤ la.length := (by rw [List.length_take]; omega); unfold del; omega
      refine eff_app (m := 1) (news := la[i].cs) s2.swap rfl s2.cells_look (rw_one _) (by decide) rfl (by unfold maxLen; omega) (by omega) fun v3 w3 s3 => ?_
      have e1 : rflat (del k (la.take i)) ++ la[i].cs = rflat (del k (la.take (i + 1))) := by rw [step, if_pos h4, rflat_app]; simp [rflat]
      have e2 : (del k (la.take i)).length + 1 = (del k (la.take (i + 1))).length := by rw [step, if_pos h4]; simp
      rw [e1, e2] at s3
      simp
      try simp (disch := omega) only [wrap64]
      exact hN _ _ ⟨i + 1, v3, o7, o8, by simp, by omega, s3.swap.drop⟩ (by simp [slotN]; omega)
    · simp at h4
      simp
      try simp (disch := omega) only [wrap64]
      have e1 : del k (la.take (i + 1)) = del k (la.take i) := by rw [step, if_neg (by simp [h4])]; simp
      exact hN _ _ ⟨i + 1, xv, o7, o8, by simp, by omega, by rw [e1]; exact s1⟩ (by simp [slotN]; omega)
  simp at hc
  simp
  refine hX _ _ _ ?_
  obtain rfl : i = la.length := by omega
  rw [List.take_length] at s1
  simp
  generalize hxa : xv = xa at s1 ⊢
  clear hN hX hR low
  have t1 := s1
  clear s1
  refine loopI (fun env w' => ∃ (i : Nat) (xv : Value) (o8 : Value), env = [.slice aa la.length ca, .slice ab lb.length cb, .int .i64 k, .bool false, xa, xv, .int .i64 la.length, .int .i64 i, o8] ∧ i ≤ lb.length ∧ St w0 (A * own 98 2 xa (del k la).length (rflat (del k la)) * own 98 2 xv (del k (lb.take i)).length (rflat (del k (lb.take i)))) w')
    (fun env _ => lb.length - slotN env 7) ⟨0, _, _, rfl, by omega, t1.own_nil 98 2⟩ ?_
  rintro LQ env w' ⟨i, xv, o8, rfl, hi, s1⟩ hN hX hR
  have low : ∀ {X : Asn} {w : World}, St w0 (A * own 98 2 xa (del k la).length (rflat (del k la)) * X) w → St w0 A w := fun s => s.drop.drop
  simp
  refine cndI (fun hc => ?_) (fun hc => ?_)
  · simp at hc
    have step : del k (lb.take (i + 1)) = del k (lb.take i) ++ (if lb[i].1 ≠ k then [lb[i]] else []) := by
      rw [List.take_succ_eq_append_getElem hc]; unfold del; rw [List.filter_append]; congr 1; simp [List.filter_cons]
    obtain ⟨g, o, cap', hv, hcell⟩ := hlb.at (by omega)
    cases hv
    simp [hc]
    refine eff_ldc (v := .int .i64 lb[i].1) (by have := hcell _ (low s1) (i * 2 + 0) _ (rflat_at hc 0 _ rfl); simpa using this) ?_
    simp
    refine cndI (fun h4 => ?_) (fun h4 => ?_)
    · simp at h4
      simp [hc]
      refine eff_ldcs (vs := lb[i].cs) (fun j u hu => by have := hcell _ (low s1) (i * 2 + j) _ (rflat_at hc j _ hu); rw [← Nat.add_assoc] at this; exact this) rfl ?_
      simp [Instr.fill, Value.cells]
      refine eff_bslV (v := .agg lb[i].cs.toArray) s1 rfl fun c w2 s2 => ?_
      simp
      have hle : (del k (lb.take i)).length ≤ 4194304 := by have := List.length_filter_le (fun r : Rw => decide (r.1 ≠ k)) (lb.take i); have h2 : (lb.take i).length ≤ lb.length := (by rw [List.length_take]; omega); unfold del; omega
      refine eff_app (m := 1) (news := lb[i].cs) s2.swap rfl s2.cells_look (rw_one _) (by decide) rfl (by unfold maxLen; omega) (by omega) fun v3 w3 s3 => ?_
      have e1 : rflat (del k (lb.take i)) ++ lb[i].cs = rflat (del k (lb.take (i + 1))) := by rw [step, if_pos h4, rflat_app]; simp [rflat]
      have e2 : (del k (lb.take i)).length + 1 = (del k (lb.take (i + 1))).length := by rw [step, if_pos h4]; simp
      rw [e1, e2] at s3
      simp
      try simp (disch := omega) only [wrap64]
      exact hN _ _ ⟨i + 1, v3, o8, by simp, by omega, s3.swap.drop⟩ (by simp [slotN]; omega)
    · simp at h4
      simp
      try simp (disch := omega) only [wrap64]
      have e1 : del k (lb.take (i + 1)) = del k (lb.take i) := by rw [step, if_neg (by simp [h4])]; simp
      exact hN _ _ ⟨i + 1, xv, o8, by simp, by omega, by rw [e1]; exact s1⟩ (by simp [slotN]; omega)
  simp at hc
  simp
  refine hX _ _ _ ?_
  obtain rfl : i = lb.length := by omega
  rw [List.take_length] at s1
  simp
  generalize hxb : xv = xb at s1 ⊢
  clear hN hX hR low
  have ra := (row_own s1.swap).mono fun w (s : St w0 (A * own 98 2 xa (del k la).length (rflat (del k la)) * own 98 2 xb (del k lb).length (rflat (del k lb))) w) => s.swap
  have rb := row_own s1
  have low : ∀ {w : World}, St w0 (A * own 98 2 xa (del k la).length (rflat (del k la)) * own 98 2 xb (del k lb).length (rflat (del k lb))) w → St w0 A w := fun s => s.drop.drop
  have low : ∀ {w : World}, St w0 (A * own 98 2 xa (del k la).length (rflat (del k la)) * own 98 2 xb (del k lb).length (rflat (del k lb))) w → St w0 A w := fun s => s.drop.drop
  have hle : (del k la).length ≤ 4194304 := by have := List.length_filter_le (fun r : Rw => decide (r.1 ≠ k)) la; unfold del; omega
  generalize del k la = x at *
  generalize del k lb = y at *
  generalize hS : A * own 98 2 xa x.length (rflat x) * own 98 2 xb y.length (rflat y) = S at *
  clear hS
  obtain ⟨a1, c1, rfl⟩ := ra.val
  obtain ⟨a2, c2, rfl⟩ := rb.val
  simp
  refine cndI (fun h => ?_) (fun h => ?_)
  · simp at h
    have : ¬ x = y := by rintro rfl; exact h rfl
    simp [this]
    exact low s1
  simp at h
  simp
  refine loopI (fun env w' => ∃ (i : Nat), env = [.slice aa la.length ca, .slice ab lb.length cb, .int .i64 k, .bool false, .slice a1 x.length c1, .slice a2 y.length c2, .int .i64 la.length, .int .i64 lb.length, .int .i64 i] ∧ i ≤ x.length ∧ x.take i = y.take i ∧ St w0 S w')
    (fun env _ => x.length - slotN env 8) ⟨0, rfl, by omega, rfl, s1⟩ ?_
  rintro LQ env w' ⟨i, rfl, hi, ht, s'⟩ hN hE hR
  simp
  refine cndI (fun h3 => ?_) (fun h3 => ?_)
  · simp at h3
    obtain ⟨g1, o1, c1', e1, k1⟩ := ra.at (by omega)
    cases e1
    obtain ⟨g2, o2, c2', e2, k2⟩ := rb.at (by omega)
    cases e2
    have hy : i < y.length := by omega
    simp [h3]
    refine brqI s' ?_
    simp [h3]
    refine effq_ldcs (vs := x[i].cs) (fun w s j u hu => by rw [Nat.add_assoc]; exact k1 w s _ _ (rflat_at h3 j u hu)) rfl ?_
    simp [hy]
    refine effq_ldcs (vs := y[i].cs) (fun w s j u hu => by rw [Nat.add_assoc]; exact k2 w s _ _ (rflat_at hy j u hu)) rfl ?_
    simp
    refine effq_neqP rowT (rpv x[i]) (rpv y[i]) rfl rfl ?_
    rw [rpv_eq]
    simp
    intro w2 s2
    refine cndI (fun h4 => ?_) (fun h4 => ?_)
    · simp at h4
      have : ¬ x = y := by
        rintro rfl
        exact h4 rfl
      simp
      refine hR _ _ ?_
      simp [this]
      exact low s2
    · simp at h4
      simp
      try simp (disch := omega) only [wrap64]
      refine hN _ _ ⟨i + 1, by simp, by omega, ?_, s2⟩ (by simp [slotN]; omega)
      rw [List.take_succ_eq_append_getElem h3, List.take_succ_eq_append_getElem hy, ht, h4]
  · simp at h3
    simp
    refine hE _ _ _ ?_
    simp
    have e : i = x.length := by omega
    have e2 : i = y.length := by omega
    rw [e, List.take_length, ← e, e2, List.take_length] at ht
    subst ht
    simp
    exact low s'
end Go.HL.Es
