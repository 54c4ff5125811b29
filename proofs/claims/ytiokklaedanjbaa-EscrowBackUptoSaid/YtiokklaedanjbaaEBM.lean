/-
  What the claim leans on, part 15 of 15. Conditions: as each theorem says.
-/
import Derived.Test.YtiokklaedanjbaaEBMn
import Derived.Lib.Bytealg
namespace Go.HL.Nm
open Go.HL Go.Proofs
set_option maxRecDepth 4000
set_option linter.unusedSimpArgs false
set_option linter.unusedVariables false
end Go.HL.Nm

namespace Go.HL.Nm
open Go.HL Go.Proofs
set_option maxRecDepth 4000
set_option linter.unusedSimpArgs false
set_option linter.unusedVariables false
end Go.HL.Nm

namespace Go.HL.Nm
open Go.HL
set_option maxRecDepth 4000
set_option linter.unusedSimpArgs false
set_option linter.unusedVariables false
/-- a byte that continues -/
def contB (b : UInt8) : Bool := decide (128 ≤ b.toNat) && decide (b.toNat ≤ 191)
/-- the bytes that continue at a row's head -/
def lead : List Int → List UInt8
  | [] => []
  | u :: us => if 2097280 ≤ u ∧ u ≤ 2097343 then UInt8.ofNat (u.toNat - 2097152) :: lead us else []
theorem encAll_cons (u : Int) (us : List Int) : encAll (u :: us) = encU u ++ encAll us := rfl
/-- the bad bytes are where they stay bad -/
def goodU : List Int → Prop
  | [] => True
  | u :: us => (2097152 ≤ u → oneF (UInt8.ofNat (u.toNat - 2097152) :: lead us) = (u, 1)) ∧ goodU us
/-- a map of units that leaves bad bytes as_ they are -/
structure Mild (f : Int → List Int) : Prop where
  bad : ∀ u, 2097152 ≤ u → f u = [u]
  fine : ∀ u, u < 2097152 → f u ≠ [] ∧ ∀ x ∈ f u, x < 2097152
end Go.HL.Nm

namespace Go.HL.Nm
open Go.HL
set_option maxRecDepth 4000
set_option linter.unusedSimpArgs false
set_option linter.unusedVariables false
/-- no two that look like one -/
def noP : List Int → Prop
  | a :: b :: r => ¬ (a = 114 ∧ b = 110) ∧ ¬ (a = 118 ∧ b = 118) ∧ noP (b :: r)
  | _ => True
-- how long
theorem encAll_app (a b : List Int) : encAll (a ++ b) = encAll a ++ encAll b := by simp [encAll]
theorem flat_len {f : Int → List Int} : ∀ us : List Int, (∀ u ∈ us, (encAll (f u)).length ≤ (encU u).length) → (encAll (us.flatMap f)).length ≤ (encAll us).length
  | [], _ => Nat.le_refl _
  | u :: us, h => by
    have h1 := h u (List.mem_cons_self ..)
    have h2 := flat_len us fun x hx => h x (List.mem_cons_of_mem _ hx)
    rw [List.flatMap_cons, encAll_app, encAll_cons, List.length_append, List.length_append]
    omega
-- a right name
end Go.HL.Nm

namespace Go.HL.Pu
open Go.HL Go.HL.Nm Go.Proofs
set_option maxRecDepth 4000
set_option linter.unusedSimpArgs false
set_option linter.unusedVariables false
def strs (l : List Ac) : List Value := l.map fun x => .string (mk x.name)
/-- whose key is among the first -/
def anyK (x : List UInt8) (l : List Ac) : Bool := l.any fun r => decide (keyF r.name = keyF x)
end Go.HL.Pu

namespace Go.HL.Pu
open Go.HL Go.HL.Nm Go.Proofs
set_option maxRecDepth 4000
set_option linter.unusedSimpArgs false
set_option linter.unusedVariables false
/-- accounts that were opened -/
structure Gd (rows : List Ac) : Prop where
  len : 1 ≤ rows.length ∧ rows.length ≤ 64
  names : ∀ i, (h : i < rows.length) → rows[i].name.length ≤ 1048576
  keys : (keys rows).Nodup
end Go.HL.Pu

namespace Go.HL.Pu
open Go.HL Go.HL.Nm Go.Proofs
set_option maxRecDepth 4000
set_option linter.unusedSimpArgs false
set_option linter.unusedVariables false
def mineK (l : List Int) (i : Int) : Bool := l.any fun n => decide (n = i)
def clsT (S : World → Prop) : List Value → World → Prop
  | [], w => S w
  | r :: _, w => r = .bool true ∧ S w
@[simp] theorem clsT_nil (S : World → Prop) (w : World) : clsT S [] w = S w := rfl
@[simp] theorem clsT_cons (S : World → Prop) (v : Value) (l : List Value) (w : World) : clsT S (v :: l) w = (v = .bool true ∧ S w) := rfl
end Go.HL.Pu

namespace Go.HL.Pu
open Go.HL Go.HL.Nm Go.Proofs
set_option maxRecDepth 4000
set_option linter.unusedSimpArgs false
set_option linter.unusedVariables false
theorem loadL_ok : ∀ (l : List Ac) (P : Ps), (loadL P l).1 = 0 → (∀ x ∈ l, 0 ≤ x.coins) → (loadL P l).2 = { P with held := P.held - total l, rows := P.rows ++ l } ∧ total l ≤ P.held ∨ l = []
  | [], _, _, _ => .inr rfl
  | a :: l, P, h, hc => by
    left
    have ha := hc a (List.mem_cons_self ..)
    simp only [loadL] at h ⊢
    by_cases hs : stepE P a = 0
    · rw [if_pos hs] at h ⊢
      have hle : a.coins ≤ P.held := by
        unfold stepE at hs
        split at hs
        · split at hs
          · cases hs
          · omega
        · rename_i h1; exact absurd hs h1
      have e : total (a :: l) = a.coins + total l := by simp [total]
      rcases loadL_ok l (stepP P a) h (fun x hx => hc x (List.mem_cons_of_mem _ hx)) with ⟨h1, h2⟩ | h1
      · refine ⟨?_, ?_⟩
        · rw [h1, e]
          simp only [stepP, List.append_assoc, List.singleton_append]
          congr 1
          omega
        · rw [e]
          have : (stepP P a).held = P.held - a.coins := rfl
          omega
      · subst h1
        refine ⟨?_, ?_⟩
        · rw [e]
          simp [loadL, stepP, total_nil]
        · rw [e, total_nil]; omega
    · rw [if_neg hs] at h
      exact absurd h hs
theorem load_PI {lim : Int} {rows : List Ac} {sup : Int} (h : (loadF lim rows sup).1 = 0) (hsup : 0 ≤ sup) (hc : ∀ x ∈ rows, 0 ≤ x.coins) (hn : ∀ i, (h : i < rows.length) → rows[i].name.length ≤ 1048576) :
    (loadF lim rows sup).2 = ⟨lim, rows, sup, sup - total rows⟩ ∧ PI lim (loadF lim rows sup).2 := by
  unfold loadF at h ⊢
  split at h
  · rename_i h1
    rw [if_pos h1]
    split at h
    · cases h
    · rename_i h2
      rw [if_neg h2]
      split at h
      · cases h
      · rename_i h3
        rw [if_neg h3]
        split at h
        · rename_i h4
          rw [if_pos h4]
          have hne : rows ≠ [] := by
            rintro rfl
            revert h4
            decide
          rcases loadL_ok rows _ h hc with ⟨e1, e2⟩ | e
          · rw [e1]
            refine ⟨rfl, ⟨rfl, h1, ?_, hc, ?_, ?_, by show sup ≤ _; omega, hn⟩⟩
            · have := List.length_pos_iff.2 hne
              have hl3 : (rows.length : Int) ≤ lim := by omega
              exact ⟨by show 1 ≤ ([] ++ rows).length; rw [List.nil_append]; exact this, by show ((([] ++ rows : List Ac).length : Nat) : Int) ≤ lim; rw [List.nil_append]; exact hl3⟩
            · show 0 ≤ sup - total rows
              have : (⟨lim, [], sup, sup⟩ : Ps).held = sup := rfl
              omega
            · show sup - total rows + total ([] ++ rows) = sup
              rw [List.nil_append]; omega
          · exact absurd e hne
        · cases h
  · cases h
def sps (l : List Sp) : List Value := l.flatMap Sp.cs
end Go.HL.Pu

namespace Go.HL.Es
open Go.HL Go.Proofs
set_option maxRecDepth 4000
set_option linter.unusedSimpArgs false
set_option linter.unusedVariables false
theorem scan_zero : ∀ (l : List Gd.It) (i : Nat), Gd.scanE i l = 0 → ∀ j (h : j < l.length), Gd.itemE (i + j) l[j] = 0
  | [], _, _, j, h => by simp at h
  | x :: l, i, hs, j, h => by
    have hx : Gd.itemE i x = 0 := by
      by_cases e : Gd.itemE i x = 0
      · exact e
      · simp only [Gd.scanE, if_neg e] at hs
        exact hs
    cases j with
    | zero => exact hx
    | succ j =>
      simp only [Gd.scanE, if_pos hx] at hs
      have := scan_zero l (i + 1) hs j (by simpa using h)
      have e : i + 1 + j = i + (j + 1) := by omega
      rw [e] at this
      exact this
theorem item_zero {i : Nat} {x : Gd.It} (h : Gd.itemE i x = 0) : x.num = (i : Int) + 1 ∧ (0 ≤ x.kind ∧ x.kind < 16) ∧ ((x.con = 0 ∧ 0 ≤ x.acc ∧ x.acc < 64) ∨ (0 < x.con ∧ x.acc = -1)) := by
  unfold Gd.itemE at h
  split at h
  · omega
  rename_i h1
  split at h
  · omega
  rename_i h2
  split at h
  · omega
  rename_i h3
  refine ⟨by omega, by simpa [Gd.kindF] using h2, ?_⟩
  simp only [not_or, not_and, Bool.not_eq_false] at h3
  by_cases hc : 0 < x.con
  · have := h3.2.1 hc
    exact .inr ⟨hc, by simpa using this⟩
  · have := (Gd.acc_iff _).1 (h3.2.2 hc)
    exact .inl ⟨by omega, this⟩
theorem load_gi {lim : Int} {rows : List Gd.It} (h : Gd.loadE lim rows = 0) : Gd.GI lim rows := by
  unfold Gd.loadE at h
  split at h
  · rename_i h1
    split at h
    · omega
    · rename_i h2
      have key := scan_zero rows 0 h
      have each : ∀ x ∈ rows, (0 ≤ x.kind ∧ x.kind < 16) ∧ ((x.con = 0 ∧ 0 ≤ x.acc ∧ x.acc < 64) ∨ (0 < x.con ∧ x.acc = -1)) := fun x hx => by
        obtain ⟨j, hj, rfl⟩ := List.getElem_of_mem hx
        exact (item_zero (key j hj)).2
      exact ⟨⟨fun i hi => by have := (item_zero (key i hi)).1; simpa using this, fun x hx => (each x hx).1⟩, by omega, h1.2, fun x hx => (each x hx).2⟩
  · omega
-- bazaar/bazaarlaw17.lent
def h11_0 : HC := (.seq (.reg (.chk none .lenL (.cons (.inp 0) .nil) (.chk none (.slL 2 false true false) (.cons (.inp 2) (.cons (.op .lenL (.cons (.inp 0) .nil)) .nil)) (.done [(1, (.op (.slL 2 false true false) (.cons (.inp 2) (.cons (.op .lenL (.cons (.inp 0) .nil)) .nil))))] none)))) .ret)
@[simp] theorem h11_0_wp {P : Program} {F : PF P} {Q : EX → List Value → World → Prop} {env : List Value} {w : World} : h11_0.wp F Q env w = HC.wp F (.seq (.reg (.chk none .lenL (.cons (.inp 0) .nil) (.chk none (.slL 2 false true false) (.cons (.inp 2) (.cons (.op .lenL (.cons (.inp 0) .nil)) .nil)) (.done [(1, (.op (.slL 2 false true false) (.cons (.inp 2) (.cons (.op .lenL (.cons (.inp 0) .nil)) .nil))))] none)))) .ret) Q env w := rfl
def h11_1 : HC := (.seq (.reg (.chk none (.build #[(.int .i64 0), (.int .u64 0)] [(0, 1), (1, 1)] [0, 1]) (.cons (.cst (.int .i64 (-71))) (.cons (.cst (.int .u64 71)) .nil)) (.eff (.bsl 98 1 2 #[(.int .i64 0), (.int .u64 0)] [0]) (.cons (.op (.build #[(.int .i64 0), (.int .u64 0)] [(0, 1), (1, 1)] [0, 1]) (.cons (.cst (.int .i64 (-71))) (.cons (.cst (.int .u64 71)) .nil))) .nil) (.eff (.app 41 41 98 2 16 (.agg #[(.int .i64 0), (.int .u64 0)])) (.cons (.inp 2) (.cons (.bv 0) .nil)) (.done [(2, (.bv 1))] none))))) h11_0)
@[simp] theorem h11_1_wp {P : Program} {F : PF P} {Q : EX → List Value → World → Prop} {env : List Value} {w : World} : h11_1.wp F Q env w = HC.wp F (.seq (.reg (.chk none (.build #[(.int .i64 0), (.int .u64 0)] [(0, 1), (1, 1)] [0, 1]) (.cons (.cst (.int .i64 (-71))) (.cons (.cst (.int .u64 71)) .nil)) (.eff (.bsl 98 1 2 #[(.int .i64 0), (.int .u64 0)] [0]) (.cons (.op (.build #[(.int .i64 0), (.int .u64 0)] [(0, 1), (1, 1)] [0, 1]) (.cons (.cst (.int .i64 (-71))) (.cons (.cst (.int .u64 71)) .nil))) .nil) (.eff (.app 41 41 98 2 16 (.agg #[(.int .i64 0), (.int .u64 0)])) (.cons (.inp 2) (.cons (.bv 0) .nil)) (.done [(2, (.bv 1))] none))))) h11_0) Q env w := rfl
def h11_2 : HC := (.reg (.chk none (.bin .add) (.cons (.inp 3) (.cons (.cst (.int .i64 1)) .nil)) (.done [(3, (.op (.bin .add) (.cons (.inp 3) (.cons (.cst (.int .i64 1)) .nil))))] none)))
@[simp] theorem h11_2_wp {P : Program} {F : PF P} {Q : EX → List Value → World → Prop} {env : List Value} {w : World} : h11_2.wp F Q env w = HC.wp F (.reg (.chk none (.bin .add) (.cons (.inp 3) (.cons (.cst (.int .i64 1)) .nil)) (.done [(3, (.op (.bin .add) (.cons (.inp 3) (.cons (.cst (.int .i64 1)) .nil))))] none))) Q env w := rfl
def h11_3 : HC := (.regq (some 1) (.chk none (.idxL 2) (.cons (.inp 0) (.cons (.inp 3) .nil)) (.chk none (.fld 0) (.cons (.op (.idxL 2) (.cons (.inp 0) (.cons (.inp 3) .nil))) .nil) (.eff (.ld false 1) (.cons (.op (.fld 0) (.cons (.op (.idxL 2) (.cons (.inp 0) (.cons (.inp 3) .nil))) .nil)) .nil) (.chk none (.idxL 2) (.cons (.inp 0) (.cons (.inp 3) .nil)) (.chk none (.fld 1) (.cons (.op (.idxL 2) (.cons (.inp 0) (.cons (.inp 3) .nil))) .nil) (.eff (.ld false 1) (.cons (.op (.fld 1) (.cons (.op (.idxL 2) (.cons (.inp 0) (.cons (.inp 3) .nil))) .nil)) .nil) (.chk none (.build #[(.int .i64 0), (.int .u64 0)] [(0, 1), (1, 1)] [0, 1]) (.cons (.bv 0) (.cons (.bv 1) .nil)) (.eff (.bsl 98 1 2 #[(.int .i64 0), (.int .u64 0)] [0]) (.cons (.op (.build #[(.int .i64 0), (.int .u64 0)] [(0, 1), (1, 1)] [0, 1]) (.cons (.bv 0) (.cons (.bv 1) .nil))) .nil) (.eff (.app 41 41 98 2 16 (.agg #[(.int .i64 0), (.int .u64 0)])) (.cons (.inp 2) (.cons (.bv 2) .nil)) (.done [(2, (.bv 3))] none)))))))))))
@[simp] theorem h11_3_wp {P : Program} {F : PF P} {Q : EX → List Value → World → Prop} {env : List Value} {w : World} : h11_3.wp F Q env w = HC.wp F (.regq (some 1) (.chk none (.idxL 2) (.cons (.inp 0) (.cons (.inp 3) .nil)) (.chk none (.fld 0) (.cons (.op (.idxL 2) (.cons (.inp 0) (.cons (.inp 3) .nil))) .nil) (.eff (.ld false 1) (.cons (.op (.fld 0) (.cons (.op (.idxL 2) (.cons (.inp 0) (.cons (.inp 3) .nil))) .nil)) .nil) (.chk none (.idxL 2) (.cons (.inp 0) (.cons (.inp 3) .nil)) (.chk none (.fld 1) (.cons (.op (.idxL 2) (.cons (.inp 0) (.cons (.inp 3) .nil))) .nil) (.eff (.ld false 1) (.cons (.op (.fld 1) (.cons (.op (.idxL 2) (.cons (.inp 0) (.cons (.inp 3) .nil))) .nil)) .nil) (.chk none (.build #[(.int .i64 0), (.int .u64 0)] [(0, 1), (1, 1)] [0, 1]) (.cons (.bv 0) (.cons (.bv 1) .nil)) (.eff (.bsl 98 1 2 #[(.int .i64 0), (.int .u64 0)] [0]) (.cons (.op (.build #[(.int .i64 0), (.int .u64 0)] [(0, 1), (1, 1)] [0, 1]) (.cons (.bv 0) (.cons (.bv 1) .nil))) .nil) (.eff (.app 41 41 98 2 16 (.agg #[(.int .i64 0), (.int .u64 0)])) (.cons (.inp 2) (.cons (.bv 2) .nil)) (.done [(2, (.bv 3))] none))))))))))) Q env w := rfl
def h11_4 : HC := (.seq (.block 1 h11_3) h11_2)
@[simp] theorem h11_4_wp {P : Program} {F : PF P} {Q : EX → List Value → World → Prop} {env : List Value} {w : World} : h11_4.wp F Q env w = HC.wp F (.seq (.block 1 h11_3) h11_2) Q env w := rfl
def h11_5 : HC := (.seq (.br (.chk none .lenL (.cons (.inp 0) .nil) (.chk none (.bin .lss) (.cons (.inp 3) (.cons (.op .lenL (.cons (.inp 0) .nil)) .nil)) (.done [] (some (.op (.bin .lss) (.cons (.inp 3) (.cons (.op .lenL (.cons (.inp 0) .nil)) .nil))))))) .skip (.exit 0)) h11_4)
@[simp] theorem h11_5_wp {P : Program} {F : PF P} {Q : EX → List Value → World → Prop} {env : List Value} {w : World} : h11_5.wp F Q env w = HC.wp F (.seq (.br (.chk none .lenL (.cons (.inp 0) .nil) (.chk none (.bin .lss) (.cons (.inp 3) (.cons (.op .lenL (.cons (.inp 0) .nil)) .nil)) (.done [] (some (.op (.bin .lss) (.cons (.inp 3) (.cons (.op .lenL (.cons (.inp 0) .nil)) .nil))))))) .skip (.exit 0)) h11_4) Q env w := rfl
def h11_6 : HC := (.loop h11_5)
@[simp] theorem h11_6_wp {P : Program} {F : PF P} {Q : EX → List Value → World → Prop} {env : List Value} {w : World} : h11_6.wp F Q env w = HC.wp F (.loop h11_5) Q env w := rfl
def h11_7 : HC := (.seq (.block 0 h11_6) h11_1)
@[simp] theorem h11_7_wp {P : Program} {F : PF P} {Q : EX → List Value → World → Prop} {env : List Value} {w : World} : h11_7.wp F Q env w = HC.wp F (.seq (.block 0 h11_6) h11_1) Q env w := rfl
def h11_8 : HC := (.seq (.reg (.done [(3, (.cst (.int .i64 0)))] none)) h11_7)
@[simp] theorem h11_8_wp {P : Program} {F : PF P} {Q : EX → List Value → World → Prop} {env : List Value} {w : World} : h11_8.wp F Q env w = HC.wp F (.seq (.reg (.done [(3, (.cst (.int .i64 0)))] none)) h11_7) Q env w := rfl
def h11_9 : HC := (.seq (.reg (.done [(2, (.cst (.slice none 0 0)))] none)) h11_8)
@[simp] theorem h11_9_wp {P : Program} {F : PF P} {Q : EX → List Value → World → Prop} {env : List Value} {w : World} : h11_9.wp F Q env w = HC.wp F (.seq (.reg (.done [(2, (.cst (.slice none 0 0)))] none)) h11_8) Q env w := rfl
def l11 : Lifted := ⟨[0, 2, 3, 4], 33, [.slot 1], (.seq (.reg (.done [(1, (.cst (.slice none 0 0)))] none)) h11_9)⟩
theorem l11_ok : liftFn E2 11 400 = some l11 := by kernel_rfl

-- bazaar/bazaarlaw17.wished
-- bazaar/bazaarlaw17.stay
/-- lent rows: the mark behind them -/
def rmark : Rw := (-71, 71)
def lentA (v : Value) (l : List Rw) : Asn := fun h => ∃ g cap, v = .slice (some ⟨g, 0, none⟩) l.length cap ∧ l.length + 1 ≤ cap ∧ cap ≤ maxLen ∧ own 98 2 (.slice (some ⟨g, 0, none⟩) (l.length + 1) cap) (l.length + 1) (rflat (l ++ [rmark])) h
theorem lopen {w0 w : World} {A : Asn} {v : Value} {l : List Rw} (s : St w0 (A * lentA v l) w) : ∃ g cap, v = .slice (some ⟨g, 0, none⟩) l.length cap ∧ l.length + 1 ≤ cap ∧ cap ≤ maxLen ∧ St w0 (A * own 98 2 (.slice (some ⟨g, 0, none⟩) (l.length + 1) cap) (l.length + 1) (rflat (l ++ [rmark]))) w := by
  obtain ⟨g', h1, h2, h3, d, e, a, g, cap, rfl, hc, hm, b⟩ := s.holds
  exact ⟨g, cap, rfl, hc, hm, s.of ⟨g', h1, h2, h3, d, e, a, b⟩⟩
theorem lclose {w0 w : World} {A : Asn} {g cap : Nat} {l : List Rw} (hc : l.length + 1 ≤ cap) (hm : cap ≤ maxLen) (s : St w0 (A * own 98 2 (.slice (some ⟨g, 0, none⟩) (l.length + 1) cap) (l.length + 1) (rflat (l ++ [rmark]))) w) : St w0 (A * lentA (.slice (some ⟨g, 0, none⟩) l.length cap) l) w :=
  s.mono (sep_mono (fun _ h => h) fun h hh => ⟨g, cap, rfl, hc, hm, hh⟩)
theorem rflat_app (a b : List Rw) : rflat (a ++ b) = rflat a ++ rflat b := by simp [rflat]
theorem lent_own {w0 w : World} {A : Asn} {v : Value} {l : List Rw} (s : St w0 (A * lentA v l) w) : St w0 (A * own 98 2 v l.length (rflat l)) w := by
  obtain ⟨g, cap, rfl, hc, hm, s1⟩ := lopen s
  rw [rflat_app] at s1
  exact s1.mono (sep_mono (fun _ h => h) fun h hh => own_less (by rw [rflat_len]) hh)
theorem lent_row {w0 w : World} {A : Asn} {v : Value} {l : List Rw} (s : St w0 (A * lentA v l) w) : Row w0 (A * lentA v l) v l.length 2 (rflat l) :=
  (row_own (lent_own s)).mono fun w s => lent_own s
/-- a slice laid; it appended -/
def clsB (X : World → Prop) (Y : Nat → World → Prop) (Z : Value → World → Prop) : List Value → World → Prop
  | [], w => X w
  | [v], w => ∃ c, v = .slice (some ⟨c, 0, none⟩) 1 1 ∧ Y c w
  | _ :: v :: _, w => Z v w
theorem clsB_pre {X : World → Prop} {Y : Nat → World → Prop} {Z : Value → World → Prop} {vs : List Value} {w : World} (he : era 1 vs = era 1 []) (h : clsB X Y Z vs w) : X w := by
  cases vs with
  | nil => exact h
  | cons _ _ => simp [era] at he
theorem lent_spec (l : List Rw) (v : Value) (w0 w : World) (A : Asn) (hl : l.length ≤ 1048576) (hrow : Row w0 A v l.length 2 (rflat l)) (s : St w0 A w) :
    CallW Try.prog 11 [v] (fun r w' => St w0 (A * lentA r l) w') w := by
  obtain ⟨ra, rcap, rfl⟩ := hrow.val
  refine callW_of_lift l11_ok (by simp [l11]) ?_
  simp [l11]
  refine loopI (fun env w' => ∃ (i : Nat) (fv : Value), env = [.slice ra l.length rcap, .slice none 0 0, fv, .int .i64 i] ∧ i ≤ l.length ∧ St w0 (A * own 98 2 fv i (rflat (l.take i))) w')
    (fun env _ => l.length - slotN env 3) ⟨0, _, rfl, by omega, s.own_nil 98 2⟩ ?_
  rintro LQ env w' ⟨i, fv, rfl, hi, s1⟩ hN hX hR
  simp
  refine cndI (fun hc => ?_) (fun hc => ?_)
  · simp at hc
    obtain ⟨g, o, cap', hv, hcell⟩ := hrow.at (by omega)
    cases hv
    simp [hc]
    refine regmI (clsB (St w0 (A * own 98 2 fv i (rflat (l.take i)))) (fun c => St w0 (A * own 98 2 fv i (rflat (l.take i)) * pt c (.cells l[i].cs.toArray 98 (0, 0)))) (fun v => St w0 (A * own 98 2 v (i + 1) (rflat (l.take (i + 1)))))) s1.drew ?_
    simp [hc]
    refine effm_ldc (v := .int .i64 l[i].1) (fun vs' w he hw => by have := hcell w (clsB_pre he hw).drop (i * 2 + 0) _ (rflat_at hc 0 _ rfl); simpa using this) ?_
    simp [hc]
    refine effm_ldc (v := .int .u64 l[i].2) (fun vs' w he hw => by have := hcell w (clsB_pre he hw).drop (i * 2 + 1) _ (rflat_at hc 1 _ rfl); rw [← Nat.add_assoc] at this; exact this) ?_
    simp [Instr.fill, Value.cells]
    refine effm_mv rfl (fun w hw => eff_bslV (v := .agg l[i].cs.toArray) hw rfl fun c w' h => ⟨c, rfl, h⟩) (fun sl hsl => ?_)
    obtain ⟨w7, c, rfl, _⟩ := hsl
    simp
    refine effm_mv rfl (fun w hw => ?_) (fun v' hv' => ?_)
    · obtain ⟨c', e, hw⟩ := hw
      cases e
      refine eff_app (m := 1) (news := l[i].cs) (St.swap hw) rfl (St.cells_look hw) (rw_one _) (by decide) rfl (by unfold maxLen; omega) (by omega) fun v'' w' h => ?_
      have e1 : rflat (l.take i) ++ l[i].cs = rflat (l.take (i + 1)) := by rw [List.take_succ_eq_append_getElem hc, rflat_app]; simp [rflat]
      rw [e1] at h
      exact h.swap.drop
    simp
    intro w9 h9
    try simp (disch := omega) only [wrap64]
    exact hN _ _ ⟨i + 1, _, by simp, by omega, h9⟩ (by simp [slotN]; omega)
  · simp at hc
    simp
    refine hX _ _ _ ?_
    have : i = l.length := by omega
    subst this
    rw [List.take_length] at s1
    simp [Instr.fill, Value.cells]
    refine eff_bslV (v := .agg rmark.cs.toArray) s1 rfl fun c w2 s2 => ?_
    simp
    refine eff_app (m := 1) (news := rmark.cs) s2.swap rfl s2.cells_look (rw_one _) (by decide) rfl (by unfold maxLen; omega) (by omega) fun fv2 w3 s3 => ?_
    have e1 : rflat l ++ rmark.cs = rflat (l ++ [rmark]) := by rw [rflat_app]; simp [rflat]
    rw [e1] at s3
    obtain ⟨g, cap, rfl, hcap, _⟩ := s3.own_at (by omega)
    have hle : l.length ≤ cap := by omega
    simp [hle, Pu.add_zero]
    have hm : cap ≤ maxLen := by
      rcases s3.own.2 with ⟨h, _⟩ | ⟨_, _, _, h, _, hm, _⟩
      · cases h
      · cases h; exact hm
    exact lclose hcap hm s3.swap.drop
/-- an entry with wishes in memory of their own -/
abbrev wshA (g : Nat) : Asn := pt g (.cells #[.int .i64 5, .int .i64 6, .int .i64 7, .int .i64 (-71)] 3 (0, 0))
end Go.HL.Es

namespace Go.HL.Pu
open Go.HL Go.HL.Nm Go.Proofs
set_option maxRecDepth 4000
set_option linter.unusedVariables false
theorem open_u64 {a : Int} (h : (Lit.int IntKind.u64 a).wf = true) : 0 ≤ a ∧ a ≤ 18446744073709551615 := by simpa [Lit.wf, IntKind.min, IntKind.max, IntKind.signed, IntKind.bits] using h
end Go.HL.Pu

namespace Go.HL.Es
open Go.HL Go.Proofs Go.Deep
set_option maxRecDepth 4000
set_option linter.unusedSimpArgs false
set_option linter.unusedVariables false
theorem open_i64 {m : Int} (w : (Lit.int .i64 m).wf = true) : -9223372036854775808 ≤ m ∧ m ≤ 9223372036854775807 := by
  simpa [Lit.wf, IntKind.min, IntKind.max, IntKind.signed, IntKind.bits] using w
theorem open_u64 {m : Int} (w : (Lit.int .u64 m).wf = true) : 0 ≤ m ∧ m ≤ 18446744073709551615 := by
  simpa [Lit.wf, IntKind.min, IntKind.max, IntKind.signed, IntKind.bits] using w
/-- an entry with its price and its wishes -/
structure Ew where
  x : Et
  pr : Int
  wv : Value
def Ew.cs (e : Ew) : List Value := e.x.cs e.pr e.wv
def eflat (l : List Ew) : List Value := l.flatMap Ew.cs
theorem eflat_at {l : List Ew} {i : Nat} (h : i < l.length) : ∀ j u, (l[i].cs)[j]? = some u → (eflat l)[i * 5 + j]? = some u := by
  intro j u hu
  have hj : j < 5 := (List.getElem?_eq_some_iff.1 hu).1
  unfold eflat
  rw [flat_get Ew.cs 5 (fun _ => rfl) l i j h hj]
  exact hu
section
variable {H : Type} {enc : TypeId × Value → H} {W : World} {base : Nat} {spare : Nat → Bool} {held : Bool} {fuel : Nat} {cs : List Value} {x : DataW H × List MemPlace}
theorem open_ints (h : DataW.trod enc Try.prog W base spare held fuel 44 cs = some x) : ∃ (v : Value) (l : List Int), cs = [v] ∧ v.oneCell' = true ∧ Row W (old W) v l.length 1 (Gd.ints l) := by
  obtain ⟨v, l, h1, h2, h3, h4, h5, h6⟩ := open_erows (α := Int) (fun x => [Value.int .i64 x]) 1 (fun _ => True) (fun _ => 0) Try.underlying44 (by kernel_rfl) (by decide) (fun _ => rfl) (fun n cs x hx => by
    obtain ⟨m, e, _, _⟩ := DataW.trod_int Try.underlying3 hx
    exact ⟨m, e, trivial, Nat.zero_le _⟩) h
  refine ⟨v, l, h1, h2, ?_⟩
  have : l.flatMap (fun x => [Value.int .i64 x]) = Gd.ints l := by
    clear h4 h3 h5 h6
    induction l with
    | nil => rfl
    | cons a l ih => simp [Gd.ints, List.flatMap_cons, ih]
  rw [this] at h4
  exact h4
theorem open_accF (h : DataW.trod enc Try.prog W base spare held fuel 22 cs = some x) :
    ∃ (v : Value) (rows : List Pu.Ac), cs = [v] ∧ Row W (old W) v rows.length 2 (Pu.flat rows) ∧ rows.length ≤ Go.Proofs.Ytiokklaedanjbaa.Rows.uptoBulk x.1 ∧ ∀ r ∈ rows, r.name.length ≤ Go.Proofs.Ytiokklaedanjbaa.Rows.uptoBulk x.1 ∧ 0 ≤ r.coins ∧ r.coins ≤ 18446744073709551615 := by
  obtain ⟨v, rows, h1, h2, h3, h4, h5, h6⟩ := open_erows (α := Pu.Ac) Pu.Ac.cs 2 (fun x => 0 ≤ x.coins ∧ x.coins ≤ 18446744073709551615) (fun x => x.name.length) Try.underlying22 (by kernel_rfl) (by decide) (fun _ => rfl) (fun n cs x hx => by
    obtain ⟨hl, n', hf⟩ := open_field Try.underlying76 hx
    have hl2 : cs.length = 2 := hl.trans (by kernel_rfl)
    match cs, hl2 with
    | [c0, c1], _ =>
      obtain ⟨y0, k0, b0⟩ := hf 0 _ rfl
      obtain ⟨y1, k1, _⟩ := hf 1 _ rfl
      obtain ⟨m0, e0, x0, _⟩ := DataW.trod_string Try.underlying9 k0
      obtain ⟨m1, e1, x1, w1⟩ := DataW.trod_int Try.underlying23 k1
      have f0 : [c0] = [Value.string m0] := e0
      have f1 : [c1] = [Value.int .u64 m1] := e1
      cases f0; cases f1
      refine ⟨⟨m0.data.toList, m1⟩, by simp only [Pu.Ac.cs]; rw [← mk_eta], open_u64 w1, Nat.le_trans ?_ b0⟩
      rw [x0]
      show m0.data.toList.length ≤ Go.Proofs.Ytiokklaedanjbaa.Rows.uptoBulk (DataW.lit (.string m0.data.toList))
      rw [bulk_string]; omega) h
  exact ⟨v, rows, h1, h4, h5, fun x hx => ⟨h6 x hx, h3 x hx⟩⟩
theorem open_itemF (h : DataW.trod enc Try.prog W base spare held fuel 24 cs = some x) :
    ∃ (v : Value) (rows : List Gd.It), cs = [v] ∧ Row W (old W) v rows.length 4 (Gd.flat rows) ∧ rows.length ≤ Go.Proofs.Ytiokklaedanjbaa.Rows.uptoBulk x.1 := by
  obtain ⟨v, rows, h1, h2, _, h3, h4, _⟩ := open_erows (α := Gd.It) Gd.It.cs 4 (fun _ => True) (fun _ => 0) Try.underlying24 (by kernel_rfl) (by decide) (fun _ => rfl) (fun n cs x hx => by
    obtain ⟨row, hr, hc⟩ := open_istruct Try.underlying72 (by kernel_rfl) (by kernel_rfl) hx
    match row, hr with
    | [a, b, c, d], _ => exact ⟨⟨a, b, c, d⟩, hc, trivial, Nat.zero_le _⟩) h
  exact ⟨v, rows, h1, h3, h4⟩
theorem open_rowF (h : DataW.trod enc Try.prog W base spare held fuel 25 cs = some x) :
    ∃ (v : Value) (rows : List Rw), cs = [v] ∧ Row W (old W) v rows.length 2 (rflat rows) ∧ rows.length ≤ Go.Proofs.Ytiokklaedanjbaa.Rows.uptoBulk x.1 ∧ ∀ r ∈ rows, (-9223372036854775808 ≤ r.1 ∧ r.1 < 9223372036854775808) ∧ 0 ≤ r.2 ∧ r.2 < 18446744073709551616 := by
  obtain ⟨v, rows, h1, h2, h3, h4, h5, _⟩ := open_erows (α := Rw) Rw.cs 2 (fun r => (-9223372036854775808 ≤ r.1 ∧ r.1 < 9223372036854775808) ∧ 0 ≤ r.2 ∧ r.2 < 18446744073709551616) (fun _ => 0) Try.underlying25 (by kernel_rfl) (by decide) (fun _ => rfl) (fun n cs x hx => by
    obtain ⟨hl, n', hf⟩ := open_field Try.underlying100 hx
    have hl2 : cs.length = 2 := hl.trans (by kernel_rfl)
    match cs, hl2 with
    | [c0, c1], _ =>
      obtain ⟨y0, k0, _⟩ := hf 0 _ rfl
      obtain ⟨y1, k1, _⟩ := hf 1 _ rfl
      obtain ⟨m0, e0, x0, w0⟩ := DataW.trod_int Try.underlying3 k0
      obtain ⟨m1, e1, x1, w1⟩ := DataW.trod_int Try.underlying23 k1
      have f0 : [c0] = [Value.int .i64 m0] := e0
      have f1 : [c1] = [Value.int .u64 m1] := e1
      cases f0; cases f1
      have h0 := open_i64 w0
      have h1 := open_u64 w1
      exact ⟨(m0, m1), rfl, ⟨⟨h0.1, by simp only; omega⟩, h1.1, by simp only; omega⟩, Nat.zero_le _⟩) h
  exact ⟨v, rows, h1, h4, h5, h3⟩
theorem open_entF (h : DataW.trod enc Try.prog W base spare held fuel 28 cs = some x) :
    ∃ (v : Value) (l : List Ew), cs = [v] ∧ Row W (old W) v l.length 5 (eflat l) ∧ l.length ≤ Go.Proofs.Ytiokklaedanjbaa.Rows.uptoBulk x.1 ∧ ∀ e ∈ l, e.wv.oneCell' = true ∧ 0 ≤ e.x.coins ∧ e.x.coins < 18446744073709551616 := by
  obtain ⟨v, rows, h1, h2, h3, h4, h5, _⟩ := open_erows (α := Ew) Ew.cs 5 (fun e => e.wv.oneCell' = true ∧ 0 ≤ e.x.coins ∧ e.x.coins < 18446744073709551616) (fun _ => 0) Try.underlying28 (by kernel_rfl) (by decide) (fun _ => rfl) (fun n cs x hx => by
    obtain ⟨hl, n', hf⟩ := open_field Try.underlying46 hx
    have hl2 : cs.length = 5 := hl.trans (by kernel_rfl)
    match cs, hl2 with
    | [c0, c1, c2, c3, c4], _ =>
      obtain ⟨y0, k0, _⟩ := hf 0 _ rfl
      obtain ⟨y1, k1, _⟩ := hf 1 _ rfl
      obtain ⟨y2, k2, _⟩ := hf 2 _ rfl
      obtain ⟨y3, k3, _⟩ := hf 3 _ rfl
      obtain ⟨y4, k4, _⟩ := hf 4 _ rfl
      obtain ⟨m0, e0, x0, w0⟩ := DataW.trod_int Try.underlying3 k0
      obtain ⟨m1, e1, x1, w1⟩ := DataW.trod_int Try.underlying3 k1
      obtain ⟨m2, e2, x2, w2⟩ := DataW.trod_int Try.underlying23 k2
      obtain ⟨m3, e3, x3, w3⟩ := DataW.trod_int Try.underlying23 k3
      obtain ⟨wv, l, e4, o4, _⟩ := open_ints k4
      have f0 : [c0] = [Value.int .i64 m0] := e0
      have f1 : [c1] = [Value.int .i64 m1] := e1
      have f2 : [c2] = [Value.int .u64 m2] := e2
      have f3 : [c3] = [Value.int .u64 m3] := e3
      have f4 : [c4] = [wv] := e4
      cases f0; cases f1; cases f2; cases f3; cases f4
      have h2 := open_u64 w2
      exact ⟨⟨⟨m0, m1, m2⟩, m3, c4⟩, rfl, ⟨o4, h2.1, by simp only; omega⟩, Nat.zero_le _⟩) h
  exact ⟨v, rows, h1, h4, h5, h3⟩
end
/-- a start -/
structure Begin where
  lim : Int
  va : Value
  accs : List Pu.Ac
  sup : Int
  most : Int
  vi : Value
  its : List Gd.It
  vr : Value
  rows : List Rw
def Begin.cs (b : Begin) : List Value := [.int .i64 b.lim, b.va, .int .u64 b.sup, .int .i64 b.most, b.vi, b.vr]
structure Begin.ok (b : Begin) (w0 : World) (A : Asn) : Prop where
  lim : -9223372036854775808 ≤ b.lim ∧ b.lim ≤ 9223372036854775807
  most : -9223372036854775808 ≤ b.most ∧ b.most ≤ 9223372036854775807
  sup : 0 ≤ b.sup ∧ b.sup < 18446744073709551616
  accs : Row w0 A b.va b.accs.length 2 (Pu.flat b.accs)
  its : Row w0 A b.vi b.its.length 4 (Gd.flat b.its)
  rows : Row w0 A b.vr b.rows.length 2 (rflat b.rows)
  laccs : b.accs.length ≤ 1048576
  lits : b.its.length ≤ 1048576
  lrows : b.rows.length ≤ 1048576
  each : ∀ x ∈ b.accs, x.name.length ≤ 1048576 ∧ 0 ≤ x.coins ∧ x.coins < 18446744073709551616
  eachR : ∀ r ∈ b.rows, (-9223372036854775808 ≤ r.1 ∧ r.1 < 9223372036854775808) ∧ 0 ≤ r.2 ∧ r.2 < 18446744073709551616
theorem open_start {H : Type} {enc : TypeId × Value → H} {W : World} {spare : Nat → Bool} {v : Value} {d : DataW H} {ps : List MemPlace} (h : DataW.Trod enc Try.prog W 0 spare true 27 v d ps) {base : Nat} (hval : Value.okWide Try.prog W .any base 27 v)
    (hb : Go.Proofs.Ytiokklaedanjbaa.Rows.uptoBulk d ≤ 1048576) : ∃ b : Begin, v = .agg b.cs.toArray ∧ b.ok W (old W) := by
  obtain ⟨cs, rfl, _⟩ := Go.WideShapes.okWide_struct Try.underlying27 hval
  obtain ⟨n, h⟩ := h
  obtain ⟨hl, n', hf⟩ := open_field Try.underlying27 h
  have hl2 : cs.toList.length = 6 := hl.trans (by kernel_rfl)
  obtain ⟨l, rfl⟩ : ∃ l : List Value, cs = l.toArray := ⟨cs.toList, by simp⟩
  simp only [cells_agg] at hf
  have hl2 : l.length = 6 := by simpa using hl2
  match l, hl2 with
  | [c0, c1, c2, c3, c4, c5], _ =>
    obtain ⟨y0, k0, b0⟩ := hf 0 _ rfl
    obtain ⟨y1, k1, b1⟩ := hf 1 _ rfl
    obtain ⟨y2, k2, b2⟩ := hf 2 _ rfl
    obtain ⟨y3, k3, b3⟩ := hf 3 _ rfl
    obtain ⟨y4, k4, b4⟩ := hf 4 _ rfl
    obtain ⟨y5, k5, b5⟩ := hf 5 _ rfl
    obtain ⟨m0, e0, x0, w0⟩ := DataW.trod_int Try.underlying3 k0
    obtain ⟨va, accs, e1, r1, n1, p1⟩ := open_accF k1
    obtain ⟨m2, e2, x2, w2⟩ := DataW.trod_int Try.underlying23 k2
    obtain ⟨m3, e3, x3, w3⟩ := DataW.trod_int Try.underlying3 k3
    obtain ⟨vi, its, e4, r4, n4⟩ := open_itemF k4
    obtain ⟨vr, rows, e5, r5, n5, p5⟩ := open_rowF k5
    have f0 : [c0] = [Value.int .i64 m0] := e0
    have f1 : [c1] = [va] := e1
    have f2 : [c2] = [Value.int .u64 m2] := e2
    have f3 : [c3] = [Value.int .i64 m3] := e3
    have f4 : [c4] = [vi] := e4
    have f5 : [c5] = [vr] := e5
    cases f0; cases f1; cases f2; cases f3; cases f4; cases f5
    have h2 := open_u64 w2
    refine ⟨⟨m0, c1, accs, m2, m3, c4, its, c5, rows⟩, rfl, open_i64 w0, open_i64 w3, ⟨h2.1, by simp only; omega⟩, r1, r4, r5, ?_, ?_, ?_, fun x hx => ?_, p5⟩
    · simp only at *; omega
    · simp only at *; omega
    · simp only at *; omega
    · have := p1 x hx; simp only at *; omega
theorem open_ents {H : Type} {enc : TypeId × Value → H} {W : World} {spare : Nat → Bool} {v : Value} {d : DataW H} {ps : List MemPlace} (h : DataW.Trod enc Try.prog W 0 spare true 28 v d ps) {base : Nat} (hval : Value.okWide Try.prog W .any base 28 v) :
    ∃ l : List Ew, Row W (old W) v l.length 5 (eflat l) ∧ l.length ≤ Go.Proofs.Ytiokklaedanjbaa.Rows.uptoBulk d ∧ ∀ e ∈ l, e.wv.oneCell' = true ∧ 0 ≤ e.x.coins ∧ e.x.coins < 18446744073709551616 := by
  obtain ⟨va, vl, vc, rfl⟩ := Go.WideShapes.okWide_slice Try.underlying28 hval
  obtain ⟨n, h⟩ := h
  obtain ⟨v, l, h1, h2, h3, h4⟩ := open_entF h
  have h1 : [Value.slice va vl vc] = [v] := by simpa [Value.cells] using h1
  cases h1
  exact ⟨l, h2, h3, h4⟩
end Go.HL.Es

namespace Go.HL.Es
open Go.HL Go.Proofs
set_option maxRecDepth 4000
set_option linter.unusedSimpArgs false
set_option linter.unusedVariables false
/-- a list that is told: its slice, its numbers -/
abbrev Tl := Value × List Int
def tlA (_ : Nat) (t : Tl) : Asn := own 3 1 t.1 t.2.length (Gd.ints t.2)
def heads (T : Nat → Tl) (n : Nat) : List Value := (List.range n).map fun j => (T j).1
/-- the copies, each twice -/
def twice (U : Nat → Tl) (n : Nat) : List Value := (List.range n).map fun j => (U (j / 2)).1
theorem load_ei {lp lg : Int} {P : Pu.Ps} {its : List Gd.It} {rows : List Rw} (hP : Pu.PI lp P) (hG : Gd.GI lg its) (h : escE rows P.held = 0) : EI lp lg ⟨P, its, rows⟩ := by
  unfold escE at h
  split at h
  · rename_i h1
    split at h
    · rename_i h2; exact ⟨hP, hG, h1, h2⟩
    · cases h
  · cases h
theorem getF_accs {lim : Int} {accs : List Pu.Ac} {sup : Int} (h : (Pu.loadF lim accs sup).1 = 0) (hs : 0 ≤ sup) (hx : ∀ x ∈ accs, x.name.length ≤ 1048576 ∧ 0 ≤ x.coins ∧ x.coins < 18446744073709551616) : Pu.PI lim (Pu.loadF lim accs sup).2 :=
  (Pu.load_PI h hs (fun x hx' => (hx x hx').2.1) (fun i h => (hx _ (List.getElem_mem h)).1)).2
-- bazaar/bazaarlaw17.EscrowOwn
/-- the frame of the walk's loop -/
abbrev ownA (A : Asn) (p g s : Nat) (lg : Int) (E : Eco) (T U : Nat → Tl) (i : Nat) (all was : Value) : Asn :=
  A * ecoA p g s lg E * bigA tlA T (2 * i) * bigA tlA U i * own 44 1 all (2 * i) (heads T (2 * i)) * own 44 1 was (2 * i) (twice U (2 * i))
theorem own_nilS {w0 w : World} {A : Asn} (s : St w0 A w) (e size : Nat) : St w0 (A * own e size (.slice none 0 0) 0 []) w := s.own_nil e size
end Go.HL.Es

namespace Go.HL.Es
open Go.HL Go.Proofs
set_option maxRecDepth 4000
set_option linter.unusedSimpArgs false
set_option linter.unusedVariables false
/-- the coins of gifts; those to one account -/
def tot : List Gf → Int
  | [] => 0
  | x :: t => x.coins + tot t
def toK (k : Int) : List Gf → Int
  | [] => 0
  | x :: t => (if x.to = k then x.coins else 0) + toK k t
theorem tot_app : ∀ a b : List Gf, tot (a ++ b) = tot a + tot b
  | [], b => by simp [tot]
  | x :: t, b => by simp only [List.cons_append, tot, tot_app t b]; omega
theorem toK_app (k : Int) : ∀ a b : List Gf, toK k (a ++ b) = toK k a + toK k b
  | [], b => by simp [toK]
  | x :: t, b => by simp only [List.cons_append, toK, toK_app k t b]; omega
theorem tot_perm {a b : List Gf} (h : a.Perm b) : tot a = tot b := by
  induction h with
  | nil => rfl
  | cons x _ ih => simp only [tot, ih]
  | swap x y l => simp only [tot]; omega
  | trans _ _ h1 h2 => exact h1.trans h2
theorem toK_perm (k : Int) {a b : List Gf} (h : a.Perm b) : toK k a = toK k b := by
  induction h with
  | nil => rfl
  | cons x _ ih => simp only [toK, ih]
  | swap x y l => simp only [toK]; omega
  | trans _ _ h1 h2 => exact h1.trans h2
theorem tot_nonneg {l : List Gf} (h : ∀ x ∈ l, 0 ≤ x.coins) : 0 ≤ tot l := by
  induction l with
  | nil => exact Int.le_refl _
  | cons x t ih =>
    have := ih fun y hy => h y (.tail _ hy)
    have := h x (.head _)
    simp only [tot]; omega
/-- what is in the contract, and to whom it goes back -/
structure J (c : Int) (E0 E : Eco) (B : List Gf) : Prop where
  len : E.P.rows.length = E0.P.rows.length
  name : ∀ k, k < E0.P.rows.length → (E.P.rows.getD k ⟨[], 0⟩).name = (E0.P.rows.getD k ⟨[], 0⟩).name
  coin : ∀ k, k < E0.P.rows.length → Pu.coin E.P.rows k + toK k B = Pu.coin E0.P.rows k
  cns : cns E.l c = tot B
  ilen : E.its.length = E0.its.length
  free : ∀ i, i < E0.its.length → (∀ x ∈ B, x.item ≠ (i : Int) + 1) → E.its[i]? = E0.its[i]?
  held : ∀ x ∈ B, x.item ≠ 0 → ∃ (i : Nat) (n k : Int), x.item = (i : Int) + 1 ∧ E0.its[i]? = some ⟨n, k, x.to, 0⟩ ∧ E.its[i]? = some ⟨n, k, -1, c⟩
  once : B.Pairwise fun x y => x.item ≠ 0 → x.item ≠ y.item
  each : ∀ x ∈ B, Pu.accE E0.P.rows x.to = 0 ∧ 0 ≤ x.coins ∧ (x.item ≠ 0 ∨ 0 < x.coins)
theorem J.perm {c : Int} {E0 E : Eco} {B B' : List Gf} (h : J c E0 E B) (hp : B.Perm B') : J c E0 E B' where
  len := h.len
  name := h.name
  coin k hk := by rw [← toK_perm k hp]; exact h.coin k hk
  cns := by rw [← tot_perm hp]; exact h.cns
  ilen := h.ilen
  free i hi hx := h.free i hi fun x hx' => hx x (hp.mem_iff.1 hx')
  held x hx := h.held x (hp.mem_iff.2 hx)
  once := (hp.pairwise_iff (fun {x y} hxy hy e => hxy (by rw [← e]; exact hy) e.symm)).1 h.once
  each x hx := h.each x (hp.mem_iff.2 hx)
theorem acc_len {l l' : List Pu.Ac} (h : l.length = l'.length) (n : Int) : Pu.accE l n = Pu.accE l' n := by unfold Pu.accE; rw [h]
theorem getF_at {its : List Gd.It} {i : Nat} {x : Gd.It} (h : its[i]? = some x) : Gd.getF its ((i : Int) + 1) = (x, 0) := by
  obtain ⟨hi, hx⟩ := List.getElem?_eq_some_iff.1 h
  unfold Gd.getF
  rw [if_pos (by omega)]
  have : ((i : Int) + 1).toNat - 1 = i := by omega
  rw [this]
  simp [hi, hx]
/-- the first of them goes back -/
theorem J.give {lp lg c : Int} {E0 E : Eco} {x : Gf} {B : List Gf} (h : J c E0 E (x :: B)) (hE : EI lp lg E) (hc : 1 ≤ c ∧ c < 9223372036854775808) : ∃ E', giveF c x E = (0, E') ∧ J c E0 E' B ∧ EI lp lg E' := by
  obtain ⟨ha0, hc0, _⟩ := h.each x (.head _)
  have ha : Pu.accE E.P.rows x.to = 0 := by rw [acc_len h.len]; exact ha0
  have htot : 0 ≤ tot B := tot_nonneg fun y hy => (h.each y (.tail _ hy)).2.1
  have hcns := h.cns
  simp only [tot] at hcns
  have gv : Gives c x E := by
    refine ⟨get_acc.2 ha, fun hi => ?_, by omega⟩
    obtain ⟨i, n, k, e, _, h2⟩ := h.held x (.head _) hi
    rw [e, getF_at h2]
    exact ⟨rfl, rfl⟩
  have hok := ((give_cases c x E).resolve_right fun q => q.1 gv).2
  have hle := cns_le hE.R c
  have hsum := hE.sum
  have hput := (put_back hE.P ha (c := x.coins) ⟨hc0, by omega⟩).1
  obtain ⟨t, ht, htl⟩ := Pu.acc_in ha
  have e0 : x.to.toNat = t := by omega
  refine ⟨_, hok, ?_, by have := give_ei hE hc hc0 (x := x); rw [hok] at this; exact this⟩
  rw [hput, e0]
  constructor
  · exact (Pu.setC_len _ _ _).trans h.len
  · intro k hk
    have hk' : k < E.P.rows.length := by rw [h.len]; exact hk
    rw [← h.name k hk]
    show ((Pu.setC E.P.rows t (Pu.coin E.P.rows t + x.coins)).getD k ⟨[], 0⟩).name = _
    obtain ⟨hk2, hnm⟩ := Pu.setC_name (l := E.P.rows) (i := t) (k := k) (c := Pu.coin E.P.rows t + x.coins) (by rw [Pu.setC_len]; exact hk')
    simp only [List.getD_eq_getElem?_getD, List.getElem?_eq_getElem hk', List.getElem?_eq_getElem (show k < (Pu.setC E.P.rows t (Pu.coin E.P.rows t + x.coins)).length by rw [Pu.setC_len]; exact hk'), Option.getD_some]
    exact hnm
  · intro k hk
    have := h.coin k hk
    simp only [toK] at this
    show Pu.coin (Pu.setC E.P.rows t (Pu.coin E.P.rows t + x.coins)) k + toK k B = _
    rw [Pu.coin_set htl]
    by_cases ek : k = t
    · subst ek
      rw [if_pos rfl]
      rw [if_pos ht] at this
      omega
    · rw [if_neg ek]
      rw [if_neg (by omega)] at this
      omega
  · show Es.cns (setR c (Es.cns E.l c - x.coins) E.l) c = tot B
    rw [cns_setR hE.R hc (by omega), if_pos rfl]; omega
  · show (if x.item ≠ 0 then (Gd.freeF E.its x.item x.to).2 else E.its).length = _
    split
    · unfold Gd.freeF Gd.putF
      split
      · split
        · split
          · rw [List.length_set]; exact h.ilen
          · exact h.ilen
        · exact h.ilen
      · exact h.ilen
    · exact h.ilen
  all_goals (try exact (List.pairwise_cons.1 h.once).2)
  all_goals (try exact fun y hy => h.each y (.tail _ hy))
  · intro i hi hx
    show (if x.item ≠ 0 then (Gd.freeF E.its x.item x.to).2 else E.its)[i]? = _
    by_cases hi0 : x.item = 0
    · rw [if_neg (by simp [hi0])]
      refine h.free i hi fun y hy => ?_
      rcases List.mem_cons.1 hy with rfl | hy
      · omega
      · exact hx y hy
    · rw [if_pos hi0]
      obtain ⟨j, n, k, ej, h1, h2⟩ := h.held x (.head _) hi0
      have hfr : (Gd.freeF E.its x.item x.to).2 = E.its.set j ⟨n, k, x.to, 0⟩ := by
        obtain ⟨hj, hxj⟩ := List.getElem?_eq_some_iff.1 h2
        unfold Gd.freeF Gd.putF
        have e1 : ((j : Int) + 1).toNat - 1 = j := by omega
        rw [if_pos (acc_of hE.P ha), ej, if_pos (by omega), e1]
        have e2 : E.its.getD j ⟨0, 0, 0, 0⟩ = ⟨n, k, -1, c⟩ := by simp [hj, hxj]
        rw [e2, if_pos (by simp; omega)]
      rw [hfr]
      by_cases eij : i = j
      · subst eij
        obtain ⟨hj, _⟩ := List.getElem?_eq_some_iff.1 h2
        rw [List.getElem?_set_self hj, h1]
      · rw [List.getElem?_set_ne (Ne.symm eij)]
        refine h.free i hi fun y hy => ?_
        rcases List.mem_cons.1 hy with rfl | hy
        · omega
        · exact hx y hy
  · intro y hy hyi
    obtain ⟨i, n, k, e, h1, h2⟩ := h.held y (.tail _ hy) hyi
    refine ⟨i, n, k, e, h1, ?_⟩
    show (if x.item ≠ 0 then (Gd.freeF E.its x.item x.to).2 else E.its)[i]? = _
    by_cases hi0 : x.item = 0
    · rw [if_neg (by simp [hi0])]; exact h2
    · rw [if_pos hi0]
      obtain ⟨j, n', k', ej, g1, g2⟩ := h.held x (.head _) hi0
      have hne := (List.pairwise_cons.1 h.once).1 y hy hi0
      have hij : j ≠ i := by rintro rfl; exact hne (by omega)
      unfold Gd.freeF Gd.putF
      have e1 : ((j : Int) + 1).toNat - 1 = j := by omega
      rw [ej]
      split
      · split
        · split
          · rw [e1, List.getElem?_set_ne hij]; exact h2
          · exact h2
        · exact h2
      · exact h2
/-- all of them go back -/
theorem J.all {lp lg c : Int} {E0 : Eco} (hc : 1 ≤ c ∧ c < 9223372036854775808) : ∀ {B B' : List Gf} {E : Eco}, J c E0 E (B ++ B') → EI lp lg E → ∃ E', giveL c B E = (0, E') ∧ J c E0 E' B' ∧ EI lp lg E'
  | [], _, E, h, hE => ⟨E, rfl, h, hE⟩
  | x :: t, B', E, h, hE => by
    obtain ⟨E1, e1, h1, hE1⟩ := J.give (x := x) (B := t ++ B') h hE hc
    obtain ⟨E2, e2, h2, hE2⟩ := J.all hc h1 hE1
    refine ⟨E2, ?_, h2, hE2⟩
    simp only [giveL, e1]
    simpa using e2
/-- what a gift that is given says; what is told where it is not -/
theorem giveL_in {c : Int} (hc : 1 ≤ c ∧ c < 9223372036854775808) {lp lg : Int} : ∀ {gs : List Gf} {E : Eco}, EI lp lg E → (∀ x ∈ gs, 0 ≤ x.coins) → (giveL c gs E).1 = 0 →
    tot gs ≤ cns E.l c ∧ (∀ x ∈ gs, x.item ≠ 0 → (Gd.getF E.its x.item).1.con = c) ∧ gs.Pairwise fun x y => x.item ≠ 0 → x.item ≠ y.item
  | [], E, hE, _, _ => ⟨by simp only [tot]; exact (hE.cns_bd c).1, by simp, by simp⟩
  | x :: t, E, hE, hx, h => by
    have hx0 := hx x (.head _)
    rcases give_cases c x E with ⟨g, e⟩ | ⟨_, e, _⟩
    · have hE1 : EI lp lg (giveF c x E).2 := give_ei hE hc hx0
      rw [e] at hE1
      simp only [giveL, e] at h
      obtain ⟨h1, h2, h3⟩ := giveL_in hc hE1 (fun y hy => hx y (.tail _ hy)) (by simpa using h)
      have hle := cns_le hE.R c
      have hg := g.coins
      have hcn : cns (setR c (cns E.l c - x.coins) E.l) c = cns E.l c - x.coins := by rw [cns_setR hE.R hc (by omega), if_pos rfl]
      rw [hcn] at h1
      have key : x.item ≠ 0 → ∃ j : Nat, x.item = (j : Int) + 1 ∧ (freeI x E).its = E.its.set j ⟨(Gd.getF E.its x.item).1.num, (Gd.getF E.its x.item).1.kind, x.to, 0⟩ ∧ j < E.its.length := fun hi => by
        obtain ⟨g1, g2⟩ := g.item hi
        obtain ⟨j, ej, hj, hxj⟩ := get_in g1
        refine ⟨j, ej, ?_, hj⟩
        simp only [freeI, ne_eq, hi, not_false_eq_true, if_true]
        unfold Gd.freeF Gd.putF
        have e1 : ((j : Int) + 1).toNat - 1 = j := by omega
        rw [if_pos (acc_of hE.P (get_acc.1 g.acc))]
        rw [hxj] at g2 ⊢
        rw [ej, if_pos (by omega), e1]
        have e2 : E.its.getD j ⟨0, 0, 0, 0⟩ = E.its[j] := by simp [hj]
        rw [e2, if_pos (by simp; omega)]
      have other : ∀ y : Gf, y.item ≠ 0 → (Gd.getF (freeI x E).its y.item).1.con = c → (x.item ≠ 0 → x.item ≠ y.item) ∧ (Gd.getF E.its y.item).1.con = c := fun y hy hcon => by
        by_cases hi : x.item = 0
        · refine ⟨fun q => absurd hi q, ?_⟩
          have : (freeI x E).its = E.its := by simp [freeI, hi]
          rw [this] at hcon; exact hcon
        · obtain ⟨j, ej, hs, hj⟩ := key hi
          have hlen : (freeI x E).its.length = E.its.length := by rw [hs, List.length_set]
          by_cases hyr : 1 ≤ y.item ∧ y.item ≤ E.its.length
          · obtain ⟨m, em⟩ : ∃ m : Nat, y.item = (m : Int) + 1 := ⟨y.item.toNat - 1, by omega⟩
            by_cases hmj : j = m
            · subst hmj
              rw [em, hs, getF_at (List.getElem?_set_self hj)] at hcon
              simp only at hcon; omega
            · refine ⟨fun _ => by omega, ?_⟩
              rw [em, hs, getF_at (x := E.its[m]'(by omega)) (by rw [List.getElem?_set_ne hmj]; simp <;> omega)] at hcon
              rw [em, getF_at (x := E.its[m]'(by omega)) (by simp <;> omega)]
              exact hcon
          · have : Gd.getF (freeI x E).its y.item = (⟨0, 0, 0, 0⟩, 151) := by unfold Gd.getF; rw [if_neg (by rw [hlen]; exact hyr)]
            rw [this] at hcon
            simp only at hcon; omega
      refine ⟨by simp only [tot]; omega, ?_, ?_⟩
      · intro y hy hyi
        rcases List.mem_cons.1 hy with rfl | hy
        · exact (g.item hyi).2
        · exact (other y hyi (h2 y hy hyi)).2
      · rw [List.pairwise_cons]
        refine ⟨fun y hy hi => ?_, h3⟩
        by_cases hyi : y.item = 0
        · rw [hyi]; exact hi
        · exact (other y hyi (h2 y hy hyi)).1 hi
    · simp only [giveL, ne_eq, e, not_false_eq_true, if_true] at h
theorem give_170 {c : Int} {x : Gf} {E : Eco} (ha : Pu.accE E.P.rows x.to = 0) : (giveF c x E).1 = 0 ∨ (giveF c x E).1 = 170 := by
  unfold giveF
  rw [if_neg (by simp [get_acc.2 ha])]
  split
  · exact .inr rfl
  split
  · exact .inr rfl
  · exact .inl rfl
theorem giveL_170 {c : Int} (hc : 1 ≤ c ∧ c < 9223372036854775808) {lp lg : Int} : ∀ {gs : List Gf} {E : Eco}, EI lp lg E → (∀ x ∈ gs, 0 ≤ x.coins ∧ Pu.accE E.P.rows x.to = 0) → (giveL c gs E).1 = 0 ∨ (giveL c gs E).1 = 170
  | [], _, _, _ => .inl rfl
  | x :: t, E, hE, hx => by
    simp only [giveL]
    rcases give_170 (c := c) (hx x (.head _)).2 with h | h
    · simp only [h, ne_eq, not_true_eq_false, if_false]
      refine giveL_170 hc (give_ei hE hc (hx x (.head _)).1) fun y hy => ⟨(hx y (.tail _ hy)).1, ?_⟩
      rcases give_cases c x E with ⟨g, e⟩ | ⟨_, e, _⟩
      · rw [e]
        have hle := cns_le hE.R c
        have hg := g.coins
        have hsum := hE.sum
        have hp := (put_back hE.P (n := x.to) (c := x.coins) (get_acc.1 g.acc) ⟨(hx x (.head _)).1, by omega⟩).1
        rw [hp]
        rw [acc_len (Pu.setC_len _ _ _)]
        exact (hx y (.tail _ hy)).2
      · exact absurd h e
    · simp only [h, ne_eq, Int.reduceEq, not_false_eq_true, if_true, or_true]
/-- an end that is refused -/
theorem end_bad {c : Int} {gs : List Gf} {E : Eco} (hc : 1 ≤ c) (h : (giveL c gs E).1 = 170 ∨ ((giveL c gs E).1 = 0 ∧ (endE c (giveL c gs E).2).1 = 170)) : turnF c gs (endE c) E = (170, E) := by
  unfold turnF
  rw [if_neg (by omega)]
  rcases h with h | ⟨h, h2⟩
  · rw [if_pos (by omega), h]
  · rw [if_neg (by simp [h]), if_pos (by omega), h2]
end Go.HL.Es

namespace Go.HL.Es
open Go.HL Go.Proofs
set_option maxRecDepth 4000
set_option linter.unusedSimpArgs false
set_option linter.unusedVariables false
/-- what gives an entry back -/
def giftsOf (x : Et) : List Gf := (if x.item ≠ 0 then [⟨x.acc, x.item, 0⟩] else []) ++ (if x.coins ≠ 0 then [⟨x.acc, 0, x.coins⟩] else [])
theorem gifts_tot (x : Et) : tot (giftsOf x) = x.coins := by
  unfold giftsOf; split <;> split <;> simp_all [tot]
theorem gifts_toK (x : Et) (k : Int) : toK k (giftsOf x) = if x.acc = k then x.coins else 0 := by
  unfold giftsOf; split <;> split <;> simp_all [toK]
theorem gifts_mem {x : Et} {y : Gf} (h : y ∈ giftsOf x) : (x.item ≠ 0 ∧ y = ⟨x.acc, x.item, 0⟩) ∨ (x.coins ≠ 0 ∧ y = ⟨x.acc, 0, x.coins⟩) := by
  unfold giftsOf at h
  rcases List.mem_append.1 h with h | h
  · split at h
    · rename_i hi; exact .inl ⟨hi, by simpa using h⟩
    · cases h
  · split at h
    · rename_i hi; exact .inr ⟨hi, by simpa using h⟩
    · cases h
theorem gifts_len (x : Et) : (giftsOf x).length ≤ 2 := by unfold giftsOf; split <;> split <;> simp
theorem put_ok {c : Int} {x : Et} {E : Eco} (h : (putE c x E).1 = 0) : (Pu.getF E.P x.acc).2 = 0 ∧ (x.item ≠ 0 → (Gd.getF E.its x.item).2 = 0 ∧ (Gd.getF E.its x.item).1.con = 0 ∧ (Gd.getF E.its x.item).1.acc = x.acc) ∧ (Pu.takeF E.P x.acc x.coins).1 = 0 ∧
    putE c x E = (0, ⟨(Pu.takeF E.P x.acc x.coins).2, if x.item ≠ 0 then (Gd.holdF E.its x.item c).2 else E.its, setR c (cns E.l c + x.coins) E.l⟩) := by
  unfold putE at h ⊢
  split at h
  · cases h
  rename_i h1
  split at h
  · cases h
  rename_i h2
  split at h
  · rename_i h3; exact absurd h h3
  rename_i h3
  rw [if_neg h1, if_neg h2, if_neg h3]
  refine ⟨by simpa using h1, fun hi => ?_, by simpa using h3, rfl⟩
  refine ⟨?_, ?_, ?_⟩
  · by_cases q : (Gd.getF E.its x.item).2 = 0
    · exact q
    · exact absurd ⟨hi, .inl q⟩ h2
  · by_cases q : (Gd.getF E.its x.item).1.con = 0
    · exact q
    · exact absurd ⟨hi, .inr (.inl q)⟩ h2
  · by_cases q : (Gd.getF E.its x.item).1.acc = x.acc
    · exact q
    · exact absurd ⟨hi, .inr (.inr q)⟩ h2
theorem take_ok {P : Pu.Ps} {n c : Int} (h : (Pu.takeF P n c).1 = 0) : Pu.accE P.rows n = 0 ∧ c ≤ Pu.coin P.rows n.toNat ∧ Pu.takeF P n c = (0, { P with held := P.held + c, rows := Pu.setC P.rows n.toNat (Pu.coin P.rows n.toNat - c) }) := by
  unfold Pu.takeF at h ⊢
  split at h
  · rename_i h1
    split at h
    · cases h
    · rename_i h2
      rw [if_pos h1, if_neg h2]
      exact ⟨h1, by omega, rfl⟩
  · cases h
theorem J.put {lp lg c : Int} {E0 E : Eco} {x : Et} {B : List Gf} (h : J c E0 E B) (hE : EI lp lg E) (hc : 1 ≤ c ∧ c < 9223372036854775808) (hx : 0 ≤ x.coins) (hp : (putE c x E).1 = 0) : J c E0 (putE c x E).2 (B ++ giftsOf x) := by
  obtain ⟨g1, g2, g3, e⟩ := put_ok hp
  obtain ⟨ha, hle, et⟩ := take_ok g3
  obtain ⟨t, ht, htl⟩ := Pu.acc_in ha
  have e0 : x.acc.toNat = t := by omega
  have hb := hE.cns_bd c
  rw [e, et, e0]
  rw [e0] at hle
  -- the item that is held
  have key : x.item ≠ 0 → ∃ (j : Nat) (n k : Int), x.item = (j : Int) + 1 ∧ E.its[j]? = some ⟨n, k, x.acc, 0⟩ ∧ (Gd.holdF E.its x.item c).2 = E.its.set j ⟨n, k, -1, c⟩ := fun hi => by
    obtain ⟨q1, q2, q3⟩ := g2 hi
    obtain ⟨j, ej, hj, hxj⟩ := get_in q1
    rw [hxj] at q2 q3
    refine ⟨j, E.its[j].num, E.its[j].kind, ej, ?_, ?_⟩
    · rw [List.getElem?_eq_getElem hj, ← q2, ← q3]
    · unfold Gd.holdF Gd.putF
      have e1 : ((j : Int) + 1).toNat - 1 = j := by omega
      rw [if_neg (by omega), ej, if_pos (by omega), e1]
      have e2 : E.its.getD j ⟨0, 0, 0, 0⟩ = E.its[j] := by simp [hj]
      rw [e2, if_pos (by simp [q2])]
  have apart : ∀ {j : Nat} {n k : Int}, E.its[j]? = some ⟨n, k, x.acc, 0⟩ → ∀ y ∈ B, y.item ≠ (j : Int) + 1 := by
    intro j n k hj y hy ey
    obtain ⟨i, n', k', e', _, h2⟩ := h.held y hy (by omega)
    have : i = j := by omega
    subst this
    rw [hj] at h2
    simp at h2; omega
  refine ⟨(Pu.setC_len _ _ _).trans h.len, fun k hk => ?_, fun k hk => ?_, ?_, ?_, fun i hi hx' => ?_, fun y hy hyi => ?_, ?_, fun y hy => ?_⟩
  · have hk' : k < E.P.rows.length := by rw [h.len]; exact hk
    rw [← h.name k hk]
    obtain ⟨hk2, hnm⟩ := Pu.setC_name (l := E.P.rows) (i := t) (k := k) (c := Pu.coin E.P.rows t - x.coins) (by rw [Pu.setC_len]; exact hk')
    simp only [List.getD_eq_getElem?_getD, List.getElem?_eq_getElem hk', List.getElem?_eq_getElem (show k < (Pu.setC E.P.rows t (Pu.coin E.P.rows t - x.coins)).length by rw [Pu.setC_len]; exact hk'), Option.getD_some]
    exact hnm
  · have := h.coin k hk
    show Pu.coin (Pu.setC E.P.rows t (Pu.coin E.P.rows t - x.coins)) k + toK k (B ++ giftsOf x) = _
    rw [toK_app, gifts_toK, Pu.coin_set htl]
    by_cases ek : k = t
    · subst ek; rw [if_pos rfl, if_pos ht]; omega
    · rw [if_neg ek, if_neg (by omega)]; omega
  · show Es.cns (setR c (Es.cns E.l c + x.coins) E.l) c = _
    rw [cns_setR hE.R hc (by omega), if_pos rfl, tot_app, gifts_tot, h.cns]
  · show (if x.item ≠ 0 then (Gd.holdF E.its x.item c).2 else E.its).length = _
    split
    · rename_i hi
      obtain ⟨j, n, k, _, _, hs⟩ := key hi
      rw [hs, List.length_set]; exact h.ilen
    · exact h.ilen
  · show (if x.item ≠ 0 then (Gd.holdF E.its x.item c).2 else E.its)[i]? = _
    have hB := h.free i hi fun y hy => hx' y (List.mem_append_left _ hy)
    split
    · rename_i hi'
      obtain ⟨j, n, k, ej, _, hs⟩ := key hi'
      have hne : x.item ≠ (i : Int) + 1 := hx' ⟨x.acc, x.item, 0⟩ (List.mem_append_right _ (by simp [giftsOf, hi']))
      rw [hs, List.getElem?_set_ne (by omega)]; exact hB
    · exact hB
  · show ∃ (i : Nat) (n k : Int), _ ∧ _ ∧ (if x.item ≠ 0 then (Gd.holdF E.its x.item c).2 else E.its)[i]? = _
    rcases List.mem_append.1 hy with hy | hy
    · obtain ⟨i, n, k, e1, e2, e3⟩ := h.held y hy hyi
      refine ⟨i, n, k, e1, e2, ?_⟩
      split
      · rename_i hi'
        obtain ⟨j, n', k', ej, hj, hs⟩ := key hi'
        have := apart hj y hy
        rw [hs, List.getElem?_set_ne (by omega)]; exact e3
      · exact e3
    · rcases gifts_mem hy with ⟨hi', rfl⟩ | ⟨_, rfl⟩
      · obtain ⟨j, n, k, ej, hj, hs⟩ := key hi'
        have hjl := (List.getElem?_eq_some_iff.1 hj).1
        refine ⟨j, n, k, ej, ?_, ?_⟩
        · rw [← h.free j (by rw [← h.ilen]; exact hjl) (apart hj)]; exact hj
        · rw [if_pos hi', hs, List.getElem?_set_self hjl]
      · exact absurd rfl hyi
  · rw [List.pairwise_append]
    refine ⟨h.once, ?_, fun a haB b hb hai => ?_⟩
    · unfold giftsOf; split <;> split <;> simp_all
    · rcases gifts_mem hb with ⟨hi', rfl⟩ | ⟨_, rfl⟩
      · obtain ⟨j, n, k, ej, hj, _⟩ := key hi'
        have := apart hj a haB
        simp only; omega
      · exact hai
  · rcases List.mem_append.1 hy with hy | hy
    · exact h.each y hy
    · have ha0 : Pu.accE E0.P.rows x.acc = 0 := by rw [← acc_len h.len]; exact ha
      rcases gifts_mem hy with ⟨hi', rfl⟩ | ⟨hc', rfl⟩
      · exact ⟨ha0, Int.le_refl _, .inl hi'⟩
      · exact ⟨ha0, hx, .inr (by simp only; omega)⟩
/-- nothing of the contract is left -/
theorem J.none {lp lg c : Int} {E0 E : Eco} (h : J c E0 E []) (hE : EI lp lg E) (hc : 1 ≤ c) (h0 : Gd.inF E0.its c = []) : E.P.rows = E0.P.rows ∧ E.its = E0.its ∧ Es.cns E.l c = 0 ∧ endE c E = (0, E) := by
  have hi : E.its = E0.its := by
    apply List.ext_getElem?
    intro i
    by_cases q : i < E0.its.length
    · exact h.free i q (by simp)
    · rw [List.getElem?_eq_none (by rw [h.ilen]; omega), List.getElem?_eq_none (by omega)]
  have hcn : Es.cns E.l c = 0 := h.cns
  refine ⟨?_, hi, hcn, ?_⟩
  · apply List.ext_getElem
    · exact h.len
    · intro k h1 h2
      have a := h.name k h2
      have b := h.coin k h2
      simp only [toK, Int.add_zero] at b
      rw [Pu.coin_at h1, Pu.coin_at h2] at b
      simp only [List.getD_eq_getElem?_getD, List.getElem?_eq_getElem h1, List.getElem?_eq_getElem h2, Option.getD_some] at a
      cases hx : E.P.rows[k]; cases hy : E0.P.rows[k]
      rw [hx, hy] at a b
      simp only at a b
      rw [a, b]
  · unfold endE; rw [hi, h0, hcn]; rfl
theorem J.left {c : Int} {E0 E : Eco} {y : Gf} (h : J c E0 E [y]) (hc : 1 ≤ c) : (endE c E).1 = 170 := by
  unfold endE
  rw [if_pos]
  obtain ⟨_, h2, h3⟩ := h.each y (.head _)
  rcases h3 with hi | hco
  · right
    obtain ⟨i, n, k, _, _, e⟩ := h.held y (.head _) hi
    have hm : (⟨n, k, -1, c⟩ : Gd.It) ∈ E.its := List.mem_of_getElem? e
    have : n ∈ Gd.inF E.its c := List.mem_map.2 ⟨⟨n, k, -1, c⟩, List.mem_filter.2 ⟨hm, by simp; omega⟩, rfl⟩
    intro q
    rw [List.length_eq_zero_iff.1 q] at this
    cases this
  · left
    rw [h.cns]
    simp only [tot]; omega
/-- all of it goes back -/
theorem back_all {lp lg c : Int} {E0 E : Eco} {B : List Gf} (h : J c E0 E B) (hE : EI lp lg E) (hc : 1 ≤ c ∧ c < 9223372036854775808) (h0 : Gd.inF E0.its c = []) :
    ∃ E', turnF c B (endE c) E = (0, E') ∧ E'.P.rows = E0.P.rows ∧ E'.its = E0.its ∧ cns E'.l c = 0 ∧ EI lp lg E' := by
  obtain ⟨E', e, hJ, hE'⟩ := J.all hc (B := B) (B' := []) (by rw [List.append_nil]; exact h) hE
  obtain ⟨h1, h2, h3, h4⟩ := hJ.none hE' hc.1 h0
  refine ⟨E', ?_, h1, h2, h3, hE'⟩
  unfold turnF
  rw [if_neg (by omega), e]
  simp [h4]
theorem back_less {lp lg c : Int} {E0 E : Eco} {B : List Gf} {k : Nat} (h : J c E0 E B) (hE : EI lp lg E) (hc : 1 ≤ c ∧ c < 9223372036854775808) (hk : k < B.length) : turnF c (B.take k ++ B.drop (k + 1)) (endE c) E = (170, E) := by
  have hp : B.Perm ((B.take k ++ B.drop (k + 1)) ++ [B[k]]) := by
    have e : B = B.take k ++ (B[k] :: B.drop (k + 1)) := by rw [← List.drop_eq_getElem_cons hk, List.take_append_drop]
    conv => lhs; rw [e]
    rw [List.append_assoc]
    exact (List.perm_append_singleton _ _).symm.append_left _
  obtain ⟨E', e, hJ, _⟩ := J.all hc (h.perm hp) hE
  exact end_bad hc.1 (.inr ⟨by rw [e], by rw [e]; exact hJ.left hc.1⟩)
theorem J.accs {lp lg c : Int} {E0 E : Eco} {B : List Gf} (h : J c E0 E B) : ∀ x ∈ B, 0 ≤ x.coins ∧ Pu.accE E.P.rows x.to = 0 := fun x hx => ⟨(h.each x hx).2.1, by rw [acc_len h.len]; exact (h.each x hx).1⟩
theorem back_more {lp lg c : Int} {E0 E : Eco} {B : List Gf} (h : J c E0 E B) (hE : EI lp lg E) (hc : 1 ≤ c ∧ c < 9223372036854775808) : turnF c (⟨0, 0, 1⟩ :: B) (endE c) E = (170, E) := by
  have h00 : Pu.accE E.P.rows 0 = 0 := by unfold Pu.accE; rw [if_pos]; have := hE.P.len; omega
  have hx : ∀ x ∈ (⟨0, 0, 1⟩ : Gf) :: B, 0 ≤ x.coins ∧ Pu.accE E.P.rows x.to = 0 := fun x hx => by
    rcases List.mem_cons.1 hx with rfl | hx
    · exact ⟨by decide, h00⟩
    · exact h.accs (lp := lp) (lg := lg) x hx
  rcases giveL_170 hc hE hx with q | q
  · have := (giveL_in hc hE (fun x hx' => (hx x hx').1) q).1
    rw [h.cns] at this
    simp only [tot] at this; omega
  · exact end_bad hc.1 (.inl q)
theorem back_twice {lp lg c : Int} {E0 E : Eco} {B : List Gf} {y : Gf} (h : J c E0 E B) (hE : EI lp lg E) (hc : 1 ≤ c ∧ c < 9223372036854775808) (hy : y ∈ B) : turnF c (y :: B) (endE c) E = (170, E) := by
  have hx : ∀ x ∈ y :: B, 0 ≤ x.coins ∧ Pu.accE E.P.rows x.to = 0 := fun x hx => by
    rcases List.mem_cons.1 hx with rfl | hx
    · exact h.accs (lp := lp) (lg := lg) _ hy
    · exact h.accs (lp := lp) (lg := lg) x hx
  rcases giveL_170 hc hE hx with q | q
  · obtain ⟨q1, _, q3⟩ := giveL_in hc hE (fun x hx' => (hx x hx').1) q
    rw [h.cns] at q1
    rcases (h.each y hy).2.2 with hi | hco
    · exact absurd rfl ((List.pairwise_cons.1 q3).1 y hy hi)
    · simp only [tot] at q1; omega
  · exact end_bad hc.1 (.inl q)
end Go.HL.Es

namespace Go.HL.Es
open Go.HL Go.Proofs
set_option maxRecDepth 4000
set_option linter.unusedSimpArgs false
set_option linter.unusedVariables false
theorem gflat_app (a b : List Gf) : gflat (a ++ b) = gflat a ++ gflat b := by simp [gflat]
theorem gflat_one (l : List Gf) : ∀ u ∈ gflat l, u.oneCell' = true := by
  intro u hu
  obtain ⟨x, _, hx⟩ := List.mem_flatMap.1 hu
  exact gf_one x u hx
theorem gflat_take (l : List Gf) (k : Nat) (hk : k ≤ l.length) : (gflat l).take (k * 3) = gflat (l.take k) := by
  have : gflat l = gflat (l.take k) ++ gflat (l.drop k) := by rw [← gflat_app, List.take_append_drop]
  rw [this, List.take_left' (by rw [gflat_len, List.length_take]; congr 1; omega)]
theorem gflat_drop (l : List Gf) (k : Nat) : (gflat l).drop (k * 3) = gflat (l.drop k) := flat_drop Gf.cs 3 gf_len l k
/-- a part of a row that is seen -/
theorem row_take {w0 : World} {A : Asn} {g o cap : Nat} {l : List Gf} {k : Nat} (h : ∀ w, St w0 A w → ∀ j u, (gflat l)[j]? = some u → w.cell? ⟨g, o + j, none⟩ = some u) (hk : k ≤ l.length) (hc : k ≤ cap) :
    Row w0 A (.slice (some ⟨g, o, none⟩) k cap) (l.take k).length 3 (gflat (l.take k)) := by
  have hl : (l.take k).length = k := by rw [List.length_take]; omega
  refine ⟨by rw [gflat_len], some ⟨g, o, none⟩, cap, by rw [hl], by rw [hl]; exact hc, .inr ⟨g, o, rfl, fun w s j u hu => h w s j u ?_⟩⟩
  rw [← gflat_take l k hk] at hu
  rw [List.getElem?_take] at hu
  split at hu
  · exact hu
  · cases hu
theorem row_drop {w0 : World} {A : Asn} {g o n cap : Nat} {l : List Gf} {k : Nat} (h : ∀ w, St w0 A w → ∀ j u, (gflat l)[j]? = some u → w.cell? ⟨g, o + j, none⟩ = some u) (hk : k ≤ l.length) (hc : n = l.length - k) (hcap : n ≤ cap) :
    Row w0 A (.slice (some ⟨g, o + k * 3, none⟩) n cap) (l.drop k).length 3 (gflat (l.drop k)) := by
  have hl : (l.drop k).length = n := by rw [List.length_drop]; omega
  refine ⟨by rw [gflat_len], some ⟨g, o + k * 3, none⟩, cap, by rw [hl], by rw [hl]; exact hcap, .inr ⟨g, o + k * 3, rfl, fun w s j u hu => ?_⟩⟩
  rw [← gflat_drop l k, List.getElem?_drop] at hu
  have := h w s (k * 3 + j) u hu
  rwa [← Nat.add_assoc] at this
-- bazaar/bazaarlaw17.EscrowBack
def h4_0 : HC := (.seq (.reg (.chk none (.cal 9) (.cons (.inp 25) .nil) (.chk none (.bin .eql) (.cons (.op (.cal 9) (.cons (.inp 25) .nil)) (.cons (.cst (.int .i64 0)) .nil)) (.bnd (.op (.bin .eql) (.cons (.op (.cal 9) (.cons (.inp 25) .nil)) (.cons (.cst (.int .i64 0)) .nil))) (.ite (.bv 0) true (.eff (.call 21) (.cons (.ite (.bv 0) true (.inp 6) (.cst (.tuple #[]))) .nil) (.eff (.call 24) (.cons (.bv 1) (.cons (.inp 12) .nil)) (.isb none (.bv 0) (.ite (.bv 2) true (.eff (.call 22) (.cons (.ite (.bv 2) true (.inp 8) (.cst (.tuple #[]))) .nil) (.eff (.call 25) (.cons (.bv 3) (.cons (.inp 13) .nil)) (.isb none (.bv 2) (.ite (.bv 4) true (.eff (.call 20) (.cons (.ite (.bv 4) true (.inp 10) (.cst (.tuple #[]))) (.cons (.ite (.bv 4) true (.inp 1) (.cst (.tuple #[]))) .nil)) (.chk none (.bin .eql) (.cons (.bv 5) (.cons (.cst (.int .u64 0)) .nil)) (.isb none (.bv 4) (.done [(5, (.op (.bin .eql) (.cons (.bv 5) (.cons (.cst (.int .u64 0)) .nil))))] none)))) (.isb none (.bv 4) (.done [(5, (.cst (.bool false)))] none)))))) (.isb none (.bv 2) (.isb none (.cst (.bool false)) (.done [(5, (.cst (.bool false)))] none))))))) (.isb none (.bv 0) (.isb none (.cst (.bool false)) (.isb none (.cst (.bool false)) (.done [(5, (.cst (.bool false)))] none))))))))) .ret)
@[simp] theorem h4_0_wp {P : Program} {F : PF P} {Q : EX → List Value → World → Prop} {env : List Value} {w : World} : h4_0.wp F Q env w = HC.wp F (.seq (.reg (.chk none (.cal 9) (.cons (.inp 25) .nil) (.chk none (.bin .eql) (.cons (.op (.cal 9) (.cons (.inp 25) .nil)) (.cons (.cst (.int .i64 0)) .nil)) (.bnd (.op (.bin .eql) (.cons (.op (.cal 9) (.cons (.inp 25) .nil)) (.cons (.cst (.int .i64 0)) .nil))) (.ite (.bv 0) true (.eff (.call 21) (.cons (.ite (.bv 0) true (.inp 6) (.cst (.tuple #[]))) .nil) (.eff (.call 24) (.cons (.bv 1) (.cons (.inp 12) .nil)) (.isb none (.bv 0) (.ite (.bv 2) true (.eff (.call 22) (.cons (.ite (.bv 2) true (.inp 8) (.cst (.tuple #[]))) .nil) (.eff (.call 25) (.cons (.bv 3) (.cons (.inp 13) .nil)) (.isb none (.bv 2) (.ite (.bv 4) true (.eff (.call 20) (.cons (.ite (.bv 4) true (.inp 10) (.cst (.tuple #[]))) (.cons (.ite (.bv 4) true (.inp 1) (.cst (.tuple #[]))) .nil)) (.chk none (.bin .eql) (.cons (.bv 5) (.cons (.cst (.int .u64 0)) .nil)) (.isb none (.bv 4) (.done [(5, (.op (.bin .eql) (.cons (.bv 5) (.cons (.cst (.int .u64 0)) .nil))))] none)))) (.isb none (.bv 4) (.done [(5, (.cst (.bool false)))] none)))))) (.isb none (.bv 2) (.isb none (.cst (.bool false)) (.done [(5, (.cst (.bool false)))] none))))))) (.isb none (.bv 0) (.isb none (.cst (.bool false)) (.isb none (.cst (.bool false)) (.done [(5, (.cst (.bool false)))] none))))))))) .ret) Q env w := rfl
def h4_1 : HC := (.seq (.reg (.eff (.call 23) (.cons (.inp 10) (.cons (.inp 1) (.cons (.inp 14) .nil))) (.done [(25, (.bv 0))] none))) h4_0)
@[simp] theorem h4_1_wp {P : Program} {F : PF P} {Q : EX → List Value → World → Prop} {env : List Value} {w : World} : h4_1.wp F Q env w = HC.wp F (.seq (.reg (.eff (.call 23) (.cons (.inp 10) (.cons (.inp 1) (.cons (.inp 14) .nil))) (.done [(25, (.bv 0))] none))) h4_0) Q env w := rfl
def h4_2 : HC := (.seq (.reg (.done [(5, (.cst (.bool false)))] none)) .ret)
@[simp] theorem h4_2_wp {P : Program} {F : PF P} {Q : EX → List Value → World → Prop} {env : List Value} {w : World} : h4_2.wp F Q env w = HC.wp F (.seq (.reg (.done [(5, (.cst (.bool false)))] none)) .ret) Q env w := rfl
def h4_3 : HC := (.br (.chk none (.cal 9) (.cons (.inp 22) .nil) (.chk none (.bin .neq) (.cons (.op (.cal 9) (.cons (.inp 22) .nil)) (.cons (.cst (.int .i64 170)) .nil)) (.bnd (.op (.bin .neq) (.cons (.op (.cal 9) (.cons (.inp 22) .nil)) (.cons (.cst (.int .i64 170)) .nil))) (.chk (some ((.bv 0), false)) (.cal 9) (.cons (.inp 23) .nil) (.chk (some ((.bv 0), false)) (.bin .neq) (.cons (.op (.cal 9) (.cons (.inp 23) .nil)) (.cons (.cst (.int .i64 170)) .nil)) (.isb none (.bv 0) (.bnd (.ite (.bv 0) true (.cst (.bool true)) (.op (.bin .neq) (.cons (.op (.cal 9) (.cons (.inp 23) .nil)) (.cons (.cst (.int .i64 170)) .nil)))) (.chk (some ((.bv 1), false)) (.cal 9) (.cons (.inp 24) .nil) (.chk (some ((.bv 1), false)) (.bin .neq) (.cons (.op (.cal 9) (.cons (.inp 24) .nil)) (.cons (.cst (.int .i64 170)) .nil)) (.isb none (.bv 1) (.done [] (some (.ite (.bv 1) true (.cst (.bool true)) (.op (.bin .neq) (.cons (.op (.cal 9) (.cons (.inp 24) .nil)) (.cons (.cst (.int .i64 170)) .nil)))))))))))))))) h4_2 .skip)
@[simp] theorem h4_3_wp {P : Program} {F : PF P} {Q : EX → List Value → World → Prop} {env : List Value} {w : World} : h4_3.wp F Q env w = HC.wp F (.br (.chk none (.cal 9) (.cons (.inp 22) .nil) (.chk none (.bin .neq) (.cons (.op (.cal 9) (.cons (.inp 22) .nil)) (.cons (.cst (.int .i64 170)) .nil)) (.bnd (.op (.bin .neq) (.cons (.op (.cal 9) (.cons (.inp 22) .nil)) (.cons (.cst (.int .i64 170)) .nil))) (.chk (some ((.bv 0), false)) (.cal 9) (.cons (.inp 23) .nil) (.chk (some ((.bv 0), false)) (.bin .neq) (.cons (.op (.cal 9) (.cons (.inp 23) .nil)) (.cons (.cst (.int .i64 170)) .nil)) (.isb none (.bv 0) (.bnd (.ite (.bv 0) true (.cst (.bool true)) (.op (.bin .neq) (.cons (.op (.cal 9) (.cons (.inp 23) .nil)) (.cons (.cst (.int .i64 170)) .nil)))) (.chk (some ((.bv 1), false)) (.cal 9) (.cons (.inp 24) .nil) (.chk (some ((.bv 1), false)) (.bin .neq) (.cons (.op (.cal 9) (.cons (.inp 24) .nil)) (.cons (.cst (.int .i64 170)) .nil)) (.isb none (.bv 1) (.done [] (some (.ite (.bv 1) true (.cst (.bool true)) (.op (.bin .neq) (.cons (.op (.cal 9) (.cons (.inp 24) .nil)) (.cons (.cst (.int .i64 170)) .nil)))))))))))))))) h4_2 .skip) Q env w := rfl
def h4_4 : HC := (.seq (.reg (.eff (.call 23) (.cons (.inp 10) (.cons (.inp 1) (.cons (.inp 21) .nil))) (.done [(24, (.bv 0))] none))) h4_3)
@[simp] theorem h4_4_wp {P : Program} {F : PF P} {Q : EX → List Value → World → Prop} {env : List Value} {w : World} : h4_4.wp F Q env w = HC.wp F (.seq (.reg (.eff (.call 23) (.cons (.inp 10) (.cons (.inp 1) (.cons (.inp 21) .nil))) (.done [(24, (.bv 0))] none))) h4_3) Q env w := rfl
def h4_5 : HC := (.seq (.reg (.eff (.call 23) (.cons (.inp 10) (.cons (.inp 1) (.cons (.inp 20) .nil))) (.done [(23, (.bv 0))] none))) h4_4)
@[simp] theorem h4_5_wp {P : Program} {F : PF P} {Q : EX → List Value → World → Prop} {env : List Value} {w : World} : h4_5.wp F Q env w = HC.wp F (.seq (.reg (.eff (.call 23) (.cons (.inp 10) (.cons (.inp 1) (.cons (.inp 20) .nil))) (.done [(23, (.bv 0))] none))) h4_4) Q env w := rfl
def h4_6 : HC := (.seq (.reg (.eff (.call 23) (.cons (.inp 10) (.cons (.inp 1) (.cons (.inp 19) .nil))) (.done [(22, (.bv 0))] none))) h4_5)
@[simp] theorem h4_6_wp {P : Program} {F : PF P} {Q : EX → List Value → World → Prop} {env : List Value} {w : World} : h4_6.wp F Q env w = HC.wp F (.seq (.reg (.eff (.call 23) (.cons (.inp 10) (.cons (.inp 1) (.cons (.inp 19) .nil))) (.done [(22, (.bv 0))] none))) h4_5) Q env w := rfl
def h4_7 : HC := (.seq (.reg (.eff (.app 58 58 60 3 24 (.agg #[(.int .i64 0), (.int .i64 0), (.int .u64 0)])) (.cons (.inp 21) (.cons (.inp 14) .nil)) (.done [(21, (.bv 0))] none))) h4_6)
@[simp] theorem h4_7_wp {P : Program} {F : PF P} {Q : EX → List Value → World → Prop} {env : List Value} {w : World} : h4_7.wp F Q env w = HC.wp F (.seq (.reg (.eff (.app 58 58 60 3 24 (.agg #[(.int .i64 0), (.int .i64 0), (.int .u64 0)])) (.cons (.inp 21) (.cons (.inp 14) .nil)) (.done [(21, (.bv 0))] none))) h4_6) Q env w := rfl
def h4_8 : HC := (.seq (.reg (.chk none (.idxL 3) (.cons (.inp 14) (.cons (.inp 18) .nil)) (.eff (.ld true 3) (.cons (.op (.idxL 3) (.cons (.inp 14) (.cons (.inp 18) .nil))) .nil) (.eff (.bsl 60 1 3 #[(.int .i64 0), (.int .i64 0), (.int .u64 0)] [0]) (.cons (.bv 0) .nil) (.done [(21, (.bv 1))] none))))) h4_7)
@[simp] theorem h4_8_wp {P : Program} {F : PF P} {Q : EX → List Value → World → Prop} {env : List Value} {w : World} : h4_8.wp F Q env w = HC.wp F (.seq (.reg (.chk none (.idxL 3) (.cons (.inp 14) (.cons (.inp 18) .nil)) (.eff (.ld true 3) (.cons (.op (.idxL 3) (.cons (.inp 14) (.cons (.inp 18) .nil))) .nil) (.eff (.bsl 60 1 3 #[(.int .i64 0), (.int .i64 0), (.int .u64 0)] [0]) (.cons (.bv 0) .nil) (.done [(21, (.bv 1))] none))))) h4_7) Q env w := rfl
def h4_9 : HC := (.seq (.reg (.eff (.app 58 58 60 3 24 (.agg #[(.int .i64 0), (.int .i64 0), (.int .u64 0)])) (.cons (.inp 20) (.cons (.inp 14) .nil)) (.done [(20, (.bv 0))] none))) h4_8)
@[simp] theorem h4_9_wp {P : Program} {F : PF P} {Q : EX → List Value → World → Prop} {env : List Value} {w : World} : h4_9.wp F Q env w = HC.wp F (.seq (.reg (.eff (.app 58 58 60 3 24 (.agg #[(.int .i64 0), (.int .i64 0), (.int .u64 0)])) (.cons (.inp 20) (.cons (.inp 14) .nil)) (.done [(20, (.bv 0))] none))) h4_8) Q env w := rfl
def h4_10 : HC := (.seq (.reg (.chk none (.build #[(.int .i64 0), (.int .i64 0), (.int .u64 0)] [(0, 1), (1, 1), (2, 1)] [0, 2]) (.cons (.cst (.int .i64 0)) (.cons (.cst (.int .u64 1)) .nil)) (.eff (.bsl 60 1 3 #[(.int .i64 0), (.int .i64 0), (.int .u64 0)] [0]) (.cons (.op (.build #[(.int .i64 0), (.int .i64 0), (.int .u64 0)] [(0, 1), (1, 1), (2, 1)] [0, 2]) (.cons (.cst (.int .i64 0)) (.cons (.cst (.int .u64 1)) .nil))) .nil) (.done [(20, (.bv 0))] none)))) h4_9)
@[simp] theorem h4_10_wp {P : Program} {F : PF P} {Q : EX → List Value → World → Prop} {env : List Value} {w : World} : h4_10.wp F Q env w = HC.wp F (.seq (.reg (.chk none (.build #[(.int .i64 0), (.int .i64 0), (.int .u64 0)] [(0, 1), (1, 1), (2, 1)] [0, 2]) (.cons (.cst (.int .i64 0)) (.cons (.cst (.int .u64 1)) .nil)) (.eff (.bsl 60 1 3 #[(.int .i64 0), (.int .i64 0), (.int .u64 0)] [0]) (.cons (.op (.build #[(.int .i64 0), (.int .i64 0), (.int .u64 0)] [(0, 1), (1, 1), (2, 1)] [0, 2]) (.cons (.cst (.int .i64 0)) (.cons (.cst (.int .u64 1)) .nil))) .nil) (.done [(20, (.bv 0))] none)))) h4_9) Q env w := rfl
def h4_11 : HC := (.seq (.reg (.chk none (.bin .add) (.cons (.inp 18) (.cons (.cst (.int .i64 1)) .nil)) (.chk none (.slL 3 true false false) (.cons (.inp 14) (.cons (.op (.bin .add) (.cons (.inp 18) (.cons (.cst (.int .i64 1)) .nil))) .nil)) (.eff (.app 58 58 60 3 24 (.agg #[(.int .i64 0), (.int .i64 0), (.int .u64 0)])) (.cons (.inp 19) (.cons (.op (.slL 3 true false false) (.cons (.inp 14) (.cons (.op (.bin .add) (.cons (.inp 18) (.cons (.cst (.int .i64 1)) .nil))) .nil))) .nil)) (.done [(19, (.bv 0))] none))))) h4_10)
@[simp] theorem h4_11_wp {P : Program} {F : PF P} {Q : EX → List Value → World → Prop} {env : List Value} {w : World} : h4_11.wp F Q env w = HC.wp F (.seq (.reg (.chk none (.bin .add) (.cons (.inp 18) (.cons (.cst (.int .i64 1)) .nil)) (.chk none (.slL 3 true false false) (.cons (.inp 14) (.cons (.op (.bin .add) (.cons (.inp 18) (.cons (.cst (.int .i64 1)) .nil))) .nil)) (.eff (.app 58 58 60 3 24 (.agg #[(.int .i64 0), (.int .i64 0), (.int .u64 0)])) (.cons (.inp 19) (.cons (.op (.slL 3 true false false) (.cons (.inp 14) (.cons (.op (.bin .add) (.cons (.inp 18) (.cons (.cst (.int .i64 1)) .nil))) .nil))) .nil)) (.done [(19, (.bv 0))] none))))) h4_10) Q env w := rfl
def h4_12 : HC := (.seq (.reg (.chk none (.slL 3 false true false) (.cons (.inp 14) (.cons (.inp 18) .nil)) (.eff (.app 58 58 60 3 24 (.agg #[(.int .i64 0), (.int .i64 0), (.int .u64 0)])) (.cons (.inp 19) (.cons (.op (.slL 3 false true false) (.cons (.inp 14) (.cons (.inp 18) .nil))) .nil)) (.done [(19, (.bv 0))] none)))) h4_11)
@[simp] theorem h4_12_wp {P : Program} {F : PF P} {Q : EX → List Value → World → Prop} {env : List Value} {w : World} : h4_12.wp F Q env w = HC.wp F (.seq (.reg (.chk none (.slL 3 false true false) (.cons (.inp 14) (.cons (.inp 18) .nil)) (.eff (.app 58 58 60 3 24 (.agg #[(.int .i64 0), (.int .i64 0), (.int .u64 0)])) (.cons (.inp 19) (.cons (.op (.slL 3 false true false) (.cons (.inp 14) (.cons (.inp 18) .nil))) .nil)) (.done [(19, (.bv 0))] none)))) h4_11) Q env w := rfl
def h4_13 : HC := (.seq (.reg (.done [(19, (.cst (.slice none 0 0)))] none)) h4_12)
@[simp] theorem h4_13_wp {P : Program} {F : PF P} {Q : EX → List Value → World → Prop} {env : List Value} {w : World} : h4_13.wp F Q env w = HC.wp F (.seq (.reg (.done [(19, (.cst (.slice none 0 0)))] none)) h4_12) Q env w := rfl
def h4_14 : HC := (.reg (.chk none .lenL (.cons (.inp 14) .nil) (.chk none (.bin .add) (.cons (.inp 18) (.cons (.op .lenL (.cons (.inp 14) .nil)) .nil)) (.done [(18, (.op (.bin .add) (.cons (.inp 18) (.cons (.op .lenL (.cons (.inp 14) .nil)) .nil))))] none))))
@[simp] theorem h4_14_wp {P : Program} {F : PF P} {Q : EX → List Value → World → Prop} {env : List Value} {w : World} : h4_14.wp F Q env w = HC.wp F (.reg (.chk none .lenL (.cons (.inp 14) .nil) (.chk none (.bin .add) (.cons (.inp 18) (.cons (.op .lenL (.cons (.inp 14) .nil)) .nil)) (.done [(18, (.op (.bin .add) (.cons (.inp 18) (.cons (.op .lenL (.cons (.inp 14) .nil)) .nil))))] none)))) Q env w := rfl
def h4_15 : HC := (.seq (.br (.chk none (.bin .lss) (.cons (.inp 18) (.cons (.cst (.int .i64 0)) .nil)) (.done [] (some (.op (.bin .lss) (.cons (.inp 18) (.cons (.cst (.int .i64 0)) .nil)))))) h4_14 .skip) h4_13)
@[simp] theorem h4_15_wp {P : Program} {F : PF P} {Q : EX → List Value → World → Prop} {env : List Value} {w : World} : h4_15.wp F Q env w = HC.wp F (.seq (.br (.chk none (.bin .lss) (.cons (.inp 18) (.cons (.cst (.int .i64 0)) .nil)) (.done [] (some (.op (.bin .lss) (.cons (.inp 18) (.cons (.cst (.int .i64 0)) .nil)))))) h4_14 .skip) h4_13) Q env w := rfl
def h4_16 : HC := (.seq (.reg (.chk none .lenL (.cons (.inp 14) .nil) (.chk none (.bin .rem) (.cons (.inp 3) (.cons (.op .lenL (.cons (.inp 14) .nil)) .nil)) (.done [(18, (.op (.bin .rem) (.cons (.inp 3) (.cons (.op .lenL (.cons (.inp 14) .nil)) .nil))))] none)))) h4_15)
@[simp] theorem h4_16_wp {P : Program} {F : PF P} {Q : EX → List Value → World → Prop} {env : List Value} {w : World} : h4_16.wp F Q env w = HC.wp F (.seq (.reg (.chk none .lenL (.cons (.inp 14) .nil) (.chk none (.bin .rem) (.cons (.inp 3) (.cons (.op .lenL (.cons (.inp 14) .nil)) .nil)) (.done [(18, (.op (.bin .rem) (.cons (.inp 3) (.cons (.op .lenL (.cons (.inp 14) .nil)) .nil))))] none)))) h4_15) Q env w := rfl
def h4_17 : HC := (.seq (.br (.chk none .lenL (.cons (.inp 14) .nil) (.chk none (.bin .gtr) (.cons (.op .lenL (.cons (.inp 14) .nil)) (.cons (.cst (.int .i64 0)) .nil)) (.done [] (some (.op (.bin .gtr) (.cons (.op .lenL (.cons (.inp 14) .nil)) (.cons (.cst (.int .i64 0)) .nil))))))) h4_16 .skip) h4_1)
@[simp] theorem h4_17_wp {P : Program} {F : PF P} {Q : EX → List Value → World → Prop} {env : List Value} {w : World} : h4_17.wp F Q env w = HC.wp F (.seq (.br (.chk none .lenL (.cons (.inp 14) .nil) (.chk none (.bin .gtr) (.cons (.op .lenL (.cons (.inp 14) .nil)) (.cons (.cst (.int .i64 0)) .nil)) (.done [] (some (.op (.bin .gtr) (.cons (.op .lenL (.cons (.inp 14) .nil)) (.cons (.cst (.int .i64 0)) .nil))))))) h4_16 .skip) h4_1) Q env w := rfl
def h4_18 : HC := (.reg (.chk none (.bin .add) (.cons (.inp 15) (.cons (.cst (.int .i64 1)) .nil)) (.done [(15, (.op (.bin .add) (.cons (.inp 15) (.cons (.cst (.int .i64 1)) .nil))))] none)))
@[simp] theorem h4_18_wp {P : Program} {F : PF P} {Q : EX → List Value → World → Prop} {env : List Value} {w : World} : h4_18.wp F Q env w = HC.wp F (.reg (.chk none (.bin .add) (.cons (.inp 15) (.cons (.cst (.int .i64 1)) .nil)) (.done [(15, (.op (.bin .add) (.cons (.inp 15) (.cons (.cst (.int .i64 1)) .nil))))] none))) Q env w := rfl
def h4_19 : HC := (.reg (.chk none (.fld 0) (.cons (.inp 16) .nil) (.eff (.ld false 1) (.cons (.op (.fld 0) (.cons (.inp 16) .nil)) .nil) (.chk none (.fld 2) (.cons (.inp 16) .nil) (.eff (.ld false 1) (.cons (.op (.fld 2) (.cons (.inp 16) .nil)) .nil) (.chk none (.build #[(.int .i64 0), (.int .i64 0), (.int .u64 0)] [(0, 1), (1, 1), (2, 1)] [0, 2]) (.cons (.bv 0) (.cons (.bv 1) .nil)) (.eff (.bsl 60 1 3 #[(.int .i64 0), (.int .i64 0), (.int .u64 0)] [0]) (.cons (.op (.build #[(.int .i64 0), (.int .i64 0), (.int .u64 0)] [(0, 1), (1, 1), (2, 1)] [0, 2]) (.cons (.bv 0) (.cons (.bv 1) .nil))) .nil) (.eff (.app 58 58 60 3 24 (.agg #[(.int .i64 0), (.int .i64 0), (.int .u64 0)])) (.cons (.inp 14) (.cons (.bv 2) .nil)) (.done [(14, (.bv 3))] none)))))))))
@[simp] theorem h4_19_wp {P : Program} {F : PF P} {Q : EX → List Value → World → Prop} {env : List Value} {w : World} : h4_19.wp F Q env w = HC.wp F (.reg (.chk none (.fld 0) (.cons (.inp 16) .nil) (.eff (.ld false 1) (.cons (.op (.fld 0) (.cons (.inp 16) .nil)) .nil) (.chk none (.fld 2) (.cons (.inp 16) .nil) (.eff (.ld false 1) (.cons (.op (.fld 2) (.cons (.inp 16) .nil)) .nil) (.chk none (.build #[(.int .i64 0), (.int .i64 0), (.int .u64 0)] [(0, 1), (1, 1), (2, 1)] [0, 2]) (.cons (.bv 0) (.cons (.bv 1) .nil)) (.eff (.bsl 60 1 3 #[(.int .i64 0), (.int .i64 0), (.int .u64 0)] [0]) (.cons (.op (.build #[(.int .i64 0), (.int .i64 0), (.int .u64 0)] [(0, 1), (1, 1), (2, 1)] [0, 2]) (.cons (.bv 0) (.cons (.bv 1) .nil))) .nil) (.eff (.app 58 58 60 3 24 (.agg #[(.int .i64 0), (.int .i64 0), (.int .u64 0)])) (.cons (.inp 14) (.cons (.bv 2) .nil)) (.done [(14, (.bv 3))] none))))))))) Q env w := rfl
def h4_20 : HC := (.br (.chk none (.fld 2) (.cons (.inp 16) .nil) (.eff (.ld false 1) (.cons (.op (.fld 2) (.cons (.inp 16) .nil)) .nil) (.chk none (.bin .neq) (.cons (.bv 0) (.cons (.cst (.int .u64 0)) .nil)) (.done [] (some (.op (.bin .neq) (.cons (.bv 0) (.cons (.cst (.int .u64 0)) .nil)))))))) h4_19 .skip)
@[simp] theorem h4_20_wp {P : Program} {F : PF P} {Q : EX → List Value → World → Prop} {env : List Value} {w : World} : h4_20.wp F Q env w = HC.wp F (.br (.chk none (.fld 2) (.cons (.inp 16) .nil) (.eff (.ld false 1) (.cons (.op (.fld 2) (.cons (.inp 16) .nil)) .nil) (.chk none (.bin .neq) (.cons (.bv 0) (.cons (.cst (.int .u64 0)) .nil)) (.done [] (some (.op (.bin .neq) (.cons (.bv 0) (.cons (.cst (.int .u64 0)) .nil)))))))) h4_19 .skip) Q env w := rfl
def h4_21 : HC := (.reg (.chk none (.fld 0) (.cons (.inp 16) .nil) (.eff (.ld false 1) (.cons (.op (.fld 0) (.cons (.inp 16) .nil)) .nil) (.chk none (.fld 1) (.cons (.inp 16) .nil) (.eff (.ld false 1) (.cons (.op (.fld 1) (.cons (.inp 16) .nil)) .nil) (.chk none (.build #[(.int .i64 0), (.int .i64 0), (.int .u64 0)] [(0, 1), (1, 1), (2, 1)] [0, 1]) (.cons (.bv 0) (.cons (.bv 1) .nil)) (.eff (.bsl 60 1 3 #[(.int .i64 0), (.int .i64 0), (.int .u64 0)] [0]) (.cons (.op (.build #[(.int .i64 0), (.int .i64 0), (.int .u64 0)] [(0, 1), (1, 1), (2, 1)] [0, 1]) (.cons (.bv 0) (.cons (.bv 1) .nil))) .nil) (.eff (.app 58 58 60 3 24 (.agg #[(.int .i64 0), (.int .i64 0), (.int .u64 0)])) (.cons (.inp 14) (.cons (.bv 2) .nil)) (.done [(14, (.bv 3))] none)))))))))
@[simp] theorem h4_21_wp {P : Program} {F : PF P} {Q : EX → List Value → World → Prop} {env : List Value} {w : World} : h4_21.wp F Q env w = HC.wp F (.reg (.chk none (.fld 0) (.cons (.inp 16) .nil) (.eff (.ld false 1) (.cons (.op (.fld 0) (.cons (.inp 16) .nil)) .nil) (.chk none (.fld 1) (.cons (.inp 16) .nil) (.eff (.ld false 1) (.cons (.op (.fld 1) (.cons (.inp 16) .nil)) .nil) (.chk none (.build #[(.int .i64 0), (.int .i64 0), (.int .u64 0)] [(0, 1), (1, 1), (2, 1)] [0, 1]) (.cons (.bv 0) (.cons (.bv 1) .nil)) (.eff (.bsl 60 1 3 #[(.int .i64 0), (.int .i64 0), (.int .u64 0)] [0]) (.cons (.op (.build #[(.int .i64 0), (.int .i64 0), (.int .u64 0)] [(0, 1), (1, 1), (2, 1)] [0, 1]) (.cons (.bv 0) (.cons (.bv 1) .nil))) .nil) (.eff (.app 58 58 60 3 24 (.agg #[(.int .i64 0), (.int .i64 0), (.int .u64 0)])) (.cons (.inp 14) (.cons (.bv 2) .nil)) (.done [(14, (.bv 3))] none))))))))) Q env w := rfl
def h4_22 : HC := (.seq (.br (.chk none (.fld 1) (.cons (.inp 16) .nil) (.eff (.ld false 1) (.cons (.op (.fld 1) (.cons (.inp 16) .nil)) .nil) (.chk none (.bin .neq) (.cons (.bv 0) (.cons (.cst (.int .i64 0)) .nil)) (.done [] (some (.op (.bin .neq) (.cons (.bv 0) (.cons (.cst (.int .i64 0)) .nil)))))))) h4_21 .skip) h4_20)
@[simp] theorem h4_22_wp {P : Program} {F : PF P} {Q : EX → List Value → World → Prop} {env : List Value} {w : World} : h4_22.wp F Q env w = HC.wp F (.seq (.br (.chk none (.fld 1) (.cons (.inp 16) .nil) (.eff (.ld false 1) (.cons (.op (.fld 1) (.cons (.inp 16) .nil)) .nil) (.chk none (.bin .neq) (.cons (.bv 0) (.cons (.cst (.int .i64 0)) .nil)) (.done [] (some (.op (.bin .neq) (.cons (.bv 0) (.cons (.cst (.int .i64 0)) .nil)))))))) h4_21 .skip) h4_20) Q env w := rfl
def h4_23 : HC := (.seq (.br (.chk none (.cal 9) (.cons (.inp 17) .nil) (.chk none (.bin .neq) (.cons (.op (.cal 9) (.cons (.inp 17) .nil)) (.cons (.cst (.int .i64 0)) .nil)) (.done [] (some (.op (.bin .neq) (.cons (.op (.cal 9) (.cons (.inp 17) .nil)) (.cons (.cst (.int .i64 0)) .nil))))))) (.exit 1) .skip) h4_22)
@[simp] theorem h4_23_wp {P : Program} {F : PF P} {Q : EX → List Value → World → Prop} {env : List Value} {w : World} : h4_23.wp F Q env w = HC.wp F (.seq (.br (.chk none (.cal 9) (.cons (.inp 17) .nil) (.chk none (.bin .neq) (.cons (.op (.cal 9) (.cons (.inp 17) .nil)) (.cons (.cst (.int .i64 0)) .nil)) (.done [] (some (.op (.bin .neq) (.cons (.op (.cal 9) (.cons (.inp 17) .nil)) (.cons (.cst (.int .i64 0)) .nil))))))) (.exit 1) .skip) h4_22) Q env w := rfl
def h4_24 : HC := (.seq (.reg (.eff (.ld true 5) (.cons (.inp 16) .nil) (.eff (.call 14) (.cons (.inp 10) (.cons (.inp 1) (.cons (.bv 0) .nil))) (.done [(17, (.bv 1))] none)))) h4_23)
@[simp] theorem h4_24_wp {P : Program} {F : PF P} {Q : EX → List Value → World → Prop} {env : List Value} {w : World} : h4_24.wp F Q env w = HC.wp F (.seq (.reg (.eff (.ld true 5) (.cons (.inp 16) .nil) (.eff (.call 14) (.cons (.inp 10) (.cons (.inp 1) (.cons (.bv 0) .nil))) (.done [(17, (.bv 1))] none)))) h4_23) Q env w := rfl
def h4_25 : HC := (.seq (.reg (.chk none (.idxL 5) (.cons (.inp 2) (.cons (.inp 15) .nil)) (.eff (.ld true 5) (.cons (.op (.idxL 5) (.cons (.inp 2) (.cons (.inp 15) .nil))) .nil) (.eff (.new 46 (.agg #[(.int .i64 0), (.int .i64 0), (.int .u64 0), (.int .u64 0), (.slice none 0 0)])) .nil (.eff (.st 5) (.cons (.bv 1) (.cons (.bv 0) .nil)) (.done [(16, (.bv 1))] none)))))) h4_24)
@[simp] theorem h4_25_wp {P : Program} {F : PF P} {Q : EX → List Value → World → Prop} {env : List Value} {w : World} : h4_25.wp F Q env w = HC.wp F (.seq (.reg (.chk none (.idxL 5) (.cons (.inp 2) (.cons (.inp 15) .nil)) (.eff (.ld true 5) (.cons (.op (.idxL 5) (.cons (.inp 2) (.cons (.inp 15) .nil))) .nil) (.eff (.new 46 (.agg #[(.int .i64 0), (.int .i64 0), (.int .u64 0), (.int .u64 0), (.slice none 0 0)])) .nil (.eff (.st 5) (.cons (.bv 1) (.cons (.bv 0) .nil)) (.done [(16, (.bv 1))] none)))))) h4_24) Q env w := rfl
def h4_26 : HC := (.seq (.block 1 h4_25) h4_18)
@[simp] theorem h4_26_wp {P : Program} {F : PF P} {Q : EX → List Value → World → Prop} {env : List Value} {w : World} : h4_26.wp F Q env w = HC.wp F (.seq (.block 1 h4_25) h4_18) Q env w := rfl
def h4_27 : HC := (.seq (.br (.chk none .lenL (.cons (.inp 2) .nil) (.chk none (.bin .lss) (.cons (.inp 15) (.cons (.op .lenL (.cons (.inp 2) .nil)) .nil)) (.done [] (some (.op (.bin .lss) (.cons (.inp 15) (.cons (.op .lenL (.cons (.inp 2) .nil)) .nil))))))) .skip (.exit 0)) h4_26)
@[simp] theorem h4_27_wp {P : Program} {F : PF P} {Q : EX → List Value → World → Prop} {env : List Value} {w : World} : h4_27.wp F Q env w = HC.wp F (.seq (.br (.chk none .lenL (.cons (.inp 2) .nil) (.chk none (.bin .lss) (.cons (.inp 15) (.cons (.op .lenL (.cons (.inp 2) .nil)) .nil)) (.done [] (some (.op (.bin .lss) (.cons (.inp 15) (.cons (.op .lenL (.cons (.inp 2) .nil)) .nil))))))) .skip (.exit 0)) h4_26) Q env w := rfl
def h4_28 : HC := (.loop h4_27)
@[simp] theorem h4_28_wp {P : Program} {F : PF P} {Q : EX → List Value → World → Prop} {env : List Value} {w : World} : h4_28.wp F Q env w = HC.wp F (.loop h4_27) Q env w := rfl
def h4_29 : HC := (.seq (.block 0 h4_28) h4_17)
@[simp] theorem h4_29_wp {P : Program} {F : PF P} {Q : EX → List Value → World → Prop} {env : List Value} {w : World} : h4_29.wp F Q env w = HC.wp F (.seq (.block 0 h4_28) h4_17) Q env w := rfl
def h4_30 : HC := (.seq (.reg (.done [(15, (.cst (.int .i64 0)))] none)) h4_29)
@[simp] theorem h4_30_wp {P : Program} {F : PF P} {Q : EX → List Value → World → Prop} {env : List Value} {w : World} : h4_30.wp F Q env w = HC.wp F (.seq (.reg (.done [(15, (.cst (.int .i64 0)))] none)) h4_29) Q env w := rfl
def h4_31 : HC := (.seq (.reg (.done [(14, (.cst (.slice none 0 0)))] none)) h4_30)
@[simp] theorem h4_31_wp {P : Program} {F : PF P} {Q : EX → List Value → World → Prop} {env : List Value} {w : World} : h4_31.wp F Q env w = HC.wp F (.seq (.reg (.done [(14, (.cst (.slice none 0 0)))] none)) h4_30) Q env w := rfl
def h4_32 : HC := (.seq (.reg (.eff (.call 22) (.cons (.inp 8) .nil) (.done [(13, (.bv 0))] none))) h4_31)
@[simp] theorem h4_32_wp {P : Program} {F : PF P} {Q : EX → List Value → World → Prop} {env : List Value} {w : World} : h4_32.wp F Q env w = HC.wp F (.seq (.reg (.eff (.call 22) (.cons (.inp 8) .nil) (.done [(13, (.bv 0))] none))) h4_31) Q env w := rfl
def h4_33 : HC := (.seq (.reg (.eff (.call 21) (.cons (.inp 6) .nil) (.done [(12, (.bv 0))] none))) h4_32)
@[simp] theorem h4_33_wp {P : Program} {F : PF P} {Q : EX → List Value → World → Prop} {env : List Value} {w : World} : h4_33.wp F Q env w = HC.wp F (.seq (.reg (.eff (.call 21) (.cons (.inp 6) .nil) (.done [(12, (.bv 0))] none))) h4_32) Q env w := rfl
def h4_34 : HC := (.seq (.reg (.done [(5, (.cst (.bool true)))] none)) .ret)
@[simp] theorem h4_34_wp {P : Program} {F : PF P} {Q : EX → List Value → World → Prop} {env : List Value} {w : World} : h4_34.wp F Q env w = HC.wp F (.seq (.reg (.done [(5, (.cst (.bool true)))] none)) .ret) Q env w := rfl
def h4_35 : HC := (.seq (.br (.chk none (.cal 9) (.cons (.inp 11) .nil) (.chk none (.bin .neq) (.cons (.op (.cal 9) (.cons (.inp 11) .nil)) (.cons (.cst (.int .i64 0)) .nil)) (.bnd (.op (.bin .neq) (.cons (.op (.cal 9) (.cons (.inp 11) .nil)) (.cons (.cst (.int .i64 0)) .nil))) (.chk (some ((.bv 0), false)) (.bin .lss) (.cons (.inp 1) (.cons (.cst (.int .i64 1)) .nil)) (.isb none (.bv 0) (.bnd (.ite (.bv 0) true (.cst (.bool true)) (.op (.bin .lss) (.cons (.inp 1) (.cons (.cst (.int .i64 1)) .nil)))) (.ite (.bv 1) false (.eff (.call 20) (.cons (.ite (.bv 1) false (.inp 10) (.cst (.tuple #[]))) (.cons (.ite (.bv 1) false (.inp 1) (.cst (.tuple #[]))) .nil)) (.chk none (.bin .neq) (.cons (.bv 2) (.cons (.cst (.int .u64 0)) .nil)) (.isb none (.bv 1) (.bnd (.op (.bin .neq) (.cons (.bv 2) (.cons (.cst (.int .u64 0)) .nil))) (.ite (.bv 3) false (.eff (.call 16) (.cons (.ite (.bv 3) false (.inp 10) (.cst (.tuple #[]))) (.cons (.ite (.bv 3) false (.inp 1) (.cst (.tuple #[]))) .nil)) (.chk none .lenL (.cons (.bv 4) .nil) (.chk none (.bin .neq) (.cons (.op .lenL (.cons (.bv 4) .nil)) (.cons (.cst (.int .i64 0)) .nil)) (.isb none (.bv 3) (.done [] (some (.op (.bin .neq) (.cons (.op .lenL (.cons (.bv 4) .nil)) (.cons (.cst (.int .i64 0)) .nil))))))))) (.isb none (.bv 3) (.done [] (some (.cst (.bool true)))))))))) (.isb none (.bv 1) (.isb none (.cst (.bool true)) (.done [] (some (.cst (.bool true))))))))))))) h4_34 .skip) h4_33)
@[simp] theorem h4_35_wp {P : Program} {F : PF P} {Q : EX → List Value → World → Prop} {env : List Value} {w : World} : h4_35.wp F Q env w = HC.wp F (.seq (.br (.chk none (.cal 9) (.cons (.inp 11) .nil) (.chk none (.bin .neq) (.cons (.op (.cal 9) (.cons (.inp 11) .nil)) (.cons (.cst (.int .i64 0)) .nil)) (.bnd (.op (.bin .neq) (.cons (.op (.cal 9) (.cons (.inp 11) .nil)) (.cons (.cst (.int .i64 0)) .nil))) (.chk (some ((.bv 0), false)) (.bin .lss) (.cons (.inp 1) (.cons (.cst (.int .i64 1)) .nil)) (.isb none (.bv 0) (.bnd (.ite (.bv 0) true (.cst (.bool true)) (.op (.bin .lss) (.cons (.inp 1) (.cons (.cst (.int .i64 1)) .nil)))) (.ite (.bv 1) false (.eff (.call 20) (.cons (.ite (.bv 1) false (.inp 10) (.cst (.tuple #[]))) (.cons (.ite (.bv 1) false (.inp 1) (.cst (.tuple #[]))) .nil)) (.chk none (.bin .neq) (.cons (.bv 2) (.cons (.cst (.int .u64 0)) .nil)) (.isb none (.bv 1) (.bnd (.op (.bin .neq) (.cons (.bv 2) (.cons (.cst (.int .u64 0)) .nil))) (.ite (.bv 3) false (.eff (.call 16) (.cons (.ite (.bv 3) false (.inp 10) (.cst (.tuple #[]))) (.cons (.ite (.bv 3) false (.inp 1) (.cst (.tuple #[]))) .nil)) (.chk none .lenL (.cons (.bv 4) .nil) (.chk none (.bin .neq) (.cons (.op .lenL (.cons (.bv 4) .nil)) (.cons (.cst (.int .i64 0)) .nil)) (.isb none (.bv 3) (.done [] (some (.op (.bin .neq) (.cons (.op .lenL (.cons (.bv 4) .nil)) (.cons (.cst (.int .i64 0)) .nil))))))))) (.isb none (.bv 3) (.done [] (some (.cst (.bool true)))))))))) (.isb none (.bv 1) (.isb none (.cst (.bool true)) (.done [] (some (.cst (.bool true))))))))))))) h4_34 .skip) h4_33) Q env w := rfl
def h4_36 : HC := (.seq (.reg (.chk none (.fld 5) (.cons (.inp 4) .nil) (.eff (.ld false 1) (.cons (.op (.fld 5) (.cons (.inp 4) .nil)) .nil) (.eff (.call 11) (.cons (.bv 0) .nil) (.eff (.call 10) (.cons (.inp 6) (.cons (.inp 8) (.cons (.bv 1) .nil))) (.chk none (.ext 0) (.cons (.bv 2) .nil) (.chk none (.ext 1) (.cons (.bv 2) .nil) (.done [(10, (.op (.ext 0) (.cons (.bv 2) .nil))), (11, (.op (.ext 1) (.cons (.bv 2) .nil)))] none)))))))) h4_35)
@[simp] theorem h4_36_wp {P : Program} {F : PF P} {Q : EX → List Value → World → Prop} {env : List Value} {w : World} : h4_36.wp F Q env w = HC.wp F (.seq (.reg (.chk none (.fld 5) (.cons (.inp 4) .nil) (.eff (.ld false 1) (.cons (.op (.fld 5) (.cons (.inp 4) .nil)) .nil) (.eff (.call 11) (.cons (.bv 0) .nil) (.eff (.call 10) (.cons (.inp 6) (.cons (.inp 8) (.cons (.bv 1) .nil))) (.chk none (.ext 0) (.cons (.bv 2) .nil) (.chk none (.ext 1) (.cons (.bv 2) .nil) (.done [(10, (.op (.ext 0) (.cons (.bv 2) .nil))), (11, (.op (.ext 1) (.cons (.bv 2) .nil)))] none)))))))) h4_35) Q env w := rfl
def h4_37 : HC := (.seq (.reg (.done [(5, (.cst (.bool true)))] none)) .ret)
@[simp] theorem h4_37_wp {P : Program} {F : PF P} {Q : EX → List Value → World → Prop} {env : List Value} {w : World} : h4_37.wp F Q env w = HC.wp F (.seq (.reg (.done [(5, (.cst (.bool true)))] none)) .ret) Q env w := rfl
def h4_38 : HC := (.seq (.br (.chk none (.cal 9) (.cons (.inp 7) .nil) (.chk none (.bin .neq) (.cons (.op (.cal 9) (.cons (.inp 7) .nil)) (.cons (.cst (.int .i64 0)) .nil)) (.bnd (.op (.bin .neq) (.cons (.op (.cal 9) (.cons (.inp 7) .nil)) (.cons (.cst (.int .i64 0)) .nil))) (.chk (some ((.bv 0), false)) (.cal 9) (.cons (.inp 9) .nil) (.chk (some ((.bv 0), false)) (.bin .neq) (.cons (.op (.cal 9) (.cons (.inp 9) .nil)) (.cons (.cst (.int .i64 0)) .nil)) (.isb none (.bv 0) (.done [] (some (.ite (.bv 0) true (.cst (.bool true)) (.op (.bin .neq) (.cons (.op (.cal 9) (.cons (.inp 9) .nil)) (.cons (.cst (.int .i64 0)) .nil)))))))))))) h4_37 .skip) h4_36)
@[simp] theorem h4_38_wp {P : Program} {F : PF P} {Q : EX → List Value → World → Prop} {env : List Value} {w : World} : h4_38.wp F Q env w = HC.wp F (.seq (.br (.chk none (.cal 9) (.cons (.inp 7) .nil) (.chk none (.bin .neq) (.cons (.op (.cal 9) (.cons (.inp 7) .nil)) (.cons (.cst (.int .i64 0)) .nil)) (.bnd (.op (.bin .neq) (.cons (.op (.cal 9) (.cons (.inp 7) .nil)) (.cons (.cst (.int .i64 0)) .nil))) (.chk (some ((.bv 0), false)) (.cal 9) (.cons (.inp 9) .nil) (.chk (some ((.bv 0), false)) (.bin .neq) (.cons (.op (.cal 9) (.cons (.inp 9) .nil)) (.cons (.cst (.int .i64 0)) .nil)) (.isb none (.bv 0) (.done [] (some (.ite (.bv 0) true (.cst (.bool true)) (.op (.bin .neq) (.cons (.op (.cal 9) (.cons (.inp 9) .nil)) (.cons (.cst (.int .i64 0)) .nil)))))))))))) h4_37 .skip) h4_36) Q env w := rfl
def h4_39 : HC := (.seq (.reg (.chk none (.fld 3) (.cons (.inp 4) .nil) (.eff (.ld false 1) (.cons (.op (.fld 3) (.cons (.inp 4) .nil)) .nil) (.chk none (.fld 4) (.cons (.inp 4) .nil) (.eff (.ld false 1) (.cons (.op (.fld 4) (.cons (.inp 4) .nil)) .nil) (.eff (.call 8) (.cons (.bv 0) (.cons (.bv 1) .nil)) (.chk none (.ext 0) (.cons (.bv 2) .nil) (.chk none (.ext 1) (.cons (.bv 2) .nil) (.done [(8, (.op (.ext 0) (.cons (.bv 2) .nil))), (9, (.op (.ext 1) (.cons (.bv 2) .nil)))] none))))))))) h4_38)
@[simp] theorem h4_39_wp {P : Program} {F : PF P} {Q : EX → List Value → World → Prop} {env : List Value} {w : World} : h4_39.wp F Q env w = HC.wp F (.seq (.reg (.chk none (.fld 3) (.cons (.inp 4) .nil) (.eff (.ld false 1) (.cons (.op (.fld 3) (.cons (.inp 4) .nil)) .nil) (.chk none (.fld 4) (.cons (.inp 4) .nil) (.eff (.ld false 1) (.cons (.op (.fld 4) (.cons (.inp 4) .nil)) .nil) (.eff (.call 8) (.cons (.bv 0) (.cons (.bv 1) .nil)) (.chk none (.ext 0) (.cons (.bv 2) .nil) (.chk none (.ext 1) (.cons (.bv 2) .nil) (.done [(8, (.op (.ext 0) (.cons (.bv 2) .nil))), (9, (.op (.ext 1) (.cons (.bv 2) .nil)))] none))))))))) h4_38) Q env w := rfl
def h4_40 : HC := (.seq (.reg (.chk none (.fld 0) (.cons (.inp 4) .nil) (.eff (.ld false 1) (.cons (.op (.fld 0) (.cons (.inp 4) .nil)) .nil) (.chk none (.fld 1) (.cons (.inp 4) .nil) (.eff (.ld false 1) (.cons (.op (.fld 1) (.cons (.inp 4) .nil)) .nil) (.chk none (.fld 2) (.cons (.inp 4) .nil) (.eff (.ld false 1) (.cons (.op (.fld 2) (.cons (.inp 4) .nil)) .nil) (.eff (.call 7) (.cons (.bv 0) (.cons (.bv 1) (.cons (.bv 2) .nil))) (.chk none (.ext 0) (.cons (.bv 3) .nil) (.chk none (.ext 1) (.cons (.bv 3) .nil) (.done [(6, (.op (.ext 0) (.cons (.bv 3) .nil))), (7, (.op (.ext 1) (.cons (.bv 3) .nil)))] none))))))))))) h4_39)
@[simp] theorem h4_40_wp {P : Program} {F : PF P} {Q : EX → List Value → World → Prop} {env : List Value} {w : World} : h4_40.wp F Q env w = HC.wp F (.seq (.reg (.chk none (.fld 0) (.cons (.inp 4) .nil) (.eff (.ld false 1) (.cons (.op (.fld 0) (.cons (.inp 4) .nil)) .nil) (.chk none (.fld 1) (.cons (.inp 4) .nil) (.eff (.ld false 1) (.cons (.op (.fld 1) (.cons (.inp 4) .nil)) .nil) (.chk none (.fld 2) (.cons (.inp 4) .nil) (.eff (.ld false 1) (.cons (.op (.fld 2) (.cons (.inp 4) .nil)) .nil) (.eff (.call 7) (.cons (.bv 0) (.cons (.bv 1) (.cons (.bv 2) .nil))) (.chk none (.ext 0) (.cons (.bv 3) .nil) (.chk none (.ext 1) (.cons (.bv 3) .nil) (.done [(6, (.op (.ext 0) (.cons (.bv 3) .nil))), (7, (.op (.ext 1) (.cons (.bv 3) .nil)))] none))))))))))) h4_39) Q env w := rfl
def h4_41 : HC := (.seq (.reg (.done [(5, (.cst (.bool false)))] none)) .ret)
@[simp] theorem h4_41_wp {P : Program} {F : PF P} {Q : EX → List Value → World → Prop} {env : List Value} {w : World} : h4_41.wp F Q env w = HC.wp F (.seq (.reg (.done [(5, (.cst (.bool false)))] none)) .ret) Q env w := rfl
def h4_42 : HC := (.seq (.br (.eff (.call 6) .nil (.chk none (.un .not) (.cons (.bv 0) .nil) (.done [] (some (.op (.un .not) (.cons (.bv 0) .nil)))))) h4_41 .skip) h4_40)
@[simp] theorem h4_42_wp {P : Program} {F : PF P} {Q : EX → List Value → World → Prop} {env : List Value} {w : World} : h4_42.wp F Q env w = HC.wp F (.seq (.br (.eff (.call 6) .nil (.chk none (.un .not) (.cons (.bv 0) .nil) (.done [] (some (.op (.un .not) (.cons (.bv 0) .nil)))))) h4_41 .skip) h4_40) Q env w := rfl
def l4 : Lifted := ⟨[0, 1, 2, 3, 4, 8, 9, 10, 11, 12, 13, 14, 15, 16, 17, 18, 19, 20, 21, 22, 23, 24, 25, 26, 27, 28], 216, [.slot 5], (.seq (.reg (.eff (.box 27) (.cons (.inp 0) .nil) (.done [(4, (.bv 0)), (5, (.cst (.bool false)))] none))) h4_42)⟩
theorem l4_ok : liftFn E2 4 400 = some l4 := by kernel_rfl


/-- the frame behind the puts -/
abbrev bakA (A : Asn) (p g s : Nat) (lg : Int) (E0 E : Eco) (B : List Gf) (was things back : Value) : Asn :=
  A * own 76 2 was E0.P.rows.length (Pu.flat E0.P.rows) * own 72 4 things E0.its.length (Gd.flat E0.its) * ecoA p g s lg E * own 60 3 back B.length (gflat B)
set_option maxHeartbeats 1000000 in
/-- all goes back -/
theorem back_end (p g s : Nat) (lp lg c : Int) (E0 E : Eco) (B : List Gf) (was things back : Value) (w0 w : World) (A : Asn) (o0 o2 o3 o4 o5 o7 o9 o11 o15 o16 o17 o18 o19 o20 o21 o22 o23 o24 o25 : Value)
    (hE0 : EI lp lg E0) (hE : EI lp lg E) (hJ : J c E0 E B) (hc : 1 ≤ c ∧ c < 9223372036854775808) (h0 : Gd.inF E0.its c = []) (hB : B.length ≤ 2097152) (hx : ∀ x ∈ B, x.coins < 18446744073709551616) (h : St w0 (bakA A p g s lg E0 E B was things back) w) :
    HC.wp E2 h4_1 (endQ Try.prog [.slot 5] (fun r w' => r = .bool true ∧ St w0 A w'))
      [o0, .int .i64 c, o2, o3, o4, o5, .pointer (some ⟨p, 0, none⟩), o7, .pointer (some ⟨g, 0, none⟩), o9, .pointer (some ⟨s, 0, none⟩), o11, was, things, back, o15, o16, o17, o18, o19, o20, o21, o22, o23, o24, o25] w := by
  obtain ⟨E', e, hr, hi, hcn, hE'⟩ := back_all hJ hE hc h0
  have hlen : E0.its.length ≤ 1048576 := by have := hE0.G.len; have := hE0.G.lim; omega
  have hplen : E0.P.rows.length ≤ 1048576 := by have := hE0.P.bd.len; omega
  simp
  have s1 : St w0 (A * own 76 2 was E0.P.rows.length (Pu.flat E0.P.rows) * own 72 4 things E0.its.length (Gd.flat E0.its) * own 60 3 back B.length (gflat B) * ecoA p g s lg E) w := h.to (by simp only [bakA]; ac_rfl)
  refine eff_call ((End_spec p g s lp lg c B back E w0 w _ hE ⟨by omega, hc.2⟩ (fun x hx' => ⟨(hJ.each x hx').2.1, hx x hx'⟩) (by omega) (row_own s1.drop) s1).mono ?_)
  rintro r w1 ⟨rfl, s2⟩
  rw [e] at s2 ⊢
  simp
  have s2 : St w0 (A * own 76 2 was E0.P.rows.length (Pu.flat E0.P.rows) * own 72 4 things E0.its.length (Gd.flat E0.its) * own 60 3 back B.length (gflat B) * Gd.gds g lg E'.its * esc s p g E'.l * Pu.pur p E'.P) w1 := s2.to (by simp only [ecoA]; ac_rfl)
  refine eff_call ((Pu.Rows_spec p E'.P w0 w1 _ (by rw [hr]; exact hplen) s2).mono ?_)
  intro rv w2 s3
  simp
  rw [hr] at s3
  refine eff_call ((accounts_spec E0.P.rows E0.P.rows rv was w0 w2 _ hplen (row_own s3) (row_in (e := 76) (B := A * own 72 4 things E0.its.length (Gd.flat E0.its) * own 60 3 back B.length (gflat B) * Gd.gds g lg E'.its * esc s p g E'.l * Pu.pur p E'.P * own 76 2 rv E0.P.rows.length (Pu.flat E0.P.rows)) s3 (by ac_rfl)) s3).mono ?_)
  rintro r w3 ⟨rfl, s4⟩
  simp
  have s5 : St w0 (A * own 76 2 was E0.P.rows.length (Pu.flat E0.P.rows) * own 72 4 things E0.its.length (Gd.flat E0.its) * own 60 3 back B.length (gflat B) * Pu.pur p E'.P * esc s p g E'.l * Gd.gds g lg E'.its) w3 := s4.drop.to (by ac_rfl)
  refine eff_call ((Gd.Rows_spec g lg E'.its w0 w3 _ (by rw [hi]; exact hlen) s5).mono ?_)
  intro iv w4 s6
  simp
  rw [hi] at s6
  refine eff_call ((items_spec E0.its E0.its iv things w0 w4 _ hlen (row_own s6) (row_in (e := 72) (B := A * own 76 2 was E0.P.rows.length (Pu.flat E0.P.rows) * own 60 3 back B.length (gflat B) * Pu.pur p E'.P * esc s p g E'.l * Gd.gds g lg E0.its * own 72 4 iv E0.its.length (Gd.flat E0.its)) s6 (by ac_rfl)) s6).mono ?_)
  rintro r w5 ⟨rfl, s7⟩
  simp
  refine eff_call ((Coins_spec s p g E'.l c w0 w5 (A * own 76 2 was E0.P.rows.length (Pu.flat E0.P.rows) * own 72 4 things E0.its.length (Gd.flat E0.its) * own 60 3 back B.length (gflat B) * Pu.pur p E'.P * Gd.gds g lg E0.its) hE'.R (s7.drop.to (by ac_rfl))).mono ?_)
  rintro r w6 ⟨rfl, rfl⟩
  rw [hcn]
  simp
  exact s7.cut (own 76 2 was E0.P.rows.length (Pu.flat E0.P.rows) * own 72 4 things E0.its.length (Gd.flat E0.its) * own 60 3 back B.length (gflat B) * Pu.pur p E'.P * esc s p g E'.l * Gd.gds g lg E0.its * own 72 4 iv E0.its.length (Gd.flat E0.its)) (by ac_rfl)
set_option maxHeartbeats 2000000 in
/-- what is refused -/
theorem back_tests (p g s k : Nat) (lp lg c : Int) (E0 E : Eco) (B : List Gf) (was things : Value) (ba : Option Addr) (bcap : Nat) (w0 w : World) (A : Asn) (o0 o2 o3 o4 o5 o7 o9 o11 o15 o16 o17 o19 o20 o21 o22 o23 o24 o25 : Value)
    (hE0 : EI lp lg E0) (hE : EI lp lg E) (hJ : J c E0 E B) (hc : 1 ≤ c ∧ c < 9223372036854775808) (h0 : Gd.inF E0.its c = []) (hB : B.length ≤ 2097152) (hx : ∀ x ∈ B, x.coins < 18446744073709551616) (hk : k < B.length) (h : St w0 (bakA A p g s lg E0 E B was things (.slice ba B.length bcap)) w) :
    HC.wp E2 h4_13 (seqQ E2 h4_1 (endQ Try.prog [.slot 5] (fun r w' => r = .bool true ∧ St w0 A w')))
      [o0, .int .i64 c, o2, o3, o4, o5, .pointer (some ⟨p, 0, none⟩), o7, .pointer (some ⟨g, 0, none⟩), o9, .pointer (some ⟨s, 0, none⟩), o11, was, things, .slice ba B.length bcap, o15, o16, o17, .int .i64 k, o19, o20, o21, o22, o23, o24, o25] w := by
  obtain ⟨bg, bc', hv, hcap, hcells⟩ := h.own_at (by omega)
  cases hv
  have hb : ∀ {F : Asn} (w : World), St w0 (bakA A p g s lg E0 E B was things (.slice (some ⟨bg, 0, none⟩) B.length bcap) * F) w → ∀ j u, (gflat B)[j]? = some u → w.cell? ⟨bg, 0 + j, none⟩ = some u := fun {F} w s j u hu => by
    obtain ⟨_, _, hv, _, hc⟩ := s.drop.own_at (by omega)
    cases hv
    rw [Nat.zero_add]; exact hc j u hu
  generalize hBB : bakA A p g s lg E0 E B was things (.slice (some ⟨bg, 0, none⟩) B.length bcap) = BB at h hb
  have hkc : (k : Int) ≤ bcap := by omega
  have hgx : ∀ x ∈ B, 0 ≤ x.coins ∧ x.coins < 18446744073709551616 := fun x hx' => ⟨(hJ.each x hx').2.1, hx x hx'⟩
  simp
  have hk0 : k ≤ bcap := by omega
  simp [hk0, Pu.add_zero]
  refine eff_appR (own_nilS h 60 3) (row_take (fun w s => hb w s) (by omega) hk0) (gflat_one _) (by decide) rfl (by simp; unfold maxLen; omega) (by simp; omega) fun l1 w1 s1 => ?_
  have s1 : St w0 (BB * own 60 3 l1 k (gflat (B.take k))) w1 := by
    have e : (B.take k).length = k := by rw [List.length_take]; omega
    rw [e] at s1
    simpa using s1
  simp
  try simp (disch := omega) only [wrap64]
  have hk1 : (k : Int) + 1 ≤ B.length := by omega
  have hk1' : ((k : Int) + 1).toNat = k + 1 := by omega
  simp [hk1, hk1']
  refine ⟨by omega, ?_⟩
  have hrow : ∀ {F : Asn}, Row w0 (BB * F) (.slice (if bcap = k + 1 then some ⟨bg, 0, none⟩ else some ⟨bg, (k + 1) * 3, none⟩) (B.length - (k + 1)) (bcap - (k + 1))) (B.drop (k + 1)).length 3 (gflat (B.drop (k + 1))) := fun {F} => by
    split
    · have e : B.drop (k + 1) = [] := List.drop_of_length_le (by omega)
      have e2 : B.length - (k + 1) = 0 := by omega
      rw [e, e2]
      exact ⟨rfl, _, _, rfl, Nat.zero_le _, .inl rfl⟩
    · have := row_drop (w0 := w0) (A := BB * F) (g := bg) (o := 0) (cap := bcap - (k + 1)) (l := B) (k := k + 1) (n := B.length - (k + 1)) (fun w s => hb w s) (by omega) rfl (by omega)
      rw [Nat.zero_add] at this
      exact this
  refine eff_appR s1 hrow (gflat_one _) (by decide) rfl (by simp; unfold maxLen; omega) (by simp; omega) fun l2 w2 s2 => ?_
  have s2 : St w0 (BB * own 60 3 l2 (B.take k ++ B.drop (k + 1)).length (gflat (B.take k ++ B.drop (k + 1)))) w2 := by
    rw [List.length_append, gflat_app]
    have e : (B.take k).length = k := by rw [List.length_take]; omega
    rw [e]
    exact s2
  clear s1 h
  generalize hless : B.take k ++ B.drop (k + 1) = less at *
  have hll : less.length + 1 = B.length := by rw [← hless, List.length_append, List.length_take, List.length_drop]; omega
  have hlx : ∀ x ∈ less, 0 ≤ x.coins ∧ x.coins < 18446744073709551616 := fun x hx' => hgx x (by
    rw [← hless] at hx'
    rcases List.mem_append.1 hx' with q | q
    · exact List.mem_of_mem_take q
    · exact List.mem_of_mem_drop q)
  simp [Instr.fill, Value.cells]
  -- a coin more
  refine eff_bslN (vs := [.agg (Gf.cs ⟨0, 0, 1⟩).toArray]) s2 (by simp [Value.cells, Gf.cs]) rfl rfl (by decide) fun m1 w3 s3 => ?_
  simp
  have s3 : St w0 (BB * own 60 3 l2 less.length (gflat less) * own 60 3 m1 1 (gflat [⟨0, 0, 1⟩])) w3 := by simpa [gflat] using s3
  have rowB : ∀ {F : Asn}, Row w0 (BB * F) (.slice (some ⟨bg, 0, none⟩) B.length bcap) B.length 3 (gflat B) := fun {F} =>
    ⟨gflat_len B, _, _, rfl, hcap, .inr ⟨bg, 0, rfl, fun w s => hb w s⟩⟩
  refine eff_appR s3 (by rw [sep_assoc]; exact rowB) (gflat_one _) (by decide) rfl (by unfold maxLen; omega) (by omega) fun m2 w4 s4 => ?_
  have s4 : St w0 (BB * own 60 3 l2 less.length (gflat less) * own 60 3 m2 ((⟨0, 0, 1⟩ : Gf) :: B).length (gflat (⟨0, 0, 1⟩ :: B))) w4 := by
    have e : gflat (⟨0, 0, 1⟩ :: B) = gflat [⟨0, 0, 1⟩] ++ gflat B := by rw [← gflat_app]; rfl
    rw [e, List.length_cons, Nat.add_comm B.length 1]
    exact s4
  simp
  -- one twice
  have hkl : (k : Int) < B.length := by omega
  have hBk : ∀ {F : Asn} {w : World}, St w0 (BB * F) w → ∀ j u, (B[k].cs)[j]? = some u → w.cell? ⟨bg, k * 3 + j, none⟩ = some u := fun s j u hu => by
    have := hb _ s _ _ (gflat_at hk j u hu)
    rwa [Nat.zero_add] at this
  simp [hkl, hk]
  refine eff_ldcs (vs := B[k].cs) (hBk (s4.to (sep_assoc _ _ _))) rfl ?_
  simp
  refine eff_bslN (vs := [.agg B[k].cs.toArray]) s4 (by simp [Value.cells, Gf.cs]) rfl rfl (by decide) fun t1 w5 s5 => ?_
  simp
  have s5 : St w0 (BB * own 60 3 l2 less.length (gflat less) * own 60 3 m2 ((⟨0, 0, 1⟩ : Gf) :: B).length (gflat (⟨0, 0, 1⟩ :: B)) * own 60 3 t1 1 (gflat [B[k]])) w5 := by simpa [gflat] using s5
  refine eff_appR s5 (by rw [sep_assoc, sep_assoc]; exact rowB) (gflat_one _) (by decide) rfl (by unfold maxLen; omega) (by omega) fun t2 w6 s6 => ?_
  have s6 : St w0 (BB * own 60 3 l2 less.length (gflat less) * own 60 3 m2 ((⟨0, 0, 1⟩ : Gf) :: B).length (gflat (⟨0, 0, 1⟩ :: B)) * own 60 3 t2 (B[k] :: B).length (gflat (B[k] :: B))) w6 := by
    have e : gflat (B[k] :: B) = gflat [B[k]] ++ gflat B := by rw [← gflat_app]; rfl
    have e3 : (B[k] :: B).length = 1 + B.length := by simp [Nat.add_comm]
    rw [e, e3]
    exact s6
  simp
  have r1 : turnF c less (endE c) E = (170, E) := by rw [← hless]; exact back_less hJ hE hc hk
  have r2 := back_more hJ hE hc
  have r3 := back_twice hJ hE hc (List.getElem_mem hk)
  have s7 : St w0 (A * own 76 2 was E0.P.rows.length (Pu.flat E0.P.rows) * own 72 4 things E0.its.length (Gd.flat E0.its) * own 60 3 (.slice (some ⟨bg, 0, none⟩) B.length bcap) B.length (gflat B) * own 60 3 l2 less.length (gflat less) * own 60 3 m2 ((⟨0, 0, 1⟩ : Gf) :: B).length (gflat (⟨0, 0, 1⟩ :: B)) * own 60 3 t2 (B[k] :: B).length (gflat (B[k] :: B)) * ecoA p g s lg E) w6 := s6.to (by rw [← hBB]; simp only [bakA]; ac_rfl)
  have hc2 : -9223372036854775808 ≤ c ∧ c < 9223372036854775808 := ⟨by omega, hc.2⟩
  have hmx : ∀ x ∈ (⟨0, 0, 1⟩ : Gf) :: B, 0 ≤ x.coins ∧ x.coins < 18446744073709551616 := fun x hx' => by
    rcases List.mem_cons.1 hx' with rfl | hx'
    · decide
    · exact hgx x hx'
  have htx : ∀ x ∈ B[k] :: B, 0 ≤ x.coins ∧ x.coins < 18446744073709551616 := fun x hx' => by
    rcases List.mem_cons.1 hx' with rfl | hx'
    · exact hgx _ (List.getElem_mem hk)
    · exact hgx x hx'
  have hl2 := row_own s7.drop.drop.drop
  have hm2 := row_own s7.drop.drop
  have ht2 := row_own s7.drop
  refine eff_call ((End_spec p g s lp lg c less l2 E w0 w6 _ hE hc2 hlx (by omega) (hl2.mono fun w s => s.drop.drop) s7).mono ?_)
  rintro r w7 ⟨rfl, s8⟩
  rw [r1] at s8 ⊢
  simp
  refine eff_call ((End_spec p g s lp lg c _ m2 E w0 w7 _ hE hc2 hmx (by simp; omega) (hm2.mono fun w s => s.drop) s8).mono ?_)
  rintro r w8 ⟨rfl, s9⟩
  rw [r2] at s9 ⊢
  simp
  refine eff_call ((End_spec p g s lp lg c _ t2 E w0 w8 _ hE hc2 htx (by simp; omega) ht2 s9).mono ?_)
  rintro r w9 ⟨rfl, s10⟩
  rw [r3] at s10 ⊢
  simp
  have := back_end p g s lp lg c E0 E B was things (.slice (some ⟨bg, 0, none⟩) B.length bcap) w0 w9 A o0 o2 o3 o4 o5 o7 o9 o11 o15 o16 o17 (.int .i64 k) l2 m2 t2 (.int .i64 170) (.int .i64 170) (.int .i64 170) o25 hE0 hE hJ hc h0 (by omega) hx
    (s10.cut (own 60 3 l2 less.length (gflat less) * own 60 3 m2 ((⟨0, 0, 1⟩ : Gf) :: B).length (gflat (⟨0, 0, 1⟩ :: B)) * own 60 3 t2 (B[k] :: B).length (gflat (B[k] :: B))) (by simp only [bakA]; ac_rfl))
  simpa using this
end Go.HL.Es

namespace Go.HL.Es
open Go.HL Go.Proofs
set_option maxRecDepth 4000
set_option linter.unusedSimpArgs false
set_option linter.unusedVariables false
theorem back_fin (p g s : Nat) (lp lg c part : Int) (E0 E : Eco) (B : List Gf) (was things back : Value) (w0 w : World) (A : Asn) (o0 o2 o4 o5 o7 o9 o11 o15 o16 o17 o18 o19 o20 o21 o22 o23 o24 o25 : Value)
    (hE0 : EI lp lg E0) (hE : EI lp lg E) (hJ : J c E0 E B) (hc : 1 ≤ c ∧ c < 9223372036854775808) (h0 : Gd.inF E0.its c = []) (hB : B.length ≤ 2097152) (hx : ∀ x ∈ B, x.coins < 18446744073709551616) (h : St w0 (bakA A p g s lg E0 E B was things back) w) :
    HC.wp E2 h4_17 (endQ Try.prog [.slot 5] (fun r w' => r = .bool true ∧ St w0 A w'))
      [o0, .int .i64 c, o2, .int .i64 part, o4, o5, .pointer (some ⟨p, 0, none⟩), o7, .pointer (some ⟨g, 0, none⟩), o9, .pointer (some ⟨s, 0, none⟩), o11, was, things, back, o15, o16, o17, o18, o19, o20, o21, o22, o23, o24, o25] w := by
  obtain ⟨ba, bcap, rfl, _⟩ := h.own_val
  simp
  refine cndI (fun hl => ?_) (fun hl => ?_)
  · simp at hl
    have hlt := Int.tmod_lt_of_pos part (b := (B.length : Int)) (by omega)
    have hgt := Int.lt_tmod_of_pos part (b := (B.length : Int)) (by omega)
    simp
    refine ⟨by rintro rfl; simp at hl, ?_⟩
    try simp (disch := omega) only [wrap64]
    obtain ⟨r, hr⟩ : ∃ r, part.tmod (B.length : Int) = r := ⟨_, rfl⟩
    rw [hr] at hlt hgt ⊢
    refine cndI (fun hn => ?_) (fun hn => ?_)
    · simp at hn
      simp
      try simp (disch := omega) only [wrap64]
      obtain ⟨k, hk⟩ : ∃ k : Nat, r + (B.length : Int) = k := ⟨(r + (B.length : Int)).toNat, by omega⟩
      rw [hk]
      have := back_tests p g s k lp lg c E0 E B was things ba bcap w0 w A o0 o2 (.int .i64 part) o4 o5 o7 o9 o11 o15 o16 o17 o19 o20 o21 o22 o23 o24 o25 hE0 hE hJ hc h0 hB hx (by omega) h
      simpa using this
    · simp at hn
      simp
      obtain ⟨k, hk⟩ : ∃ k : Nat, r = k := ⟨r.toNat, by omega⟩
      rw [hk]
      have := back_tests p g s k lp lg c E0 E B was things ba bcap w0 w A o0 o2 (.int .i64 part) o4 o5 o7 o9 o11 o15 o16 o17 o19 o20 o21 o22 o23 o24 o25 hE0 hE hJ hc h0 hB hx (by omega) h
      simpa using this
  · simp
    have := back_end p g s lp lg c E0 E B was things (.slice ba B.length bcap) w0 w A o0 o2 (.int .i64 part) o4 o5 o7 o9 o11 o15 o16 o17 o18 o19 o20 o21 o22 o23 o24 o25 hE0 hE hJ hc h0 (by omega) hx h
    simpa using this
theorem J_nil {lp lg c : Int} {E0 : Eco} (hE : EI lp lg E0) (h : cns E0.l c = 0) : J c E0 E0 [] :=
  ⟨rfl, fun _ _ => rfl, fun k hk => by simp [toK], h, rfl, fun _ _ _ => rfl, by simp, by simp, by simp⟩
theorem ew_one {e : Ew} (h : e.wv.oneCell' = true) : ∀ u ∈ e.cs, u.oneCell' = true := by
  intro u hu
  simp only [Ew.cs, Et.cs, List.mem_cons, List.not_mem_nil, or_false] at hu
  rcases hu with rfl | rfl | rfl | rfl | rfl
  · rfl
  · rfl
  · rfl
  · rfl
  · exact h
theorem eta_bb (E : Eco) (c : Int) (x : Et) : turnF c [] (putE c x) E = if c < 1 then (2, E) else if (putE c x E).1 = 0 then (0, (putE c x E).2) else ((putE c x E).1, E) := by
  unfold turnF
  by_cases h1 : c < 1
  · simp [h1]
  · by_cases h2 : (putE c x E).1 = 0
    · simp [giveL, h1, h2]
    · simp [giveL, h1, h2]
set_option maxHeartbeats 1000000 in
theorem back_loop (p g s b : Nat) (lp lg c part : Int) (E0 : Eco) (ents : List Ew) (ve was things : Value) (w0 w : World) (A : Asn) (o0 o5 o7 o9 o11 o14 o15 o16 o17 o18 o19 o20 o21 o22 o23 o24 o25 : Value)
    (hE0 : EI lp lg E0) (hc : 1 ≤ c ∧ c < 9223372036854775808) (h0 : Gd.inF E0.its c = []) (hc0 : cns E0.l c = 0) (hn : ents.length ≤ 1048576) (hr : Row w0 A ve ents.length 5 (eflat ents)) (hx : ∀ e ∈ ents, e.wv.oneCell' = true ∧ 0 ≤ e.x.coins ∧ e.x.coins < 18446744073709551616)
    (h : St w0 (A * own 76 2 was E0.P.rows.length (Pu.flat E0.P.rows) * own 72 4 things E0.its.length (Gd.flat E0.its) * ecoA p g s lg E0) w) :
    HC.wp E2 h4_31 (endQ Try.prog [.slot 5] (fun r w' => r = .bool true ∧ St w0 A w'))
      [o0, .int .i64 c, ve, .int .i64 part, .pointer (some ⟨b, 0, none⟩), o5, .pointer (some ⟨p, 0, none⟩), o7, .pointer (some ⟨g, 0, none⟩), o9, .pointer (some ⟨s, 0, none⟩), o11, was, things, o14, o15, o16, o17, o18, o19, o20, o21, o22, o23, o24, o25] w := by
  obtain ⟨ea, ecap, rfl⟩ := hr.val
  simp
  refine loopI (fun env w' => ∃ (i : Nat) (E : Eco) (B : List Gf) (back o16 o17 : Value), env = [o0, .int .i64 c, .slice ea ents.length ecap, .int .i64 part, .pointer (some ⟨b, 0, none⟩), o5, .pointer (some ⟨p, 0, none⟩), o7, .pointer (some ⟨g, 0, none⟩), o9, .pointer (some ⟨s, 0, none⟩), o11, was, things, back, .int .i64 i, o16, o17, o18, o19, o20, o21, o22, o23, o24, o25] ∧
      i ≤ ents.length ∧ EI lp lg E ∧ J c E0 E B ∧ B.length ≤ 2 * i ∧ (∀ x ∈ B, x.coins < 18446744073709551616) ∧ St w0 (bakA A p g s lg E0 E B was things back) w')
    (fun env _ => ents.length - slotN env 15) ⟨0, E0, [], _, _, _, rfl, by omega, hE0, J_nil hE0 hc0, by simp, by simp, h.own_nil 60 3⟩ ?_
  rintro LQ env w' ⟨i, E, B, back, o16, o17, rfl, hi, hE, hJ, hB, hBx, s1⟩ hN hX hR
  obtain ⟨ba, bcap, rfl, _⟩ := s1.own_val
  simp
  refine cndI (fun hl => ?_) (fun hl => ?_)
  · simp at hl
    obtain ⟨eg, eo, ecap', hv, hcell⟩ := hr.at (by omega)
    cases hv
    simp [hl]
    obtain ⟨hw1, hx1⟩ := hx ents[i] (List.getElem_mem hl)
    have sA : St w0 A w' := s1.cut (own 76 2 was E0.P.rows.length (Pu.flat E0.P.rows) * own 72 4 things E0.its.length (Gd.flat E0.its) * ecoA p g s lg E * own 60 3 (.slice ba B.length bcap) B.length (gflat B)) (by simp only [bakA]; ac_rfl)
    obtain ⟨x, hxe⟩ : ∃ x, ents[i] = x := ⟨_, rfl⟩
    have hcl : ∀ j u, (x.cs)[j]? = some u → w'.cell? ⟨eg, eo + i * 5 + j, none⟩ = some u := fun j u hu => by
      rw [Nat.add_assoc]; exact hcell w' sA _ _ (eflat_at hl j u (by rw [hxe]; exact hu))
    rw [hxe] at hw1 hx1
    refine eff_ldcs (vs := x.cs) hcl rfl ?_
    simp
    refine eff_new s1 fun q w3 s3 => ?_
    simp
    refine eff_stA (vs := x.cs) s3 rfl rfl (ew_one hw1) (by simp) fun w4 s4 => ?_
    simp
    have s4 : St w0 (bakA A p g s lg E0 E B was things (.slice ba B.length bcap) * pt q (.cells x.cs.toArray 46 (0, 0))) w4 := by simpa [Ew.cs, Et.cs] using s4
    refine eff_ldcs (vs := x.cs) s4.row_cells rfl ?_
    simp
    have s5 : St w0 (A * own 76 2 was E0.P.rows.length (Pu.flat E0.P.rows) * own 72 4 things E0.its.length (Gd.flat E0.its) * own 60 3 (.slice ba B.length bcap) B.length (gflat B) * pt q (.cells x.cs.toArray 46 (0, 0)) * ecoA p g s lg E) w4 := s4.to (by simp only [bakA]; ac_rfl)
    refine eff_call ((Put_spec p g s lp lg c x.pr x.x x.wv E w0 w4 _ hE ⟨by omega, hc.2⟩ hx1 s5).mono ?_)
    rintro r w5 ⟨rfl, s6⟩
    rw [eta_bb, if_neg (by omega)] at s6 ⊢
    by_cases hp : (putE c x.x E).1 = 0
    · rw [if_pos hp] at s6 ⊢
      have hE' := put_ei hE hc hx1 (x := x.x)
      have hJ' := hJ.put hE hc hx1.1 hp
      obtain ⟨E', hEe⟩ : ∃ E', (putE c x.x E).2 = E' := ⟨_, rfl⟩
      rw [hEe] at hE' hJ' s6
      have s7 : St w0 (A * own 76 2 was E0.P.rows.length (Pu.flat E0.P.rows) * own 72 4 things E0.its.length (Gd.flat E0.its) * ecoA p g s lg E' * pt q (.cells x.cs.toArray 46 (0, 0)) * own 60 3 (.slice ba B.length bcap) B.length (gflat B)) w5 := s6.to (by ac_rfl)
      have fld : ∀ {bk : Value} {B1 : List Gf} {w : World}, St w0 (A * own 76 2 was E0.P.rows.length (Pu.flat E0.P.rows) * own 72 4 things E0.its.length (Gd.flat E0.its) * ecoA p g s lg E' * pt q (.cells x.cs.toArray 46 (0, 0)) * own 60 3 bk B1.length (gflat B1)) w → ∀ j u, x.cs[j]? = some u → w.cell? ⟨q, j, none⟩ = some u := fun h j u hu => by
        have := h.drop.row_cells j u hu
        simpa using this
      have fin : ∀ (bk : Value) (w7 : World), St w0 (A * own 76 2 was E0.P.rows.length (Pu.flat E0.P.rows) * own 72 4 things E0.its.length (Gd.flat E0.its) * ecoA p g s lg E' * pt q (.cells x.cs.toArray 46 (0, 0)) * own 60 3 bk (B ++ giftsOf x.x).length (gflat (B ++ giftsOf x.x))) w7 →
          HC.wp E2 h4_18 LQ [o0, .int .i64 c, .slice (some ⟨eg, eo, none⟩) ents.length ecap, .int .i64 part, .pointer (some ⟨b, 0, none⟩), o5, .pointer (some ⟨p, 0, none⟩), o7, .pointer (some ⟨g, 0, none⟩), o9, .pointer (some ⟨s, 0, none⟩), o11, was, things, bk, .int .i64 i, .pointer (some ⟨q, 0, none⟩), .int .i64 0, o18, o19, o20, o21, o22, o23, o24, o25] w7 := by
        intro bk w7 h7
        simp
        try simp (disch := omega) only [wrap64]
        have hgl := gifts_len x.x
        refine hN _ _ ⟨i + 1, E', B ++ giftsOf x.x, bk, _, _, by simp; exact ⟨rfl, rfl⟩, by omega, hE', hJ', by rw [List.length_append]; omega, fun y hy => ?_, h7.cut (pt q (.cells x.cs.toArray 46 (0, 0))) (by simp only [bakA]; ac_rfl)⟩ (by simp [slotN]; omega)
        rcases List.mem_append.1 hy with hy | hy
        · exact hBx y hy
        · rcases gifts_mem hy with ⟨_, rfl⟩ | ⟨_, rfl⟩
          · simp only; omega
          · exact hx1.2
      have coins : ∀ (ga : Option Addr) (gc : Nat) (B1 : List Gf) (w6 : World), B1.length ≤ B.length + 1 → B1 ++ (if x.x.coins ≠ 0 then [⟨x.x.acc, 0, x.x.coins⟩] else []) = B ++ giftsOf x.x →
          St w0 (A * own 76 2 was E0.P.rows.length (Pu.flat E0.P.rows) * own 72 4 things E0.its.length (Gd.flat E0.its) * ecoA p g s lg E' * pt q (.cells x.cs.toArray 46 (0, 0)) * own 60 3 (.slice ga B1.length gc) B1.length (gflat B1)) w6 →
          HC.wp E2 h4_20 (blockQ 1 (seqQ E2 h4_18 LQ)) [o0, .int .i64 c, .slice (some ⟨eg, eo, none⟩) ents.length ecap, .int .i64 part, .pointer (some ⟨b, 0, none⟩), o5, .pointer (some ⟨p, 0, none⟩), o7, .pointer (some ⟨g, 0, none⟩), o9, .pointer (some ⟨s, 0, none⟩), o11, was, things, .slice ga B1.length gc, .int .i64 i, .pointer (some ⟨q, 0, none⟩), .int .i64 0, o18, o19, o20, o21, o22, o23, o24, o25] w6 := by
        intro ga gc B1 w6 hB1 he h6
        simp
        refine eff_ldc (v := .int .u64 x.x.coins) (fld h6 2 _ rfl) ?_
        simp
        refine cndI (fun hz => ?_) (fun hz => ?_)
        · simp at hz
          rw [if_pos hz] at he
          simp
          refine eff_ldc (v := .int .i64 x.x.acc) (fld h6 0 _ rfl) ?_
          simp
          refine eff_ldc (v := .int .u64 x.x.coins) (fld h6 2 _ rfl) ?_
          simp [Instr.fill, Value.cells]
          refine eff_bslV (v := .agg (Gf.cs ⟨x.x.acc, 0, x.x.coins⟩).toArray) h6 rfl fun bb w7 h7 => ?_
          simp
          refine eff_app (m := 1) (news := Gf.cs ⟨x.x.acc, 0, x.x.coins⟩) h7.swap rfl h7.cells_look (gf_one _) (by decide) rfl (by unfold maxLen; omega) (by omega) fun v2 w8 h8 => ?_
          have e1 : gflat B1 ++ Gf.cs ⟨x.x.acc, 0, x.x.coins⟩ = gflat (B ++ giftsOf x.x) := by rw [← he, gflat_app]; simp [gflat]
          have e2 : B1.length + 1 = (B ++ giftsOf x.x).length := by rw [← he]; simp
          rw [e1, e2] at h8
          have := fin v2 w8 (h8.swap.drop)
          simpa using this
        · simp at hz
          rw [if_neg (by simp [hz]), List.append_nil] at he
          simp
          rw [he] at h6 ⊢
          have := fin _ w6 h6
          simpa using this
      simp
      refine eff_ldc (v := .int .i64 x.x.item) (fld s7 1 _ rfl) ?_
      simp
      refine cndI (fun hz => ?_) (fun hz => ?_)
      · simp at hz
        simp
        refine eff_ldc (v := .int .i64 x.x.acc) (fld s7 0 _ rfl) ?_
        simp
        refine eff_ldc (v := .int .i64 x.x.item) (fld s7 1 _ rfl) ?_
        simp [Instr.fill, Value.cells]
        refine eff_bslV (v := .agg (Gf.cs ⟨x.x.acc, x.x.item, 0⟩).toArray) s7 rfl fun bb w7 h7 => ?_
        simp
        refine eff_app (m := 1) (news := Gf.cs ⟨x.x.acc, x.x.item, 0⟩) h7.swap rfl h7.cells_look (gf_one _) (by decide) rfl (by unfold maxLen; omega) (by omega) fun v2 w8 h8 => ?_
        have e1 : gflat B ++ Gf.cs ⟨x.x.acc, x.x.item, 0⟩ = gflat (B ++ [⟨x.x.acc, x.x.item, 0⟩]) := by rw [gflat_app]; simp [gflat]
        have e2 : B.length + 1 = (B ++ [(⟨x.x.acc, x.x.item, 0⟩ : Gf)]).length := by simp
        rw [e1, e2] at h8
        obtain ⟨ga, gc, rfl, _⟩ := h8.own_val
        have := coins ga gc (B ++ [⟨x.x.acc, x.x.item, 0⟩]) w8 (by simp) (by rw [List.append_assoc]; simp [giftsOf, hz]) h8.swap.drop
        simpa using this
      · simp at hz
        simp
        have := coins ba bcap B w5 (by omega) (by simp [giftsOf, hz]) s7
        simpa using this
    · rw [if_neg hp] at s6 ⊢
      simp [hp]
      try simp (disch := omega) only [wrap64]
      exact hN _ _ ⟨i + 1, E, B, _, _, _, by simp; exact ⟨rfl, rfl, rfl⟩, by omega, hE, hJ, by omega, hBx, s6.cut (pt q (.cells x.cs.toArray 46 (0, 0))) (by simp only [bakA]; ac_rfl)⟩ (by simp [slotN]; omega)
  · simp at hl
    simp
    refine hX _ _ _ ?_
    simp
    have := back_fin p g s lp lg c part E0 E B was things (.slice ba B.length bcap) w0 w' A o0 (.slice ea ents.length ecap) (.pointer (some ⟨b, 0, none⟩)) o5 o7 o9 o11 (.int .i64 i) o16 o17 o18 o19 o20 o21 o22 o23 o24 o25 hE0 hE hJ hc h0 (by omega) hBx s1
    simpa using this
set_option maxHeartbeats 1000000 in
theorem back_walk (bg : Begin) (c part : Int) (ents : List Ew) (ve : Value) (w0 w : World) (A : Asn) (hc0 : -9223372036854775808 ≤ c ∧ c ≤ 9223372036854775807) (hb : bg.ok w0 A) (hn : ents.length ≤ 1048576) (hr : Row w0 A ve ents.length 5 (eflat ents))
    (hx : ∀ e ∈ ents, e.wv.oneCell' = true ∧ 0 ≤ e.x.coins ∧ e.x.coins < 18446744073709551616) (s : St w0 A w) :
    CallW Try.prog 4 [.agg bg.cs.toArray, .int .i64 c, ve, .int .i64 part] (fun r w' => r = .bool true ∧ St w0 A w') w := by
  refine callW_of_lift l4_ok (by simp [l4]) ?_
  simp [l4]
  refine eff_box s fun b w1 s1 => ?_
  simp
  have s1 : St w0 (A * pt b (.cells bg.cs.toArray 27 (0, 0))) w1 := s1
  have f : ∀ {w : World}, St w0 (A * pt b (.cells bg.cs.toArray 27 (0, 0))) w → ∀ j u, bg.cs[j]? = some u → w.cell? ⟨b, j, none⟩ = some u := fun h j u hu => by
    have := h.row_cells j u hu; simpa using this
  refine eff_call ((awake_spec w0 w1 _ s1).mono ?_)
  rintro r w2 ⟨rfl, s2⟩
  simp
  refine eff_ldc (v := .int .i64 bg.lim) (f s2 0 _ rfl) ?_
  simp
  refine eff_ldc (v := bg.va) (f s2 1 _ rfl) ?_
  simp
  refine eff_ldc (v := .int .u64 bg.sup) (f s2 2 _ rfl) ?_
  simp
  refine eff_call ((Pu.Load_spec bg.lim bg.accs bg.sup bg.va w0 w2 _ hb.laccs hb.sup (fun x hx => (hb.each x hx).1) (fun x hx => (hb.each x hx).2) (hb.accs.mono fun w s => s.drop) s2).mono ?_)
  intro r w3 h3
  -- whether the purse is there or not, the goods are loaded
  have goods : ∀ (pv : Value) (e : Int) (X : Asn) (w3 : World), St w0 (A * pt b (.cells bg.cs.toArray 27 (0, 0)) * X) w3 → w3.cell? ⟨b, 3, none⟩ = some (.int .i64 bg.most) ∧ w3.cell? ⟨b, 4, none⟩ = some bg.vi := fun pv e X w3 h => ⟨f h.drop 3 _ rfl, f h.drop 4 _ rfl⟩
  by_cases hld : (Pu.loadF bg.lim bg.accs bg.sup).1 = 0
  · rw [if_pos hld] at h3
    obtain ⟨p, rfl, s3⟩ := h3
    have hP := getF_accs hld hb.sup.1 hb.each
    generalize (Pu.loadF bg.lim bg.accs bg.sup).2 = P at *
    simp
    refine eff_ldc (goods undef 0 _ _ s3).1 ?_
    simp
    refine eff_ldc (goods undef 0 _ _ s3).2 ?_
    simp
    refine eff_call ((Gd.Load_spec bg.most bg.its bg.vi w0 w3 _ hb.lits (hb.its.mono fun w s => s.drop.drop) s3).mono ?_)
    intro r w4 h4
    by_cases hlg : Gd.loadE bg.most bg.its = 0
    · rw [if_pos hlg] at h4
      obtain ⟨g, rfl, s4⟩ := h4
      have hG := load_gi hlg
      simp
      refine eff_ldc (v := bg.vr) (f s4.drop.drop 5 _ rfl) ?_
      simp
      refine eff_call ((lent_spec bg.rows bg.vr w0 w4 _ hb.lrows (hb.rows.mono fun w s => s.drop.drop.drop) s4).mono ?_)
      intro lv w5 s5
      simp
      have s6 : St w0 (A * pt b (.cells bg.cs.toArray 27 (0, 0)) * lentA lv bg.rows * Pu.pur p P * Gd.gds g bg.most bg.its) w5 := s5.to (by ac_rfl)
      refine eff_call ((Load_spec p g bg.lim bg.most bg.rows lv P bg.its w0 w5 _ hP hb.lrows hb.eachR (lent_row s6.drop.drop) s6).mono ?_)
      rintro r w6 (⟨hz, s, rfl, s7⟩ | ⟨hz, rfl, s7⟩)
      · have hE := load_ei hP hG hz
        have s8 : St w0 (A * ecoA p g s bg.most ⟨P, bg.its, bg.rows⟩) w6 := s7.cut (pt b (.cells bg.cs.toArray 27 (0, 0)) * lentA lv bg.rows) (by ac_rfl)
        clear s7 s6 s5
        obtain ⟨E0, hE0⟩ : ∃ E0 : Eco, (⟨P, bg.its, bg.rows⟩ : Eco) = E0 := ⟨_, rfl⟩
        rw [hE0] at hE s8
        simp
        by_cases h1 : c < 1
        · simp [h1]
          exact s8.drop
        simp [h1]
        have s9 : St w0 (A * Pu.pur p E0.P * Gd.gds g bg.most E0.its * esc s p g E0.l) w6 := s8.to (by simp only [ecoA]; ac_rfl)
        refine eff_call ((Coins_spec s p g E0.l c w0 w6 _ hE.R s9).mono ?_)
        rintro r w7 ⟨rfl, rfl⟩
        simp
        by_cases h2 : cns E0.l c = 0
        · simp [h2]
          refine eff_call ((Items_spec p g s bg.lim bg.most c E0 w0 w7 A hE s8).mono ?_)
          intro r w8 s10
          obtain ⟨ia, icap, rfl, _⟩ := s10.own_val
          simp
          refine cndI (fun h3 => ?_) (fun h3 => ?_)
          · simp
            exact s10.drop.drop
          · simp at h3
            have h0 : Gd.inF E0.its c = [] := by simpa using h3
            have s11 := s10.drop
            clear s10
            have s12 : St w0 (A * Gd.gds g bg.most E0.its * esc s p g E0.l * Pu.pur p E0.P) w8 := s11.to (by simp only [ecoA]; ac_rfl)
            have hplen : E0.P.rows.length ≤ 1048576 := by have := hE.P.bd.len; omega
            have hglen : E0.its.length ≤ 1048576 := by have := hE.G.len; have := hE.G.lim; omega
            simp
            refine eff_call ((Pu.Rows_spec p E0.P w0 w8 _ hplen s12).mono ?_)
            intro was w9 s13
            simp
            have s14 : St w0 (A * own 76 2 was E0.P.rows.length (Pu.flat E0.P.rows) * esc s p g E0.l * Pu.pur p E0.P * Gd.gds g bg.most E0.its) w9 := s13.to (by ac_rfl)
            refine eff_call ((Gd.Rows_spec g bg.most E0.its w0 w9 _ hglen s14).mono ?_)
            intro things w10 s15
            simp
            have := back_loop p g s b bg.lim bg.most c part E0 ents ve was things w0 w10 A (.agg bg.cs.toArray) (.bool false) (.int .i64 0) (.int .i64 0) (.int .i64 0) undef undef undef undef undef undef undef undef undef undef undef undef hE ⟨by omega, by omega⟩ h0 h2 hn hr hx (s15.to (by simp only [ecoA]; ac_rfl))
            simpa using this
        · simp [h2]
          exact s8.drop
      · simp [hz]
        exact s7.drop.drop.drop.drop
    · rw [if_neg hlg] at h4
      obtain ⟨rfl, s4⟩ := h4
      simp [hlg]
      exact s4.drop.drop
  · rw [if_neg hld] at h3
    obtain ⟨rfl, s3⟩ := h3
    have s3' : St w0 (A * pt b (.cells bg.cs.toArray 27 (0, 0)) * emp) w3 := by rw [sep_emp]; exact s3
    simp
    refine eff_ldc (goods undef 0 _ _ s3').1 ?_
    simp
    refine eff_ldc (goods undef 0 _ _ s3').2 ?_
    simp
    refine eff_call ((Gd.Load_spec bg.most bg.its bg.vi w0 w3 _ hb.lits (hb.its.mono fun w s => s.drop) s3).mono ?_)
    intro r w4 h4
    have out : ∀ {w : World}, (if Gd.loadE bg.most bg.its = 0 then ∃ p, r = .tuple #[.pointer (some ⟨p, 0, none⟩), .int .i64 0] ∧ St w0 (A * pt b (.cells bg.cs.toArray 27 (0, 0)) * Gd.gds p bg.most bg.its) w else r = .tuple #[.pointer none, .int .i64 (Gd.loadE bg.most bg.its)] ∧ St w0 (A * pt b (.cells bg.cs.toArray 27 (0, 0))) w) → St w0 A w ∧ ∃ q e, r = .tuple #[.pointer q, .int .i64 e] := fun h => by
      split at h
      · obtain ⟨q, rfl, h⟩ := h; exact ⟨h.drop.drop, _, _, rfl⟩
      · obtain ⟨rfl, h⟩ := h; exact ⟨h.drop, _, _, rfl⟩
    obtain ⟨s4, q, e, rfl⟩ := out h4
    simp [hld]
    exact s4
end Go.HL.Es

namespace Go.Proofs.Ytiokklaedanjbaa.escrowBack
open Go.ChangeShapes Go.WideShapes Go.ChangeAt Go.RowKit Go.WideMaps Go.WideElems
open Go.ChangeMaps (open_string shut_string)
set_option linter.unusedVariables false

theorem own : ownKnob Try.prog.godebug = none := by kernel_rfl

theorem keeps : Go.HL.keepB Try.prog [27, 3, 23, 22, 76, 9, 24, 72, 25, 100, 28, 46, 44] = true := by kernel_rfl

set_option maxRecDepth 10000 in
theorem contract (H : Type) (enc : TypeId × Value → H) (W : World) (base : Nat) (args : Array Value) (ds gs : List (DataW H)) (before : List MemPlace)
    (hval : ∀ (j : Nat) t v, Try.f4.params[j]? = some t → args[j]? = some v → Value.okWide Try.prog W .any base t v)
    (hW : DataW.Whole enc Try.prog Try.f4.params.toList Rows.escrowBackSpec.vars false W args.toList ds gs before) (hk : Rows.uptoSmall H (ds ++ gs) = true) :
    Calls Try.prog 4 args W fun e W' => ∃ v, e = .returned v ∧ Rows.escrowBackSpec.post enc Try.prog Try.f4 false true false false W args v W' := by
  have hW' := hW
  have hlt := hW.lt
  obtain ⟨p, q, hA0, hV, rfl, hfz, hnd⟩ := hW
  have hA : DataW.TrodAll enc Try.prog W 0 (fun _ => true) true Try.f4.params.toList args.toList ds p := hA0
  have hA1 := hA
  rw [Try.params4] at hA hval
  obtain ⟨v0, vs0, d0, ds0, p0, q0, hargs, rfl, rfl, h0, r0⟩ := trodAll_cons hA
  obtain ⟨v1, vs1, d1, ds1, p1, q1, rfl, rfl, rfl, h1, r1⟩ := trodAll_cons r0
  obtain ⟨v2, vs2, d2, ds2, p2, q2, rfl, rfl, rfl, h2, r2⟩ := trodAll_cons r1
  obtain ⟨v3, vs3, d3, ds3, p3, q3, rfl, rfl, rfl, h3, r3⟩ := trodAll_cons r2
  obtain ⟨rfl, rfl, rfl⟩ := trodAll_nil r3
  obtain rfl : args = #[v0, v1, v2, v3] := by cases args; simp_all
  obtain ⟨rfl, rfl⟩ := trodVars_none hV
  obtain ⟨a1, rfl, rfl, rfl, w1⟩ := open_int Try.underlying3 (hval 1 3 v1 rfl rfl) h1
  have b1 : -9223372036854775808 ≤ a1 ∧ a1 ≤ 9223372036854775807 := by simpa [Lit.wf, IntKind.min, IntKind.max, IntKind.signed, IntKind.bits] using w1
  obtain ⟨a3, rfl, rfl, rfl, w3⟩ := open_int Try.underlying3 (hval 3 3 v3 rfl rfl) h3
  have b3 : -9223372036854775808 ≤ a3 ∧ a3 ≤ 9223372036854775807 := by simpa [Lit.wf, IntKind.min, IntKind.max, IntKind.signed, IntKind.bits] using w3
  simp only [List.append_nil, List.nil_append] at hW' hlt hA1
  have hb := Go.HL.bulk_bound hk
  simp only [List.append_nil, Rows.uptoBulkAll, Go.HL.bulk_string, Go.HL.bulk_int] at hb
  obtain ⟨a0, rfl, ok0⟩ := Go.HL.Es.open_start h0 (hval 0 27 v0 rfl rfl) (by omega)
  obtain ⟨a2, row2, bl2, ex2⟩ := Go.HL.Es.open_ents h2 (hval 2 28 v2 rfl rfl)
  have hwalk := Go.HL.Es.back_walk a0 a1 a3 a2 v2 W W (Go.HL.old W) b1 ok0 (by omega) row2 ex2 (Go.HL.St.start W)
  refine Calls.mono hwalk fun e W' ⟨v, he, hv, hst⟩ => ?_
  subst hv
  refine ⟨_, he, Go.HL.post_of_old hst (pv := []) hW' (fun _ _ _ => (trodAll_cons_mk (shut_bool Try.underlying4 _) trodAll_mk0))
    (fun sp hsp => Go.HL.trodAll_keep keeps (by decide) hA1 (fun x hx => hst.same (hlt x hx)) hsp) (fun _ _ => rfl) (by simp)
    (ok_one (by kernel_rfl) rfl (okWide_bool_mk Try.underlying4 _))⟩

set_option maxRecDepth 100000 in
theorem lifted (os : Os) (started : os.Started) (H : Type) (enc : TypeId × Value → H) (F : Stop.Interp) :
    ReturnsInHanded {} Try.checked os 4 .any ((Rows.OpenSpec.upto Rows.escrowBackSpec).pre6 enc Try.prog Try.f4 Rows.escrowBackUptoRow.domain false) (((Rows.OpenSpec.upto Rows.escrowBackSpec).at F).post enc Try.prog Try.f4 false true false false) := by
  refine returnsInHanded_of_cond (C := Try.checked) (s := Rows.OpenSpec.upto Rows.escrowBackSpec) (k := Rows.uptoSmall) rfl own started (by kernel_rfl) Try.func4
    (OpenSpec.witness (enc := enc) (C := Try.checked) (s := Rows.OpenSpec.upto Rows.escrowBackSpec) (k := Rows.uptoSmall) rfl false ⟨#[], #[.agg #[.int .i64 0, .slice none 0 0, .int .u64 0, .int .i64 0, .slice none 0 0, .slice none 0 0], .int .i64 0, .slice none 0 0, .int .i64 0], []⟩ 8 (by kernel_rfl) (by kernel_rfl) (by kernel_rfl)
      (x := ([.agg [.lit (.int .i64 0), .nil, .lit (.int .u64 0), .lit (.int .i64 0), .nil, .nil], .lit (.int .i64 0), .nil, .lit (.int .i64 0)], [], [])) (by kernel_rfl) rfl (by kernel_rfl)) ?_
  intro W base args ds gs before hval hW _ hk _
  exact contract H enc W base args ds gs before hval hW hk

theorem over : Rows.escrowBackUptoRow.holds Try.pinned (Rows.OpenSpec.upto Rows.escrowBackSpec) :=
  OpenClaim.holds_of_cond 4 Try.f4 rfl rfl rfl rfl rfl rfl rfl ⟨rfl, rfl, rfl, rfl, rfl⟩ rfl rfl rfl rfl rfl (by kernel_rfl) Try.func4 (by kernel_rfl)
    (of_decide_eq_true (by kernel_rfl)) (by unfold Func.isWrapper; first | (rw [if_pos (by decide +kernel)]; kernel_rfl) | (rw [if_neg (by decide +kernel)]; exact ⟨rfl, rfl⟩))
    (fun os started H enc _ F => lifted os started H enc F)

theorem proved : Rows.EscrowBackUptoSaid :=
  over
end Go.Proofs.Ytiokklaedanjbaa.escrowBack
