/-
  What the claim leans on, part 15 of 18. Conditions: as each theorem says.
-/
import Derived.Test.YtiokklaedanjbaaGreatEPMn
import Derived.Lib.Bytealg
namespace Go.HL.Nm
open Go.HL Go.Proofs
set_option maxRecDepth 4000
set_option linter.unusedSimpArgs false
set_option linter.unusedVariables false
end Go.HL.Nm

namespace Go.HL.Nm
open Go.HL Go.Proofs
set_option maxRecDepth 4000
set_option linter.unusedSimpArgs false
set_option linter.unusedVariables false
end Go.HL.Nm

namespace Go.HL.Nm
open Go.HL
set_option maxRecDepth 4000
set_option linter.unusedSimpArgs false
set_option linter.unusedVariables false
def contB (b : UInt8) : Bool := decide (128 ≤ b.toNat) && decide (b.toNat ≤ 191)
def lead : List Int → List UInt8
  | [] => []
  | u :: us => if 2097280 ≤ u ∧ u ≤ 2097343 then UInt8.ofNat (u.toNat - 2097152) :: lead us else []
def goodU : List Int → Prop
  | [] => True
  | u :: us => (2097152 ≤ u → oneF (UInt8.ofNat (u.toNat - 2097152) :: lead us) = (u, 1)) ∧ goodU us
structure Mild (f : Int → List Int) : Prop where
  bad : ∀ u, 2097152 ≤ u → f u = [u]
  fine : ∀ u, u < 2097152 → f u ≠ [] ∧ ∀ x ∈ f u, x < 2097152
end Go.HL.Nm

namespace Go.HL.Nm
open Go.HL
set_option maxRecDepth 4000
set_option linter.unusedSimpArgs false
set_option linter.unusedVariables false
def noP : List Int → Prop
  | a :: b :: r => ¬ (a = 114 ∧ b = 110) ∧ ¬ (a = 118 ∧ b = 118) ∧ noP (b :: r)
  | _ => True


end Go.HL.Nm

namespace Go.HL.Pu
open Go.HL Go.HL.Nm Go.Proofs
set_option maxRecDepth 4000
set_option linter.unusedSimpArgs false
set_option linter.unusedVariables false
theorem lookK_some {k : List UInt8} : ∀ {ks : List (List UInt8)} {j n : Nat}, lookK k ks j = some n → j ≤ n ∧ ks[n - j]? = some k
  | [], _, _, h => by cases h
  | x :: r, j, n, h => by
    simp only [lookK] at h
    split at h
    · rename_i e
      cases h
      simp [e]
    · obtain ⟨h1, h2⟩ := lookK_some h
      refine ⟨by omega, ?_⟩
      have : n - j = (n - (j + 1)) + 1 := by omega
      rw [this, List.getElem?_cons_succ]
      exact h2
theorem lookK_none {k : List UInt8} : ∀ {ks : List (List UInt8)} {j : Nat}, lookK k ks j = none → k ∉ ks
  | [], _, _ => by simp
  | x :: r, j, h => by
    simp only [lookK] at h
    split at h
    · cases h
    · rename_i e
      simp only [List.mem_cons, not_or]
      exact ⟨e, lookK_none h⟩
theorem askB_iff (k : List UInt8) (ks : List (List UInt8)) : askB k ks = true ↔ k ∈ ks := by
  unfold askB
  cases h : lookK k ks 0 with
  | none => simpa using lookK_none h
  | some n =>
    obtain ⟨_, h2⟩ := lookK_some h
    simpa using List.mem_of_getElem? h2
theorem askN_get {k : List UInt8} {ks : List (List UInt8)} (h : askB k ks = true) : ∃ n : Nat, askN k ks = n ∧ ks[n]? = some k := by
  unfold askB at h
  unfold askN
  cases hl : lookK k ks 0 with
  | none => rw [hl] at h; cases h
  | some n =>
    obtain ⟨_, h2⟩ := lookK_some hl
    exact ⟨n, rfl, h2⟩
def strs (l : List Ac) : List Value := l.map fun x => .string (mk x.name)
def anyK (x : List UInt8) (l : List Ac) : Bool := l.any fun r => decide (keyF r.name = keyF x)
end Go.HL.Pu

namespace Go.HL.Pu
open Go.HL Go.HL.Nm Go.Proofs
set_option maxRecDepth 4000
set_option linter.unusedSimpArgs false
set_option linter.unusedVariables false
structure Gd (rows : List Ac) : Prop where
  len : 1 ≤ rows.length ∧ rows.length ≤ 64
  names : ∀ i, (h : i < rows.length) → rows[i].name.length ≤ 1048576
  keys : (keys rows).Nodup
end Go.HL.Pu

namespace Go.HL.Pu
open Go.HL Go.HL.Nm Go.Proofs
set_option maxRecDepth 4000
set_option linter.unusedSimpArgs false
set_option linter.unusedVariables false
def mineK (l : List Int) (i : Int) : Bool := l.any fun n => decide (n = i)
def clsT (S : World → Prop) : List Value → World → Prop
  | [], w => S w
  | r :: _, w => r = .bool true ∧ S w
@[simp] theorem clsT_nil (S : World → Prop) (w : World) : clsT S [] w = S w := rfl
@[simp] theorem clsT_cons (S : World → Prop) (v : Value) (l : List Value) (w : World) : clsT S (v :: l) w = (v = .bool true ∧ S w) := rfl
end Go.HL.Pu

namespace Go.HL.Pu
open Go.HL Go.HL.Nm Go.Proofs
set_option maxRecDepth 4000
set_option linter.unusedSimpArgs false
set_option linter.unusedVariables false
theorem loadL_ok : ∀ (l : List Ac) (P : Ps), (loadL P l).1 = 0 → (∀ x ∈ l, 0 ≤ x.coins) → (loadL P l).2 = { P with held := P.held - total l, rows := P.rows ++ l } ∧ total l ≤ P.held ∨ l = []
  | [], _, _, _ => .inr rfl
  | a :: l, P, h, hc => by
    left
    have ha := hc a (List.mem_cons_self ..)
    simp only [loadL] at h ⊢
    by_cases hs : stepE P a = 0
    · rw [if_pos hs] at h ⊢
      have hle : a.coins ≤ P.held := by
        unfold stepE at hs
        split at hs
        · split at hs
          · cases hs
          · omega
        · rename_i h1; exact absurd hs h1
      have e : total (a :: l) = a.coins + total l := by simp [total]
      rcases loadL_ok l (stepP P a) h (fun x hx => hc x (List.mem_cons_of_mem _ hx)) with ⟨h1, h2⟩ | h1
      · refine ⟨?_, ?_⟩
        · rw [h1, e]
          simp only [stepP, List.append_assoc, List.singleton_append]
          congr 1
          omega
        · rw [e]
          have : (stepP P a).held = P.held - a.coins := rfl
          omega
      · subst h1
        refine ⟨?_, ?_⟩
        · rw [e]
          simp [loadL, stepP, total_nil]
        · rw [e, total_nil]; omega
    · rw [if_neg hs] at h
      exact absurd h hs
theorem load_PI {lim : Int} {rows : List Ac} {sup : Int} (h : (loadF lim rows sup).1 = 0) (hsup : 0 ≤ sup) (hc : ∀ x ∈ rows, 0 ≤ x.coins) (hn : ∀ i, (h : i < rows.length) → rows[i].name.length ≤ 1048576) :
    (loadF lim rows sup).2 = ⟨lim, rows, sup, sup - total rows⟩ ∧ PI lim (loadF lim rows sup).2 := by
  unfold loadF at h ⊢
  split at h
  · rename_i h1
    rw [if_pos h1]
    split at h
    · cases h
    · rename_i h2
      rw [if_neg h2]
      split at h
      · cases h
      · rename_i h3
        rw [if_neg h3]
        split at h
        · rename_i h4
          rw [if_pos h4]
          have hne : rows ≠ [] := by
            rintro rfl
            revert h4
            decide
          rcases loadL_ok rows _ h hc with ⟨e1, e2⟩ | e
          · rw [e1]
            refine ⟨rfl, ⟨rfl, h1, ?_, hc, ?_, ?_, by show sup ≤ _; omega, hn⟩⟩
            · have := List.length_pos_iff.2 hne
              have hl3 : (rows.length : Int) ≤ lim := by omega
              exact ⟨by show 1 ≤ ([] ++ rows).length; rw [List.nil_append]; exact this, by show ((([] ++ rows : List Ac).length : Nat) : Int) ≤ lim; rw [List.nil_append]; exact hl3⟩
            · show 0 ≤ sup - total rows
              have : (⟨lim, [], sup, sup⟩ : Ps).held = sup := rfl
              omega
            · show sup - total rows + total ([] ++ rows) = sup
              rw [List.nil_append]; omega
          · exact absurd e hne
        · cases h
  · cases h
def sps (l : List Sp) : List Value := l.flatMap Sp.cs
end Go.HL.Pu

namespace Go.HL.Es
open Go.HL Go.Proofs
set_option maxRecDepth 4000
set_option linter.unusedSimpArgs false
set_option linter.unusedVariables false
theorem scan_zero : ∀ (l : List Gd.It) (i : Nat), Gd.scanE i l = 0 → ∀ j (h : j < l.length), Gd.itemE (i + j) l[j] = 0
  | [], _, _, j, h => by simp at h
  | x :: l, i, hs, j, h => by
    have hx : Gd.itemE i x = 0 := by
      by_cases e : Gd.itemE i x = 0
      · exact e
      · simp only [Gd.scanE, if_neg e] at hs
        exact hs
    cases j with
    | zero => exact hx
    | succ j =>
      simp only [Gd.scanE, if_pos hx] at hs
      have := scan_zero l (i + 1) hs j (by simpa using h)
      have e : i + 1 + j = i + (j + 1) := by omega
      rw [e] at this
      exact this
theorem item_zero {i : Nat} {x : Gd.It} (h : Gd.itemE i x = 0) : x.num = (i : Int) + 1 ∧ (0 ≤ x.kind ∧ x.kind < 16) ∧ ((x.con = 0 ∧ 0 ≤ x.acc ∧ x.acc < 64) ∨ (0 < x.con ∧ x.acc = -1)) := by
  unfold Gd.itemE at h
  split at h
  · omega
  rename_i h1
  split at h
  · omega
  rename_i h2
  split at h
  · omega
  rename_i h3
  refine ⟨by omega, by simpa [Gd.kindF] using h2, ?_⟩
  simp only [not_or, not_and, Bool.not_eq_false] at h3
  by_cases hc : 0 < x.con
  · have := h3.2.1 hc
    exact .inr ⟨hc, by simpa using this⟩
  · have := (Gd.acc_iff _).1 (h3.2.2 hc)
    exact .inl ⟨by omega, this⟩
theorem load_gi {lim : Int} {rows : List Gd.It} (h : Gd.loadE lim rows = 0) : Gd.GI lim rows := by
  unfold Gd.loadE at h
  split at h
  · rename_i h1
    split at h
    · omega
    · rename_i h2
      have key := scan_zero rows 0 h
      have each : ∀ x ∈ rows, (0 ≤ x.kind ∧ x.kind < 16) ∧ ((x.con = 0 ∧ 0 ≤ x.acc ∧ x.acc < 64) ∨ (0 < x.con ∧ x.acc = -1)) := fun x hx => by
        obtain ⟨j, hj, rfl⟩ := List.getElem_of_mem hx
        exact (item_zero (key j hj)).2
      exact ⟨⟨fun i hi => by have := (item_zero (key i hi)).1; simpa using this, fun x hx => (each x hx).1⟩, by omega, h1.2, fun x hx => (each x hx).2⟩
  · omega

def h10_0 : HC := (.seq (.reg (.chk none .lenL (.cons (.inp 0) .nil) (.chk none (.slL 2 false true false) (.cons (.inp 2) (.cons (.op .lenL (.cons (.inp 0) .nil)) .nil)) (.done [(1, (.op (.slL 2 false true false) (.cons (.inp 2) (.cons (.op .lenL (.cons (.inp 0) .nil)) .nil))))] none)))) .ret)
@[simp] theorem h10_0_wp : type_of% (@wpH h10_0 _ h10_0.eq_1) := wpH h10_0.eq_1
def h10_1 : HC := (.seq (.reg (.chk none (.build #[(.int .i64 0), (.int .u64 0)] [(0, 1), (1, 1)] [0, 1]) (.cons (.cst (.int .i64 (-71))) (.cons (.cst (.int .u64 71)) .nil)) (.eff (.bsl 98 1 2 #[(.int .i64 0), (.int .u64 0)] [0]) (.cons (.op (.build #[(.int .i64 0), (.int .u64 0)] [(0, 1), (1, 1)] [0, 1]) (.cons (.cst (.int .i64 (-71))) (.cons (.cst (.int .u64 71)) .nil))) .nil) (.eff (.app 41 41 98 2 16 (.agg #[(.int .i64 0), (.int .u64 0)])) (.cons (.inp 2) (.cons (.bv 0) .nil)) (.done [(2, (.bv 1))] none))))) h10_0)
@[simp] theorem h10_1_wp : type_of% (@wpH h10_1 _ h10_1.eq_1) := wpH h10_1.eq_1
def h10_2 : HC := (.reg (.chk none (.bin .add) (.cons (.inp 3) (.cons (.cst (.int .i64 1)) .nil)) (.done [(3, (.op (.bin .add) (.cons (.inp 3) (.cons (.cst (.int .i64 1)) .nil))))] none)))
@[simp] theorem h10_2_wp : type_of% (@wpH h10_2 _ h10_2.eq_1) := wpH h10_2.eq_1
def h10_3 : HC := (.regq (some 1) (.chk none (.idxL 2) (.cons (.inp 0) (.cons (.inp 3) .nil)) (.chk none (.fld 0) (.cons (.op (.idxL 2) (.cons (.inp 0) (.cons (.inp 3) .nil))) .nil) (.eff (.ld false 1) (.cons (.op (.fld 0) (.cons (.op (.idxL 2) (.cons (.inp 0) (.cons (.inp 3) .nil))) .nil)) .nil) (.chk none (.idxL 2) (.cons (.inp 0) (.cons (.inp 3) .nil)) (.chk none (.fld 1) (.cons (.op (.idxL 2) (.cons (.inp 0) (.cons (.inp 3) .nil))) .nil) (.eff (.ld false 1) (.cons (.op (.fld 1) (.cons (.op (.idxL 2) (.cons (.inp 0) (.cons (.inp 3) .nil))) .nil)) .nil) (.chk none (.build #[(.int .i64 0), (.int .u64 0)] [(0, 1), (1, 1)] [0, 1]) (.cons (.bv 0) (.cons (.bv 1) .nil)) (.eff (.bsl 98 1 2 #[(.int .i64 0), (.int .u64 0)] [0]) (.cons (.op (.build #[(.int .i64 0), (.int .u64 0)] [(0, 1), (1, 1)] [0, 1]) (.cons (.bv 0) (.cons (.bv 1) .nil))) .nil) (.eff (.app 41 41 98 2 16 (.agg #[(.int .i64 0), (.int .u64 0)])) (.cons (.inp 2) (.cons (.bv 2) .nil)) (.done [(2, (.bv 3))] none)))))))))))
@[simp] theorem h10_3_wp : type_of% (@wpH h10_3 _ h10_3.eq_1) := wpH h10_3.eq_1
def h10_4 : HC := (.seq (.block 1 h10_3) h10_2)
@[simp] theorem h10_4_wp : type_of% (@wpH h10_4 _ h10_4.eq_1) := wpH h10_4.eq_1
def h10_5 : HC := (.seq (.br (.chk none .lenL (.cons (.inp 0) .nil) (.chk none (.bin .lss) (.cons (.inp 3) (.cons (.op .lenL (.cons (.inp 0) .nil)) .nil)) (.done [] (some (.op (.bin .lss) (.cons (.inp 3) (.cons (.op .lenL (.cons (.inp 0) .nil)) .nil))))))) .skip (.exit 0)) h10_4)
@[simp] theorem h10_5_wp : type_of% (@wpH h10_5 _ h10_5.eq_1) := wpH h10_5.eq_1
def h10_6 : HC := (.loop h10_5)
@[simp] theorem h10_6_wp : type_of% (@wpH h10_6 _ h10_6.eq_1) := wpH h10_6.eq_1
def h10_7 : HC := (.seq (.block 0 h10_6) h10_1)
@[simp] theorem h10_7_wp : type_of% (@wpH h10_7 _ h10_7.eq_1) := wpH h10_7.eq_1
def h10_8 : HC := (.seq (.reg (.done [(3, (.cst (.int .i64 0)))] none)) h10_7)
@[simp] theorem h10_8_wp : type_of% (@wpH h10_8 _ h10_8.eq_1) := wpH h10_8.eq_1
def h10_9 : HC := (.seq (.reg (.done [(2, (.cst (.slice none 0 0)))] none)) h10_8)
@[simp] theorem h10_9_wp : type_of% (@wpH h10_9 _ h10_9.eq_1) := wpH h10_9.eq_1
def l10 : Lifted := ⟨[0, 2, 3, 4], 33, [.slot 1], (.seq (.reg (.done [(1, (.cst (.slice none 0 0)))] none)) h10_9)⟩
theorem l10_ok : liftFn E2 10 400 = some l10 := by kernel_rfl
def rmark : Rw := (-71, 71)
def lentA (v : Value) (l : List Rw) : Asn := fun h => ∃ g cap, v = .slice (some ⟨g, 0, none⟩) l.length cap ∧ l.length + 1 ≤ cap ∧ cap ≤ maxLen ∧ own 98 2 (.slice (some ⟨g, 0, none⟩) (l.length + 1) cap) (l.length + 1) (rflat (l ++ [rmark])) h
theorem lopen {w0 w : World} {A : Asn} {v : Value} {l : List Rw} (s : St w0 (A * lentA v l) w) : ∃ g cap, v = .slice (some ⟨g, 0, none⟩) l.length cap ∧ l.length + 1 ≤ cap ∧ cap ≤ maxLen ∧ St w0 (A * own 98 2 (.slice (some ⟨g, 0, none⟩) (l.length + 1) cap) (l.length + 1) (rflat (l ++ [rmark]))) w := by
  obtain ⟨g', h1, h2, h3, d, e, a, g, cap, rfl, hc, hm, b⟩ := s.holds
  exact ⟨g, cap, rfl, hc, hm, s.of ⟨g', h1, h2, h3, d, e, a, b⟩⟩
theorem lclose {w0 w : World} {A : Asn} {g cap : Nat} {l : List Rw} (hc : l.length + 1 ≤ cap) (hm : cap ≤ maxLen) (s : St w0 (A * own 98 2 (.slice (some ⟨g, 0, none⟩) (l.length + 1) cap) (l.length + 1) (rflat (l ++ [rmark]))) w) : St w0 (A * lentA (.slice (some ⟨g, 0, none⟩) l.length cap) l) w :=
  s.mono (sep_mono (fun _ h => h) fun h hh => ⟨g, cap, rfl, hc, hm, hh⟩)
theorem rflat_app (a b : List Rw) : rflat (a ++ b) = rflat a ++ rflat b := by simp [rflat]
theorem lent_own {w0 w : World} {A : Asn} {v : Value} {l : List Rw} (s : St w0 (A * lentA v l) w) : St w0 (A * own 98 2 v l.length (rflat l)) w := by
  obtain ⟨g, cap, rfl, hc, hm, s1⟩ := lopen s
  rw [rflat_app] at s1
  exact s1.mono (sep_mono (fun _ h => h) fun h hh => own_less (by rw [rflat_len]) hh)
theorem lent_row {w0 w : World} {A : Asn} {v : Value} {l : List Rw} (s : St w0 (A * lentA v l) w) : Row w0 (A * lentA v l) v l.length 2 (rflat l) :=
  (row_own (lent_own s)).mono fun w s => lent_own s
def clsB (X : World → Prop) (Y : Nat → World → Prop) (Z : Value → World → Prop) : List Value → World → Prop
  | [], w => X w
  | [v], w => ∃ c, v = .slice (some ⟨c, 0, none⟩) 1 1 ∧ Y c w
  | _ :: v :: _, w => Z v w
theorem clsB_pre {X : World → Prop} {Y : Nat → World → Prop} {Z : Value → World → Prop} {vs : List Value} {w : World} (he : era 1 vs = era 1 []) (h : clsB X Y Z vs w) : X w := by
  cases vs with
  | nil => exact h
  | cons _ _ => simp [era] at he
theorem lent_spec (l : List Rw) (v : Value) (w0 w : World) (A : Asn) (hl : l.length ≤ 1048576) (hrow : Row w0 A v l.length 2 (rflat l)) (s : St w0 A w) :
    CallW Tryz.prog 10 [v] (fun r w' => St w0 (A * lentA r l) w') w := by
  obtain ⟨ra, rcap, rfl⟩ := hrow.val
  refine callW_of_lift l10_ok (by simp [l10]) ?_
  simp [l10]
  refine loopI (fun env w' => ∃ (i : Nat) (fv : Value), env = [.slice ra l.length rcap, .slice none 0 0, fv, .int .i64 i] ∧ i ≤ l.length ∧ St w0 (A * own 98 2 fv i (rflat (l.take i))) w')
    (fun env _ => l.length - slotN env 3) ⟨0, _, rfl, by omega, s.own_nil 98 2⟩ ?_
  rintro LQ env w' ⟨i, fv, rfl, hi, s1⟩ hN hX hR
  simp
  refine cndI (fun hc => ?_) (fun hc => ?_)
  · simp at hc
    obtain ⟨g, o, cap', hv, hcell⟩ := hrow.at (by omega)
    cases hv
    simp [hc]
    refine regmI (clsB (St w0 (A * own 98 2 fv i (rflat (l.take i)))) (fun c => St w0 (A * own 98 2 fv i (rflat (l.take i)) * pt c (.cells l[i].cs.toArray 98 (0, 0)))) (fun v => St w0 (A * own 98 2 v (i + 1) (rflat (l.take (i + 1)))))) s1.drew ?_
    simp [hc]
    refine effm_ldc (v := .int .i64 l[i].1) (fun vs' w he hw => by have := hcell w (clsB_pre he hw).drop (i * 2 + 0) _ (rflat_at hc 0 _ rfl); simpa using this) ?_
    simp [hc]
    refine effm_ldc (v := .int .u64 l[i].2) (fun vs' w he hw => by have := hcell w (clsB_pre he hw).drop (i * 2 + 1) _ (rflat_at hc 1 _ rfl); rw [← Nat.add_assoc] at this; exact this) ?_
    simp [Instr.fill, Value.cells]
    refine effm_mv rfl (fun w hw => eff_bslV (v := .agg l[i].cs.toArray) hw rfl fun c w' h => ⟨c, rfl, h⟩) (fun sl hsl => ?_)
    obtain ⟨w7, c, rfl, _⟩ := hsl
    simp
    refine effm_mv rfl (fun w hw => ?_) (fun v' hv' => ?_)
    · obtain ⟨c', e, hw⟩ := hw
      cases e
      refine eff_app (m := 1) (news := l[i].cs) (St.swap hw) rfl (St.cells_look hw) (rw_one _) (by decide) rfl (by unfold maxLen; omega) (by omega) fun v'' w' h => ?_
      have e1 : rflat (l.take i) ++ l[i].cs = rflat (l.take (i + 1)) := by rw [List.take_succ_eq_append_getElem hc, rflat_app]; simp [rflat]
      rw [e1] at h
      exact h.swap.drop
    simp
    intro w9 h9
    try simp (disch := omega) only [wrap64]
    exact hN _ _ ⟨i + 1, _, by simp, by omega, h9⟩ (by simp [slotN]; omega)
  · simp at hc
    simp
    refine hX _ _ _ ?_
    have : i = l.length := by omega
    subst this
    rw [List.take_length] at s1
    simp [Instr.fill, Value.cells]
    refine eff_bslV (v := .agg rmark.cs.toArray) s1 rfl fun c w2 s2 => ?_
    simp
    refine eff_app (m := 1) (news := rmark.cs) s2.swap rfl s2.cells_look (rw_one _) (by decide) rfl (by unfold maxLen; omega) (by omega) fun fv2 w3 s3 => ?_
    have e1 : rflat l ++ rmark.cs = rflat (l ++ [rmark]) := by rw [rflat_app]; simp [rflat]
    rw [e1] at s3
    obtain ⟨g, cap, rfl, hcap, _⟩ := s3.own_at (by omega)
    have hle : l.length ≤ cap := by omega
    simp [hle, Pu.add_zero]
    have hm : cap ≤ maxLen := by
      rcases s3.own.2 with ⟨h, _⟩ | ⟨_, _, _, h, _, hm, _⟩
      · cases h
      · cases h; exact hm
    exact lclose hcap hm s3.swap.drop
abbrev wshA (g : Nat) : Asn := pt g (.cells #[.int .i64 5, .int .i64 6, .int .i64 7, .int .i64 (-71)] 3 (0, 0))
end Go.HL.Es

namespace Go.HL.Pu
open Go.HL Go.HL.Nm Go.Proofs
set_option maxRecDepth 4000
set_option linter.unusedVariables false
end Go.HL.Pu

namespace Go.HL.Es
open Go.HL Go.Proofs Go.Deep
set_option maxRecDepth 4000
set_option linter.unusedSimpArgs false
set_option linter.unusedVariables false
theorem open_i64 {m : Int} (w : (Lit.int .i64 m).wf = true) : -9223372036854775808 ≤ m ∧ m ≤ 9223372036854775807 := by
  simpa [Lit.wf, IntKind.min, IntKind.max, IntKind.signed, IntKind.bits] using w
theorem open_u64 {m : Int} (w : (Lit.int .u64 m).wf = true) : 0 ≤ m ∧ m ≤ 18446744073709551615 := by
  simpa [Lit.wf, IntKind.min, IntKind.max, IntKind.signed, IntKind.bits] using w
structure Ew where
  x : Et
  pr : Int
  wv : Value
def Ew.cs (e : Ew) : List Value := e.x.cs e.pr e.wv
def eflat (l : List Ew) : List Value := l.flatMap Ew.cs
section
variable {H : Type} {enc : TypeId × Value → H} {W : World} {base : Nat} {spare : Nat → Bool} {held : Bool} {fuel : Nat} {cs : List Value} {x : DataW H × List MemPlace}
theorem open_ints (h : DataW.trod enc Tryz.prog W base spare held fuel 44 cs = some x) : ∃ (v : Value) (l : List Int), cs = [v] ∧ v.oneCell' = true ∧ Row W (old W) v l.length 1 (Gd.ints l) := by
  obtain ⟨v, l, h1, h2, h3, h4, h5, h6⟩ := open_erows (α := Int) (fun x => [Value.int .i64 x]) 1 (fun _ => True) (fun _ => 0) Tryz.underlying44 (by kernel_rfl) (by decide) (fun _ => rfl) (fun n cs x hx => by
    obtain ⟨m, e, _, _⟩ := DataW.trod_int Tryz.underlying3 hx
    exact ⟨m, e, trivial, Nat.zero_le _⟩) h
  refine ⟨v, l, h1, h2, ?_⟩
  have : l.flatMap (fun x => [Value.int .i64 x]) = Gd.ints l := by
    clear h4 h3 h5 h6
    induction l with
    | nil => rfl
    | cons a l ih => simp [Gd.ints, List.flatMap_cons, ih]
  rw [this] at h4
  exact h4
theorem open_accF (h : DataW.trod enc Tryz.prog W base spare held fuel 22 cs = some x) :
    ∃ (v : Value) (rows : List Pu.Ac), cs = [v] ∧ Row W (old W) v rows.length 2 (Pu.flat rows) ∧ rows.length ≤ Go.Proofs.YtiokklaedanjbaaGreat.Rows.uptoBulk x.1 ∧ ∀ r ∈ rows, r.name.length ≤ Go.Proofs.YtiokklaedanjbaaGreat.Rows.uptoBulk x.1 ∧ 0 ≤ r.coins ∧ r.coins ≤ 18446744073709551615 := by
  obtain ⟨v, rows, h1, h2, h3, h4, h5, h6⟩ := open_erows (α := Pu.Ac) Pu.Ac.cs 2 (fun x => 0 ≤ x.coins ∧ x.coins ≤ 18446744073709551615) (fun x => x.name.length) Tryz.underlying22 (by kernel_rfl) (by decide) (fun _ => rfl) (fun n cs x hx => by
    obtain ⟨hl, n', hf⟩ := open_field Tryz.underlying58 hx
    have hl2 : cs.length = 2 := hl.trans (by kernel_rfl)
    match cs, hl2 with
    | [c0, c1], _ =>
      obtain ⟨y0, k0, b0⟩ := hf 0 _ rfl
      obtain ⟨y1, k1, _⟩ := hf 1 _ rfl
      obtain ⟨m0, e0, x0, _⟩ := DataW.trod_string Tryz.underlying9 k0
      obtain ⟨m1, e1, x1, w1⟩ := DataW.trod_int Tryz.underlying23 k1
      have f0 : [c0] = [Value.string m0] := e0
      have f1 : [c1] = [Value.int .u64 m1] := e1
      cases f0; cases f1
      refine ⟨⟨m0.data.toList, m1⟩, by simp only [Pu.Ac.cs]; rw [← mk_eta], open_u64 w1, Nat.le_trans ?_ b0⟩
      rw [x0]
      show m0.data.toList.length ≤ Go.Proofs.YtiokklaedanjbaaGreat.Rows.uptoBulk (DataW.lit (.string m0.data.toList))
      rw [bulk_string]; omega) h
  exact ⟨v, rows, h1, h4, h5, fun x hx => ⟨h6 x hx, h3 x hx⟩⟩
theorem open_itemF (h : DataW.trod enc Tryz.prog W base spare held fuel 24 cs = some x) :
    ∃ (v : Value) (rows : List Gd.It), cs = [v] ∧ Row W (old W) v rows.length 4 (Gd.flat rows) ∧ rows.length ≤ Go.Proofs.YtiokklaedanjbaaGreat.Rows.uptoBulk x.1 := by
  obtain ⟨v, rows, h1, h2, _, h3, h4, _⟩ := open_erows (α := Gd.It) Gd.It.cs 4 (fun _ => True) (fun _ => 0) Tryz.underlying24 (by kernel_rfl) (by decide) (fun _ => rfl) (fun n cs x hx => by
    obtain ⟨row, hr, hc⟩ := open_istruct Tryz.underlying60 (by kernel_rfl) (by kernel_rfl) hx
    match row, hr with
    | [a, b, c, d], _ => exact ⟨⟨a, b, c, d⟩, hc, trivial, Nat.zero_le _⟩) h
  exact ⟨v, rows, h1, h3, h4⟩
theorem open_rowF (h : DataW.trod enc Tryz.prog W base spare held fuel 25 cs = some x) :
    ∃ (v : Value) (rows : List Rw), cs = [v] ∧ Row W (old W) v rows.length 2 (rflat rows) ∧ rows.length ≤ Go.Proofs.YtiokklaedanjbaaGreat.Rows.uptoBulk x.1 ∧ ∀ r ∈ rows, (-9223372036854775808 ≤ r.1 ∧ r.1 < 9223372036854775808) ∧ 0 ≤ r.2 ∧ r.2 < 18446744073709551616 := by
  obtain ⟨v, rows, h1, h2, h3, h4, h5, _⟩ := open_erows (α := Rw) Rw.cs 2 (fun r => (-9223372036854775808 ≤ r.1 ∧ r.1 < 9223372036854775808) ∧ 0 ≤ r.2 ∧ r.2 < 18446744073709551616) (fun _ => 0) Tryz.underlying25 (by kernel_rfl) (by decide) (fun _ => rfl) (fun n cs x hx => by
    obtain ⟨hl, n', hf⟩ := open_field Tryz.underlying100 hx
    have hl2 : cs.length = 2 := hl.trans (by kernel_rfl)
    match cs, hl2 with
    | [c0, c1], _ =>
      obtain ⟨y0, k0, _⟩ := hf 0 _ rfl
      obtain ⟨y1, k1, _⟩ := hf 1 _ rfl
      obtain ⟨m0, e0, x0, w0⟩ := DataW.trod_int Tryz.underlying3 k0
      obtain ⟨m1, e1, x1, w1⟩ := DataW.trod_int Tryz.underlying23 k1
      have f0 : [c0] = [Value.int .i64 m0] := e0
      have f1 : [c1] = [Value.int .u64 m1] := e1
      cases f0; cases f1
      have h0 := open_i64 w0
      have h1 := open_u64 w1
      exact ⟨(m0, m1), rfl, ⟨⟨h0.1, by simp only; omega⟩, h1.1, by simp only; omega⟩, Nat.zero_le _⟩) h
  exact ⟨v, rows, h1, h4, h5, h3⟩
end
structure Begin where
  lim : Int
  va : Value
  accs : List Pu.Ac
  sup : Int
  most : Int
  vi : Value
  its : List Gd.It
  vr : Value
  rows : List Rw
def Begin.cs (b : Begin) : List Value := [.int .i64 b.lim, b.va, .int .u64 b.sup, .int .i64 b.most, b.vi, b.vr]
structure Begin.ok (b : Begin) (w0 : World) (A : Asn) : Prop where
  lim : -9223372036854775808 ≤ b.lim ∧ b.lim ≤ 9223372036854775807
  most : -9223372036854775808 ≤ b.most ∧ b.most ≤ 9223372036854775807
  sup : 0 ≤ b.sup ∧ b.sup < 18446744073709551616
  accs : Row w0 A b.va b.accs.length 2 (Pu.flat b.accs)
  its : Row w0 A b.vi b.its.length 4 (Gd.flat b.its)
  rows : Row w0 A b.vr b.rows.length 2 (rflat b.rows)
  laccs : b.accs.length ≤ 1048576
  lits : b.its.length ≤ 1048576
  lrows : b.rows.length ≤ 1048576
  each : ∀ x ∈ b.accs, x.name.length ≤ 1048576 ∧ 0 ≤ x.coins ∧ x.coins < 18446744073709551616
  eachR : ∀ r ∈ b.rows, (-9223372036854775808 ≤ r.1 ∧ r.1 < 9223372036854775808) ∧ 0 ≤ r.2 ∧ r.2 < 18446744073709551616
theorem open_start3 {H : Type} {enc : TypeId × Value → H} {W : World} {spare : Nat → Bool} {v : Value} {d : DataW H} {ps : List MemPlace} (h : DataW.Trod enc Tryz.prog W 0 spare true 27 v d ps) {base : Nat} (hval : Value.okWide Tryz.prog W .any base 27 v)
    (hb : Go.Proofs.YtiokklaedanjbaaGreat.Rows.uptoBulk d ≤ 1048576) : ∃ b : Begin, v = .agg b.cs.toArray ∧ b.ok W (old W) ∧ b.rows.length ≤ Go.Proofs.YtiokklaedanjbaaGreat.Rows.uptoBulk d := by
  obtain ⟨cs, rfl, _⟩ := Go.WideShapes.okWide_struct Tryz.underlying27 hval
  obtain ⟨n, h⟩ := h
  obtain ⟨hl, n', hf⟩ := open_field Tryz.underlying27 h
  have hl2 : cs.toList.length = 6 := hl.trans (by kernel_rfl)
  obtain ⟨l, rfl⟩ : ∃ l : List Value, cs = l.toArray := ⟨cs.toList, by simp⟩
  simp only [cells_agg] at hf
  have hl2 : l.length = 6 := by simpa using hl2
  match l, hl2 with
  | [c0, c1, c2, c3, c4, c5], _ =>
    obtain ⟨y0, k0, b0⟩ := hf 0 _ rfl
    obtain ⟨y1, k1, b1⟩ := hf 1 _ rfl
    obtain ⟨y2, k2, b2⟩ := hf 2 _ rfl
    obtain ⟨y3, k3, b3⟩ := hf 3 _ rfl
    obtain ⟨y4, k4, b4⟩ := hf 4 _ rfl
    obtain ⟨y5, k5, b5⟩ := hf 5 _ rfl
    obtain ⟨m0, e0, x0, w0⟩ := DataW.trod_int Tryz.underlying3 k0
    obtain ⟨va, accs, e1, r1, n1, p1⟩ := open_accF k1
    obtain ⟨m2, e2, x2, w2⟩ := DataW.trod_int Tryz.underlying23 k2
    obtain ⟨m3, e3, x3, w3⟩ := DataW.trod_int Tryz.underlying3 k3
    obtain ⟨vi, its, e4, r4, n4⟩ := open_itemF k4
    obtain ⟨vr, rows, e5, r5, n5, p5⟩ := open_rowF k5
    have f0 : [c0] = [Value.int .i64 m0] := e0
    have f1 : [c1] = [va] := e1
    have f2 : [c2] = [Value.int .u64 m2] := e2
    have f3 : [c3] = [Value.int .i64 m3] := e3
    have f4 : [c4] = [vi] := e4
    have f5 : [c5] = [vr] := e5
    cases f0; cases f1; cases f2; cases f3; cases f4; cases f5
    have h2 := open_u64 w2
    refine ⟨⟨m0, c1, accs, m2, m3, c4, its, c5, rows⟩, rfl, ⟨open_i64 w0, open_i64 w3, ⟨h2.1, by simp only; omega⟩, r1, r4, r5, ?_, ?_, ?_, fun x hx => ?_, p5⟩, Nat.le_trans n5 b5⟩
    · simp only at *; omega
    · simp only at *; omega
    · simp only at *; omega
    · have := p1 x hx; simp only at *; omega
end Go.HL.Es

namespace Go.HL.Es
open Go.HL Go.Proofs
set_option maxRecDepth 4000
set_option linter.unusedSimpArgs false
set_option linter.unusedVariables false
def tot : List Gf → Int
  | [] => 0
  | x :: t => x.coins + tot t
def toK (k : Int) : List Gf → Int
  | [] => 0
  | x :: t => (if x.to = k then x.coins else 0) + toK k t
structure J (c : Int) (E0 E : Eco) (B : List Gf) : Prop where
  len : E.P.rows.length = E0.P.rows.length
  name : ∀ k, k < E0.P.rows.length → (E.P.rows.getD k ⟨[], 0⟩).name = (E0.P.rows.getD k ⟨[], 0⟩).name
  coin : ∀ k, k < E0.P.rows.length → Pu.coin E.P.rows k + toK k B = Pu.coin E0.P.rows k
  cns : cns E.l c = tot B
  ilen : E.its.length = E0.its.length
  free : ∀ i, i < E0.its.length → (∀ x ∈ B, x.item ≠ (i : Int) + 1) → E.its[i]? = E0.its[i]?
  held : ∀ x ∈ B, x.item ≠ 0 → ∃ (i : Nat) (n k : Int), x.item = (i : Int) + 1 ∧ E0.its[i]? = some ⟨n, k, x.to, 0⟩ ∧ E.its[i]? = some ⟨n, k, -1, c⟩
  once : B.Pairwise fun x y => x.item ≠ 0 → x.item ≠ y.item
  each : ∀ x ∈ B, Pu.accE E0.P.rows x.to = 0 ∧ 0 ≤ x.coins ∧ (x.item ≠ 0 ∨ 0 < x.coins)
end Go.HL.Es

namespace Go.HL.Es
open Go.HL Go.Proofs
set_option maxRecDepth 4000
set_option linter.unusedSimpArgs false
set_option linter.unusedVariables false
structure So where
  kind : Int
  con : Int
  gv : Value
  gs : List Gf
  e : Ew
def So.cs (o : So) : List Value := [.int .i64 o.kind, .int .i64 o.con, o.gv] ++ o.e.cs
structure So.ok (o : So) (w0 : World) (A : Asn) : Prop where
  con : -9223372036854775808 ≤ o.con ∧ o.con < 9223372036854775808
  gv : o.gv.oneCell' = true
  row : Row w0 A o.gv o.gs.length 3 (gflat o.gs)
  len : o.gs.length ≤ 1048576
  gs : ∀ x ∈ o.gs, 0 ≤ x.coins ∧ x.coins < 18446744073709551616
  wv : o.e.wv.oneCell' = true
  coins : 0 ≤ o.e.x.coins ∧ o.e.x.coins < 18446744073709551616
theorem So.ok.mono {o : So} {w0 : World} {A B : Asn} (h : o.ok w0 A) (hs : ∀ w, St w0 B w → St w0 A w) : o.ok w0 B := ⟨h.con, h.gv, h.row.mono hs, h.len, h.gs, h.wv, h.coins⟩
def doesF (o : So) (E : Eco) : Int × Bool × Eco :=
  if o.kind = 1 then ((turnF o.con [] (putE o.con o.e.x) E).1, true, (turnF o.con [] (putE o.con o.e.x) E).2)
  else if o.kind = 2 then ((turnF o.con o.gs (putE o.con o.e.x) E).1, true, (turnF o.con o.gs (putE o.con o.e.x) E).2)
  else if o.kind = 3 then ((turnF o.con o.gs (endE o.con) E).1, true, (turnF o.con o.gs (endE o.con) E).2)
  else (0, false, E)





theorem wrapU (x : Int) : IntKind.u64.wrap x = x % 18446744073709551616 := by simp [IntKind.wrap, IntKind.bits, IntKind.signed]
theorem sumR_app (a b : List Rw) : sumR (a ++ b) = sumR a + sumR b := by simp [sumR]
def turnedF (o : So) (k : Int) : Int := ((if o.kind = 1 then 0 else toK k o.gs) - (if o.kind ≠ 3 ∧ o.e.x.acc = k then o.e.x.coins else 0)) % 18446744073709551616
end Go.HL.Es

namespace Go.HL.Es
open Go.HL Go.Proofs
set_option maxRecDepth 4000
set_option linter.unusedSimpArgs false
set_option linter.unusedVariables false
def giftsOf (x : Et) : List Gf := (if x.item ≠ 0 then [⟨x.acc, x.item, 0⟩] else []) ++ (if x.coins ≠ 0 then [⟨x.acc, 0, x.coins⟩] else [])
end Go.HL.Es

namespace Go.HL.Es
open Go.HL Go.Proofs
set_option maxRecDepth 4000
set_option linter.unusedSimpArgs false
set_option linter.unusedVariables false
def sumN (T : Int → Int) : Nat → Int
  | 0 => 0
  | n + 1 => sumN T n + T n
structure Moves (c : Int) (E E' : Eco) (T : Int → Int) (f : Gd.It → Gd.It) (d : Int) : Prop where
  len : E'.P.rows.length = E.P.rows.length
  sup : E'.P.sup = E.P.sup
  name : ∀ k, k < E.P.rows.length → (E'.P.rows.getD k ⟨[], 0⟩).name = (E.P.rows.getD k ⟨[], 0⟩).name
  coin : ∀ k : Nat, k < E.P.rows.length → Pu.coin E'.P.rows k = Pu.coin E.P.rows k + T k
  all : sumN T E.P.rows.length = -d
  cns : cns E'.l c = cns E.l c + d
  rest : del c E'.l = del c E.l
  its : E'.its = E.its.map f
theorem del_ins (c v : Int) : ∀ {l : List Rw}, (∀ r ∈ l, r.1 ≠ c) → del c (ins c v l) = l
  | [], _ => by simp [ins, del]
  | r :: t, h => by
    have h0 := h r (.head _)
    have ht : ∀ r ∈ t, r.1 ≠ c := fun x hx => h x (.tail _ hx)
    simp only [ins]
    split
    · have e : del c ((c, v) :: r :: t) = del c (r :: t) := by simp [del]
      rw [e, del_none h]
    · have e : del c (r :: ins c v t) = r :: del c (ins c v t) := by simp [del, h0]
      rw [e, del_ins c v ht]
theorem del_setR (c v : Int) (l : List Rw) : del c (setR c v l) = del c l := by
  have h : ∀ r ∈ del c l, r.1 ≠ c := fun r hr => (del_mem.1 hr).2
  unfold setR
  split
  · exact del_none h
  · exact del_ins c v h
def gW (x : Gf) (it : Gd.It) : Gd.It := if x.item = it.num then ⟨it.num, it.kind, x.to, 0⟩ else it
def eW (c : Int) (x : Et) (it : Gd.It) : Gd.It := if x.item = it.num then ⟨it.num, it.kind, -1, c⟩ else it
def gsW (gs : List Gf) (it : Gd.It) : Gd.It := gs.foldl (fun it x => gW x it) it
end Go.HL.Es

namespace Go.HL.Es
open Go.HL Go.Proofs
set_option maxRecDepth 4000
set_option linter.unusedSimpArgs false
set_option linter.unusedVariables false
def whereG (o : So) (i : Nat) (it : Gd.It) : Gd.It := if o.kind = 1 then it else gsW (o.gs.take i) it
def whereF (o : So) (it : Gd.It) : Gd.It := if o.kind ≠ 3 then eW o.con o.e.x (whereG o o.gs.length it) else whereG o o.gs.length it
theorem rowT : PrimStruct Tryz.prog 98 [.int .i64, .int .u64] := ⟨by kernel_rfl, by kernel_rfl, by kernel_rfl, by kernel_rfl⟩
def rpv (x : Rw) : List PV := [.int .i64 x.1, .int .u64 x.2]
end Go.HL.Es
