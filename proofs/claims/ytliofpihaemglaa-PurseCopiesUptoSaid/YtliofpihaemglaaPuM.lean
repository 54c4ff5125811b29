/-
  Purse: plain laws of steps: what stands, what turns. No condition.
-/
import Derived.Test.YtliofpihaemglaaPuL
namespace Go.HL.Pu
open Go.HL Go.HL.Nm Go.Proofs
set_option maxRecDepth 4000
set_option linter.unusedSimpArgs false
set_option linter.unusedVariables false
theorem setC_get {l : List Ac} {i k : Nat} {c : Int} (hk : k < l.length) : (setC l i c)[k]'(by rw [setC_len]; exact hk) = if k = i then ⟨l[k].name, c⟩ else l[k] := by
  unfold setC
  rw [List.getElem_set]
  by_cases e : k = i
  · subst e; simp [hk]
  · rw [if_neg e, if_neg (Ne.symm e)]
theorem setC_mem {l : List Ac} {i : Nat} {c : Int} {x : Ac} (h : x ∈ setC l i c) : x ∈ l ∨ x.coins = c := by
  unfold setC at h
  rcases List.mem_or_eq_of_mem_set h with h | h
  · exact .inl h
  · exact .inr (by rw [h])
theorem total_set : ∀ (l : List Ac) (i : Nat) (x : Ac) (h : i < l.length), total (l.set i x) = total l - l[i].coins + x.coins
  | a :: l, 0, x, h => by simp only [List.set_cons_zero, List.getElem_cons_zero, total, List.map_cons, List.sum_cons]; omega
  | a :: l, i + 1, x, h => by
    have := total_set l i x (by simpa using h)
    simp only [List.set_cons_succ, List.getElem_cons_succ]
    simp only [total, List.map_cons, List.sum_cons] at this ⊢
    omega
theorem total_setC {l : List Ac} {i : Nat} (h : i < l.length) (c : Int) : total (setC l i c) = total l - coin l i + c := by
  unfold setC
  rw [total_set l i _ h, coin_at h]
theorem wrapu_sub {a c : Int} (h : 0 ≤ c ∧ c ≤ a ∧ a < 18446744073709551616) : IntKind.u64.wrap (a + IntKind.u64.wrap (0 - c)) = a - c := by
  simp [IntKind.wrap, IntKind.bits, IntKind.signed]; omega
theorem wrapu_back {c : Int} (h : 0 ≤ c ∧ c < 18446744073709551616) : IntKind.u64.wrap (IntKind.u64.wrap (0 - c) + c) = 0 := by
  simp [IntKind.wrap, IntKind.bits, IntKind.signed]; omega
/-- what turns -/
structure Turn (P P' : Ps) (o : Sp) : Prop where
  held : P'.held = IntKind.u64.wrap (P.held + (movedF o (-1)).2.1)
  sup : P'.sup = IntKind.u64.wrap (P.sup + (movedF o (-1)).2.2)
  each : ∀ k, (h : k < P.rows.length) → ∃ h' : k < P'.rows.length, P'.rows[k].name = P.rows[k].name ∧ P'.rows[k].coins = IntKind.u64.wrap (P.rows[k].coins + (movedF o k).1)
def zeroSp : Sp := ⟨0, 0, 0, 0, 0, []⟩
theorem moved_none {o : Sp} (h : o.kind ≠ 2 ∧ o.kind ≠ 3 ∧ o.kind ≠ 4 ∧ o.kind ≠ 5) (n : Int) : movedF o n = (0, 0, 0) := by
  unfold movedF
  rw [if_neg h.1, if_neg h.2.1, if_neg h.2.2.1, if_neg h.2.2.2]
theorem turn_same {lim : Int} {P : Ps} (hP : PI lim P) {o : Sp} (h : o.kind ≠ 2 ∧ o.kind ≠ 3 ∧ o.kind ≠ 4 ∧ o.kind ≠ 5) : Turn P P o := by
  have hb := hP.bd
  have h1 := hb.held
  have h2 := hb.sup
  refine ⟨?_, ?_, fun k hk => ⟨hk, rfl, ?_⟩⟩
  · rw [moved_none h]; simp only [Int.add_zero]; rw [wrapu64 (by omega) (by omega)]
  · rw [moved_none h]; simp only [Int.add_zero]; rw [wrapu64 (by omega) (by omega)]
  · rw [moved_none h]; simp only [Int.add_zero]
    have := hb.coins k hk
    have e : P.rows.getD k ⟨[], 0⟩ = P.rows[k] := by simp [hk]
    rw [e] at this
    rw [wrapu64 (by omega) (by omega)]
theorem turn_zero {lim : Int} {P : Ps} (hP : PI lim P) : Turn P P zeroSp := turn_same hP (by decide)
def adj (P : Ps) (o : Sp) : Sp := if (doesF P o).1 ≠ 0 ∨ o.kind = 1 then zeroSp else o
def more (P : Ps) (o : Sp) : Nat := if o.kind = 1 ∧ (doesF P o).1 = 0 then 1 else 0
theorem accE_at {l : List Ac} {n : Int} (h : accE l n = 0) : 0 ≤ n ∧ n.toNat < l.length ∧ (n.toNat : Int) = n := by
  obtain ⟨i, rfl, hi⟩ := acc_in h
  exact ⟨by omega, by simpa using hi, by simp⟩
theorem pi_coins {lim : Int} {P : Ps} (hP : PI lim P) {P' : Ps} (e1 : P'.lim = P.lim) (e2 : P'.rows.length = P.rows.length) (hc : ∀ x ∈ P'.rows, 0 ≤ x.coins) (hh : 0 ≤ P'.held) (hs : P'.held + total P'.rows = P'.sup) (hsup : P'.sup ≤ 4611686018427387904)
    (hn : ∀ k, (h : k < P'.rows.length) → ∃ h' : k < P.rows.length, P'.rows[k].name = P.rows[k].name) : PI lim P' :=
  ⟨e1.trans hP.eqlim, hP.lims, by rw [e2]; exact hP.len, hc, hh, hs, hsup, fun i h => by
    obtain ⟨h', e⟩ := hn i h
    rw [e]; exact hP.names i h'⟩
theorem setC_name {l : List Ac} {i k : Nat} {c : Int} (h : k < (setC l i c).length) : ∃ h' : k < l.length, (setC l i c)[k].name = l[k].name := by
  have h' : k < l.length := by rwa [setC_len] at h
  refine ⟨h', ?_⟩
  rw [setC_get h']
  split <;> rfl
/-- what a step does -/
structure Step (lim : Int) (P : Ps) (o : Sp) : Prop where
  pi : PI lim (doesF P o).2
  len : (doesF P o).2.rows.length = P.rows.length + more P o
  turn : Turn P (doesF P o).2 (adj P o)
  last : more P o = 1 → (doesF P o).2.rows[P.rows.length]? = some ⟨o.name, 0⟩
theorem step_same {lim : Int} {P : Ps} (hP : PI lim P) {o : Sp} (h : (doesF P o).2 = P) (hm : more P o = 0) (ht : (doesF P o).1 ≠ 0 ∨ (o.kind ≠ 2 ∧ o.kind ≠ 3 ∧ o.kind ≠ 4 ∧ o.kind ≠ 5)) : Step lim P o := by
  refine ⟨by rw [h]; exact hP, by rw [h, hm, Nat.add_zero], ?_, fun e => by rw [hm] at e; cases e⟩
  rw [h]
  unfold adj
  split
  · exact turn_zero hP
  · rename_i hn
    rcases ht with ht | ht
    · exact absurd (.inl ht) hn
    · exact turn_same hP ht
theorem does_step {lim : Int} {P : Ps} {o : Sp} (hP : PI lim P) (ho : o.ok) : Step lim P o := by
  obtain ⟨⟨hc0, hc1⟩, hnm⟩ := ho
  have hb := hP.bd
  have hheld := hb.held
  have hsup := hb.sup
  have hsum := hP.sum
  have hlen := hP.len
  have hlims := hP.lims
  by_cases k1 : o.kind = 1
  · -- Open
    have hd : doesF P o = ((openF P o.name).2.1, (openF P o.name).2.2) := by unfold doesF; rw [if_pos k1]
    by_cases h0 : (openF P o.name).2.1 = 0
    · obtain ⟨hs, hask, hl, hchk⟩ := open_ok h0
      have hm : more P o = 1 := by unfold more; rw [if_pos ⟨k1, by rw [hd]; exact h0⟩]
      have ha : adj P o = zeroSp := by unfold adj; rw [if_pos (.inr k1)]
      rw [hP.eqlim] at hl
      have hP2 : (doesF P o).2 = { P with rows := P.rows ++ [⟨o.name, 0⟩] } := by rw [hd]; exact hs
      refine ⟨?_, by rw [hP2, hm]; simp, ?_, fun _ => by rw [hP2]; simp⟩
      · rw [hP2]
        refine ⟨hP.eqlim, hlims, ?_, ?_, hP.held, ?_, hP.sup, ?_⟩
        · simp only [List.length_append, List.length_singleton]; omega
        · intro x hx
          rcases List.mem_append.1 hx with hx | hx
          · exact hP.coins x hx
          · have : x = ⟨o.name, 0⟩ := by simpa using hx
            rw [this]; exact Int.le_refl _
        · show P.held + total (P.rows ++ [⟨o.name, 0⟩]) = P.sup
          rw [total_snoc]; show P.held + (total P.rows + 0) = P.sup; omega
        · intro i h
          simp only [List.length_append, List.length_singleton] at h
          by_cases e : i < P.rows.length
          · show ((P.rows ++ [(⟨o.name, 0⟩ : Ac)])[i]'(by simp; omega)).name.length ≤ _
            rw [List.getElem_append_left e]; exact hP.names i e
          · have : i = P.rows.length := by omega
            subst this
            show ((P.rows ++ [(⟨o.name, 0⟩ : Ac)])[P.rows.length]'(by simp)).name.length ≤ _
            simp [hnm]
      · rw [ha, hP2]
        obtain ⟨t1, t2, t3⟩ := turn_zero hP
        refine ⟨t1, t2, fun k hk => ?_⟩
        obtain ⟨_, t4, t5⟩ := t3 k hk
        refine ⟨by simp; omega, ?_, ?_⟩
        · show ((P.rows ++ [(⟨o.name, 0⟩ : Ac)])[k]'(by simp; omega)).name = _
          rw [List.getElem_append_left hk]
        · show ((P.rows ++ [(⟨o.name, 0⟩ : Ac)])[k]'(by simp; omega)).coins = _
          rw [List.getElem_append_left hk]; exact t5
    · have hm : more P o = 0 := by unfold more; rw [if_neg (by rw [hd]; exact fun h => h0 h.2)]
      exact step_same hP (by rw [hd]; exact open_bad h0) hm (.inl (by rw [hd]; exact h0))
  have hm : more P o = 0 := by unfold more; rw [if_neg fun h => k1 h.1]
  have keep : (doesF P o).2 = P → ((doesF P o).1 ≠ 0 ∨ (o.kind ≠ 2 ∧ o.kind ≠ 3 ∧ o.kind ≠ 4 ∧ o.kind ≠ 5)) → Step lim P o := fun h ht => step_same hP h hm ht
  have good : ∀ P' : Ps, doesF P o = (0, P') → PI lim P' → P'.rows.length = P.rows.length → Turn P P' o → Step lim P o := by
    intro P' hd hpi hl ht
    have ha : adj P o = o := by unfold adj; rw [if_neg (by rw [hd]; exact fun h => h.elim (fun h => h rfl) k1)]
    exact ⟨by rw [hd]; exact hpi, by rw [hd, hm]; exact hl, by rw [ha, hd]; exact ht, fun e => by rw [hm] at e; cases e⟩
  by_cases k2 : o.kind = 2
  · have hd : doesF P o = mintF P o.a o.coins := by unfold doesF; rw [if_neg k1, if_pos k2]
    by_cases e1 : accE P.rows o.a = 0
    · by_cases e2 : o.coins = 0
      · exact keep (by rw [hd, mintF, if_pos e1, if_pos e2]) (.inl (by rw [hd, mintF, if_pos e1, if_pos e2]; simp))
      · by_cases e3 : 4611686018427387904 - P.sup < o.coins
        · exact keep (by rw [hd, mintF, if_pos e1, if_neg e2, if_pos e3]) (.inl (by rw [hd, mintF, if_pos e1, if_neg e2, if_pos e3]; simp))
        · obtain ⟨ha0, hai, hae⟩ := accE_at e1
          have hca := coin_bd hb hai
          refine good _ (by rw [hd, mintF, if_pos e1, if_neg e2, if_neg e3]) ?_ (setC_len _ _ _) ?_
          · refine pi_coins hP rfl (setC_len _ _ _) (fun x hx => ?_) hP.held ?_ (by show P.sup + o.coins ≤ _; omega) fun k h => setC_name h
            · rcases setC_mem hx with h | h
              · exact hP.coins x h
              · omega
            · show P.held + total (setC P.rows o.a.toNat (coin P.rows o.a.toNat + o.coins)) = P.sup + o.coins
              rw [total_setC hai]; omega
          · have hmv : ∀ n, movedF o n = ((if n = o.a then o.coins else 0), 0, o.coins) := fun n => by unfold movedF; rw [if_pos k2]
            refine ⟨?_, ?_, fun k hk => ⟨by rw [setC_len]; exact hk, ?_, ?_⟩⟩
            · rw [hmv]; show P.held = IntKind.u64.wrap (P.held + 0); rw [wrapu64 (by omega) (by omega)]; omega
            · rw [hmv]; show P.sup + o.coins = IntKind.u64.wrap (P.sup + o.coins); rw [wrapu64 (by omega) (by omega)]
            · show ((setC P.rows _ _)[k]'(by rw [setC_len]; exact hk)).name = _
              rw [setC_get hk]; split <;> rfl
            · show ((setC P.rows _ _)[k]'(by rw [setC_len]; exact hk)).coins = _
              have hck := coin_bd hb hk
              rw [coin_at hk] at hck
              rw [setC_get hk, hmv]
              by_cases ek : k = o.a.toNat
              · subst ek
                rw [if_pos rfl]
                simp only [hae, if_true]
                rw [coin_at hai, wrapu64 (by omega) (by omega)]
              · rw [if_neg ek]
                simp only [show ¬ (k : Int) = o.a from fun h => ek (by omega), if_false]
                rw [wrapu64 (by omega) (by omega)]; omega
    · exact keep (by rw [hd, mintF, if_neg e1]) (.inl (by rw [hd, mintF, if_neg e1]; simp))
  by_cases k3 : o.kind = 3
  · have hd : doesF P o = payF P o.a o.b o.coins := by unfold doesF; rw [if_neg k1, if_neg k2, if_pos k3]
    by_cases e1 : accE P.rows o.a = 0 ∧ accE P.rows o.b = 0
    · by_cases e2 : o.a = o.b
      · exact keep (by rw [hd, payF, if_pos e1, if_pos e2]) (.inl (by rw [hd, payF, if_pos e1, if_pos e2]; simp))
      · by_cases e3 : o.coins = 0
        · exact keep (by rw [hd, payF, if_pos e1, if_neg e2, if_pos e3]) (.inl (by rw [hd, payF, if_pos e1, if_neg e2, if_pos e3]; simp))
        · by_cases e4 : coin P.rows o.a.toNat < o.coins
          · exact keep (by rw [hd, payF, if_pos e1, if_neg e2, if_neg e3, if_pos e4]) (.inl (by rw [hd, payF, if_pos e1, if_neg e2, if_neg e3, if_pos e4]; simp))
          · obtain ⟨ha0, hai, hae⟩ := accE_at e1.1
            obtain ⟨hb0, hbi, hbe⟩ := accE_at e1.2
            have hca := coin_bd hb hai
            have hcb := coin_bd hb hbi
            have hne : ¬ o.b.toNat = o.a.toNat := fun h => e2 (by omega)
            have hbi2 : o.b.toNat < (setC P.rows o.a.toNat (coin P.rows o.a.toNat - o.coins)).length := by rw [setC_len]; exact hbi
            have hl2 : (setC (setC P.rows o.a.toNat (coin P.rows o.a.toNat - o.coins)) o.b.toNat (coin P.rows o.b.toNat + o.coins)).length = P.rows.length := by rw [setC_len, setC_len]
            refine good _ (by rw [hd, payF, if_pos e1, if_neg e2, if_neg e3, if_neg e4]) ?_ hl2 ?_
            · refine pi_coins hP rfl hl2 (fun x hx => ?_) hP.held ?_ hP.sup fun k h => ?_
              · rcases setC_mem hx with h | h
                · rcases setC_mem h with h | h
                  · exact hP.coins x h
                  · omega
                · omega
              · show P.held + total (setC (setC P.rows o.a.toNat (coin P.rows o.a.toNat - o.coins)) o.b.toNat (coin P.rows o.b.toNat + o.coins)) = P.sup
                rw [total_setC hbi2, total_setC hai, coin_set hai, if_neg hne]; omega
              · obtain ⟨h1, n1⟩ := setC_name h
                obtain ⟨h2, n2⟩ := setC_name h1
                exact ⟨h2, n1.trans n2⟩
            · have hmv : ∀ n, movedF o n = ((if n = o.b then IntKind.u64.wrap ((if n = o.a then IntKind.u64.wrap (0 - o.coins) else 0) + o.coins) else if n = o.a then IntKind.u64.wrap (0 - o.coins) else 0), 0, 0) := fun n => by unfold movedF; rw [if_neg k2, if_pos k3]
              refine ⟨?_, ?_, fun k hk => ⟨by rw [hl2]; exact hk, ?_, ?_⟩⟩
              · rw [hmv]; show P.held = IntKind.u64.wrap (P.held + 0); rw [wrapu64 (by omega) (by omega)]; omega
              · rw [hmv]; show P.sup = IntKind.u64.wrap (P.sup + 0); rw [wrapu64 (by omega) (by omega)]; omega
              · have hk2 : k < (setC P.rows o.a.toNat (coin P.rows o.a.toNat - o.coins)).length := by rw [setC_len]; exact hk
                show ((setC (setC P.rows _ _) _ _)[k]'(by rw [hl2]; exact hk)).name = _
                rw [setC_get hk2, setC_get hk]
                split
                · split <;> rfl
                · split <;> rfl
              · have hk2 : k < (setC P.rows o.a.toNat (coin P.rows o.a.toNat - o.coins)).length := by rw [setC_len]; exact hk
                show ((setC (setC P.rows _ _) _ _)[k]'(by rw [hl2]; exact hk)).coins = _
                have hck := coin_bd hb hk
                rw [coin_at hk] at hck
                rw [setC_get hk2, setC_get hk, hmv]
                by_cases eb : k = o.b.toNat
                · subst eb
                  rw [if_pos rfl]
                  simp only [hbe, if_true, show ¬ o.b = o.a from fun h => e2 h.symm, if_false]
                  rw [coin_at hbi]
                  rw [coin_at hbi] at hcb
                  rw [wrapu64 (x := 0 + o.coins) (by omega) (by omega), wrapu64 (by omega) (by omega)]; omega
                · rw [if_neg eb]
                  simp only [show ¬ (k : Int) = o.b from fun h => eb (by omega), if_false]
                  by_cases ea : k = o.a.toNat
                  · subst ea
                    rw [if_pos rfl]
                    simp only [hae, if_true]
                    rw [coin_at hai] at e4 ⊢
                    rw [wrapu_sub ⟨by omega, by omega, by omega⟩]
                  · rw [if_neg ea]
                    simp only [show ¬ (k : Int) = o.a from fun h => ea (by omega), if_false]
                    rw [wrapu64 (by omega) (by omega)]; omega
    · exact keep (by rw [hd, payF, if_neg e1]) (.inl (by rw [hd, payF, if_neg e1]; simp))
  by_cases k4 : o.kind = 4
  · have hd : doesF P o = takeF P o.a o.coins := by unfold doesF; rw [if_neg k1, if_neg k2, if_neg k3, if_pos k4]
    by_cases e1 : accE P.rows o.a = 0
    · by_cases e2 : coin P.rows o.a.toNat < o.coins
      · exact keep (by rw [hd, takeF, if_pos e1, if_pos e2]) (.inl (by rw [hd, takeF, if_pos e1, if_pos e2]; simp))
      · obtain ⟨ha0, hai, hae⟩ := accE_at e1
        have hca := coin_bd hb hai
        have hcl := coin_le hP.coins hai
        rw [← coin_at hai] at hcl
        refine good _ (by rw [hd, takeF, if_pos e1, if_neg e2]) ?_ (setC_len _ _ _) ?_
        · refine pi_coins hP rfl (setC_len _ _ _) (fun x hx => ?_) (by show 0 ≤ P.held + o.coins; omega) ?_ hP.sup fun k h => setC_name h
          · rcases setC_mem hx with h | h
            · exact hP.coins x h
            · omega
          · show P.held + o.coins + total (setC P.rows o.a.toNat (coin P.rows o.a.toNat - o.coins)) = P.sup
            rw [total_setC hai]; omega
        · have hmv : ∀ n, movedF o n = ((if n = o.a then IntKind.u64.wrap (0 - o.coins) else 0), o.coins, 0) := fun n => by unfold movedF; rw [if_neg k2, if_neg k3, if_pos k4]
          refine ⟨?_, ?_, fun k hk => ⟨by rw [setC_len]; exact hk, ?_, ?_⟩⟩
          · rw [hmv]; show P.held + o.coins = IntKind.u64.wrap (P.held + o.coins); rw [wrapu64 (by omega) (by omega)]
          · rw [hmv]; show P.sup = IntKind.u64.wrap (P.sup + 0); rw [wrapu64 (by omega) (by omega)]; omega
          · show ((setC P.rows _ _)[k]'(by rw [setC_len]; exact hk)).name = _
            rw [setC_get hk]; split <;> rfl
          · show ((setC P.rows _ _)[k]'(by rw [setC_len]; exact hk)).coins = _
            have hck := coin_bd hb hk
            rw [coin_at hk] at hck
            rw [setC_get hk, hmv]
            by_cases ek : k = o.a.toNat
            · subst ek
              rw [if_pos rfl]
              simp only [hae, if_true]
              rw [coin_at hai] at e2 ⊢
              rw [wrapu_sub ⟨by omega, by omega, by omega⟩]
            · rw [if_neg ek]
              simp only [show ¬ (k : Int) = o.a from fun h => ek (by omega), if_false]
              rw [wrapu64 (by omega) (by omega)]; omega
    · exact keep (by rw [hd, takeF, if_neg e1]) (.inl (by rw [hd, takeF, if_neg e1]; simp))
  by_cases k5 : o.kind = 5
  · have hd : doesF P o = putF P o.a o.coins := by unfold doesF; rw [if_neg k1, if_neg k2, if_neg k3, if_neg k4, if_pos k5]
    by_cases e1 : accE P.rows o.a = 0
    · by_cases e2 : P.held < o.coins
      · exact keep (by rw [hd, putF, if_pos e1, if_pos e2]) (.inl (by rw [hd, putF, if_pos e1, if_pos e2]; simp))
      · obtain ⟨ha0, hai, hae⟩ := accE_at e1
        have hca := coin_bd hb hai
        refine good _ (by rw [hd, putF, if_pos e1, if_neg e2]) ?_ (setC_len _ _ _) ?_
        · refine pi_coins hP rfl (setC_len _ _ _) (fun x hx => ?_) (by show 0 ≤ P.held - o.coins; omega) ?_ hP.sup fun k h => setC_name h
          · rcases setC_mem hx with h | h
            · exact hP.coins x h
            · omega
          · show P.held - o.coins + total (setC P.rows o.a.toNat (coin P.rows o.a.toNat + o.coins)) = P.sup
            rw [total_setC hai]; omega
        · have hmv : ∀ n, movedF o n = ((if n = o.a then o.coins else 0), IntKind.u64.wrap (0 - o.coins), 0) := fun n => by unfold movedF; rw [if_neg k2, if_neg k3, if_neg k4, if_pos k5]
          refine ⟨?_, ?_, fun k hk => ⟨by rw [setC_len]; exact hk, ?_, ?_⟩⟩
          · rw [hmv]; show P.held - o.coins = IntKind.u64.wrap (P.held + IntKind.u64.wrap (0 - o.coins)); rw [wrapu_sub ⟨by omega, by omega, by omega⟩]
          · rw [hmv]; show P.sup = IntKind.u64.wrap (P.sup + 0); rw [wrapu64 (by omega) (by omega)]; omega
          · show ((setC P.rows _ _)[k]'(by rw [setC_len]; exact hk)).name = _
            rw [setC_get hk]; split <;> rfl
          · show ((setC P.rows _ _)[k]'(by rw [setC_len]; exact hk)).coins = _
            have hck := coin_bd hb hk
            rw [coin_at hk] at hck
            rw [setC_get hk, hmv]
            by_cases ek : k = o.a.toNat
            · subst ek
              rw [if_pos rfl]
              simp only [hae, if_true]
              rw [coin_at hai, wrapu64 (by omega) (by omega)]
            · rw [if_neg ek]
              simp only [show ¬ (k : Int) = o.a from fun h => ek (by omega), if_false]
              rw [wrapu64 (by omega) (by omega)]; omega
    · exact keep (by rw [hd, putF, if_neg e1]) (.inl (by rw [hd, putF, if_neg e1]; simp))
  refine keep ?_ (.inr ⟨k2, k3, k4, k5⟩)
  unfold doesF
  rw [if_neg k1, if_neg k2, if_neg k3, if_neg k4, if_neg k5]
  split <;> rfl
end Go.HL.Pu
