/-
  Purse: what stands of names; what is told is loaded as it was. No condition.
-/
import Derived.Test.YtliofpihaemglaaPuO
namespace Go.HL.Pu
open Go.HL Go.HL.Nm Go.Proofs
set_option maxRecDepth 4000
set_option linter.unusedSimpArgs false
set_option linter.unusedVariables false
def nms (l : List Ac) : List (List UInt8) := l.map Ac.name
theorem nms_setC (l : List Ac) (i : Nat) (c : Int) : nms (setC l i c) = nms l := by
  unfold nms setC
  rw [List.map_set]
  by_cases h : i < l.length
  · have e : (l.getD i ⟨[], 0⟩).name = (l.map Ac.name)[i]'(by simpa using h) := by simp [h]
    show (l.map Ac.name).set i ((l.getD i ⟨[], 0⟩).name) = _
    rw [e]; exact List.set_getElem_self _
  · rw [List.set_eq_of_length_le (by simp; omega)]
theorem keys_nms (l : List Ac) : keys l = (nms l).map keyF := by simp [keys, nms]
/-- what stands of names -/
structure NI (ns : List (List UInt8)) : Prop where
  chk : ∀ n ∈ ns, (checkF n).2 = 0
  nod : (ns.map keyF).Nodup
  bank : ns[0]? = some bankB
theorem does_nms (P : Ps) (o : Sp) : nms (doesF P o).2.rows = nms P.rows ∨ (nms (doesF P o).2.rows = nms P.rows ++ [o.name] ∧ (checkF o.name).2 = 0 ∧ askB (keyF o.name) (keys P.rows) = false) := by
  unfold doesF
  split
  · by_cases h : (openF P o.name).2.1 = 0
    · obtain ⟨h1, h2, _, h4⟩ := open_ok h
      right
      rw [h1]
      exact ⟨by simp [nms], h4, h2⟩
    · left; rw [open_bad h]
  · left
    split
    · unfold mintF
      split
      · split
        · rfl
        · split
          · rfl
          · exact nms_setC _ _ _
      · rfl
    · split
      · unfold payF
        split
        · split
          · rfl
          · split
            · rfl
            · split
              · rfl
              · show nms (setC (setC _ _ _) _ _) = _
                rw [nms_setC, nms_setC]
        · rfl
      · split
        · unfold takeF
          split
          · split
            · rfl
            · exact nms_setC _ _ _
          · rfl
        · split
          · unfold putF
            split
            · split
              · rfl
              · exact nms_setC _ _ _
            · rfl
          · split <;> rfl
theorem does_NI {P : Ps} {o : Sp} (h : NI (nms P.rows)) : NI (nms (doesF P o).2.rows) := by
  rcases does_nms P o with e | ⟨e, hc, ha⟩
  · rw [e]; exact h
  · rw [e]
    refine ⟨fun n hn => ?_, ?_, ?_⟩
    · rcases List.mem_append.1 hn with hn | hn
      · exact h.chk n hn
      · have : n = o.name := by simpa using hn
        rw [this]; exact hc
    · rw [List.map_append, List.nodup_append]
      refine ⟨h.nod, by simp, fun a hma b hb => ?_⟩
      have : b = keyF o.name := by simpa using hb
      subst this
      rintro rfl
      rw [← keys_nms] at hma
      have := (askB_iff _ _).2 hma
      rw [ha] at this
      cases this
    · have hb := h.bank
      have : 0 < (nms P.rows).length := (List.getElem?_eq_some_iff.1 hb).1
      rw [List.getElem?_append_left this]
      exact hb
theorem loadL_same {lim sup : Int} : ∀ (l R : List Ac) (h : Int), NI (nms (R ++ l)) → ((R ++ l).length : Int) ≤ lim → total l ≤ h → (∀ x ∈ l, 0 ≤ x.coins) → loadL ⟨lim, R, sup, h⟩ l = (0, ⟨lim, R ++ l, sup, h - total l⟩)
  | [], R, h, _, _, _, _ => by simp [loadL, total_nil]
  | a :: l, R, h, hn, hl, ht, hc => by
    have ha := hc a (List.mem_cons_self ..)
    have htl := total_pos (l := l) fun x hx => hc x (List.mem_cons_of_mem _ hx)
    have e : total (a :: l) = a.coins + total l := by simp [total]
    rw [e] at ht
    have hmem : a.name ∈ nms (R ++ a :: l) := by simp [nms]
    have hck := hn.chk _ hmem
    have hask : askB (keyF a.name) (keys R) = false := by
      cases hb : askB (keyF a.name) (keys R) with
      | false => rfl
      | true =>
        have hm := (askB_iff _ _).1 hb
        have hnd := hn.nod
        have e2 : (nms (R ++ a :: l)).map keyF = keys R ++ (keyF a.name :: keys l) := by simp [nms, keys]; rfl
        rw [e2, List.nodup_append] at hnd
        exact absurd rfl (hnd.2.2 _ hm _ (List.mem_cons_self ..))
    have hlen : ¬ ((R.length : Int) = lim) := by simp only [List.length_append, List.length_cons] at hl; omega
    have ho : (openF ⟨lim, R, sup, h⟩ a.name).2.1 = 0 := by
      unfold openF
      rw [if_pos hck, if_neg (by rw [hask]; decide), if_neg hlen]
    have hs : stepE ⟨lim, R, sup, h⟩ a = 0 := by
      unfold stepE
      rw [if_pos ho, if_neg (by show ¬ h < a.coins; omega)]
    rw [loadL, if_pos hs]
    have e3 : R ++ a :: l = (R ++ [a]) ++ l := by simp
    rw [e3] at hn hl ⊢
    show loadL ⟨lim, R ++ [a], sup, h - a.coins⟩ l = _
    rw [loadL_same l (R ++ [a]) (h - a.coins) hn hl (by omega) (fun x hx => hc x (List.mem_cons_of_mem _ hx)), e]
    congr 2
    omega
theorem load_same {lim : Int} {P : Ps} (hP : PI lim P) (hn : NI (nms P.rows)) : loadF lim P.rows P.sup = (0, P) := by
  have hb := hP.bd
  have h1 := hP.len
  have h2 := hP.sum
  have h3 := hP.held
  have h4 := hP.sup
  unfold loadF
  rw [if_pos hP.lims, if_neg (by omega), if_neg (by omega)]
  have hbank : (P.rows.getD 0 ⟨[], 0⟩).name = bankB := by
    have h := hn.bank
    simp only [nms, List.getElem?_map] at h
    cases hr : P.rows[0]? with
    | none => rw [hr] at h; cases h
    | some x =>
      rw [hr] at h
      have : x.name = bankB := by simpa using h
      rw [List.getD_eq_getElem?_getD, hr]
      exact this
  rw [if_pos hbank]
  have := loadL_same (lim := lim) (sup := P.sup) P.rows [] P.sup (by simpa using hn) (by simpa using h1.2) (by omega) hP.coins
  rw [this]
  have e : P.sup - total P.rows = P.held := by omega
  rw [e, List.nil_append, ← hP.eqlim]
theorem new_NI : NI (nms [⟨bankB, 0⟩]) := by
  refine ⟨fun n hn => ?_, by simp [nms], rfl⟩
  have : n = bankB := by simpa [nms] using hn
  rw [this]; exact bank_ok
theorem new_PI {lim : Int} (h : 1 ≤ lim ∧ lim ≤ 64) : PI lim ⟨lim, [⟨bankB, 0⟩], 0, 0⟩ :=
  ⟨rfl, h, by simp; omega, by simp, Int.le_refl _, rfl, by show (0 : Int) ≤ _; decide, fun i hi => by
    have : i = 0 := by simpa using hi
    subst this
    simp [bankB]⟩
end Go.HL.Pu
