/-
  Wheel: which timers stand where while time goes; plain laws. No condition.
-/
import Derived.Test.YtngjaibngkhidaaWhE
namespace Go.HL.Wh
open Go.HL
set_option linter.unusedSimpArgs false
set_option linter.unusedVariables false
/-- so far: those of D were met -/
def curT (to : Nat) (D : Tm → Bool) (ts : List Tm) : List Tm := (ts.filter fun t => !(D t && decide (t.a ≤ to))).map fun t => if D t = true then hgT t to else t
def outT (to : Nat) (D : Tm → Bool) (ts : List Tm) : List Tm := ts.filter fun t => D t && decide (t.a ≤ to)
def movB (to : Nat) (t : Tm) : Bool := decide (to < t.a) && decide ((lvF t.a to).1 ≠ t.l)
def movT (to : Nat) (D : Tm → Bool) (ts : List Tm) : List Tm := ts.filter fun t => D t && movB to t
def addD (D : Tm → Bool) (t : Tm) : Tm → Bool := fun u => D u || decide (u.n = t.n)
section
variable {ts : List Tm} {to : Nat} {D D' : Tm → Bool} {t : Tm}
theorem cur_congr (h : ∀ t ∈ ts, D t = D' t) : curT to D ts = curT to D' ts := by
  unfold curT
  have e : (ts.filter fun t => !(D t && decide (t.a ≤ to))) = ts.filter fun t => !(D' t && decide (t.a ≤ to)) := List.filter_congr fun t ht => by rw [h t ht]
  rw [e]
  exact List.map_congr_left fun t ht => by rw [h t (List.mem_filter.1 ht).1]
theorem out_congr (h : ∀ t ∈ ts, D t = D' t) : outT to D ts = outT to D' ts := List.filter_congr fun t ht => by rw [h t ht]
theorem mov_congr (h : ∀ t ∈ ts, D t = D' t) : movT to D ts = movT to D' ts := List.filter_congr fun t ht => by rw [h t ht]
theorem filt_add (p : Tm → Bool) : ∀ {ts : List Tm}, (ts.map (·.n)).Nodup → t ∈ ts → D t = false → p t = true →
    (ts.filter fun u => addD D t u && p u).Perm (t :: ts.filter fun u => D u && p u)
  | [], _, h, _, _ => by cases h
  | x :: r, hn, ht, hD, hp => by
    rw [List.map_cons, List.nodup_cons] at hn
    rcases List.mem_cons.1 ht with rfl | ht
    · have e : (r.filter fun u => addD D t u && p u) = r.filter fun u => D u && p u := List.filter_congr fun u hu => by
        have : u.n ≠ t.n := fun g => hn.1 (List.mem_map.2 ⟨u, hu, g⟩)
        simp [addD, this]
      rw [List.filter_cons_of_pos (by simp [addD, hp]), List.filter_cons_of_neg (by simp [hD]), e]
    · have hne : x.n ≠ t.n := fun g => hn.1 (List.mem_map.2 ⟨t, ht, g.symm⟩)
      have ih := filt_add p hn.2 ht hD hp
      by_cases hx : (D x && p x) = true
      · rw [List.filter_cons_of_pos (by simpa [addD, hne] using hx), show (x :: r).filter (fun u => D u && p u) = x :: r.filter (fun u => D u && p u) from List.filter_cons_of_pos hx]
        exact (ih.cons x).trans (List.Perm.swap t x _)
      · rw [List.filter_cons_of_neg (by simpa [addD, hne] using hx), show (x :: r).filter (fun u => D u && p u) = r.filter (fun u => D u && p u) from List.filter_cons_of_neg hx]
        exact ih
theorem filt_not (p : Tm → Bool) (hn : (ts.map (·.n)).Nodup) (ht : t ∈ ts) (hp : p t = false) : (ts.filter fun u => addD D t u && p u) = ts.filter fun u => D u && p u := by
  refine List.filter_congr fun u hu => ?_
  by_cases e : u.n = t.n
  · have := num_inj hn hu ht e
    subst this
    simp [hp]
  · simp [addD, e]
theorem cur_due (hn : (ts.map (·.n)).Nodup) (ht : t ∈ ts) (hd : t.a ≤ to) : curT to (addD D t) ts = offT (curT to D ts) t.n := by
  unfold curT offT
  rw [List.filter_map, List.filter_filter]
  have e : (ts.filter fun u => !(addD D t u && decide (u.a ≤ to))) = ts.filter fun u => ((fun u : Tm => decide (u.n ≠ t.n)) ∘ fun t => if D t = true then hgT t to else t) u && !(D u && decide (u.a ≤ to)) := by
    refine List.filter_congr fun u hu => ?_
    have hfn : (if D u = true then hgT u to else u).n = u.n := by split <;> rfl
    simp only [Function.comp_apply, hfn]
    by_cases e : u.n = t.n
    · have := num_inj hn hu ht e
      subst this
      simp [addD, hd]
    · simp [addD, e]
  rw [e]
  refine List.map_congr_left fun u hu => ?_
  have h := (List.mem_filter.1 hu).2
  have hfn : (if D u = true then hgT u to else u).n = u.n := by split <;> rfl
  simp only [Function.comp_apply, hfn, Bool.and_eq_true, decide_eq_true_eq] at h
  simp [addD, h.1]
theorem cur_mov (hn : (ts.map (·.n)).Nodup) (ht : t ∈ ts) (hd : to < t.a) : curT to (addD D t) ts = onT (curT to D ts) (hgT t to) := by
  unfold curT onT
  rw [List.map_map]
  have e : (ts.filter fun u => !(addD D t u && decide (u.a ≤ to))) = ts.filter fun u => !(D u && decide (u.a ≤ to)) := by
    refine List.filter_congr fun u hu => ?_
    by_cases e : u.n = t.n
    · have := num_inj hn hu ht e
      subst this
      have : ¬ u.a ≤ to := by omega
      simp [this]
    · simp [addD, e]
  rw [e]
  refine List.map_congr_left fun u hu => ?_
  have hu := (List.mem_filter.1 hu).1
  have hfn : (if D u = true then hgT u to else u).n = u.n := by split <;> rfl
  simp only [Function.comp_apply, hfn]
  show _ = if u.n = t.n then hgT t to else _
  by_cases e : u.n = t.n
  · have := num_inj hn hu ht e
    subst this
    simp [addD]
  · simp [addD, e]
theorem cur_same (hn : (ts.map (·.n)).Nodup) (ht : t ∈ ts) (hd : to < t.a) (hg : hgT t to = t) : curT to (addD D t) ts = curT to D ts := by
  unfold curT
  have e : (ts.filter fun u => !(addD D t u && decide (u.a ≤ to))) = ts.filter fun u => !(D u && decide (u.a ≤ to)) := by
    refine List.filter_congr fun u hu => ?_
    by_cases e : u.n = t.n
    · have := num_inj hn hu ht e
      subst this
      have : ¬ u.a ≤ to := by omega
      simp [this]
    · simp [addD, e]
  rw [e]
  refine List.map_congr_left fun u hu => ?_
  have hu := (List.mem_filter.1 hu).1
  by_cases e : u.n = t.n
  · have := num_inj hn hu ht e
    subst this
    simp [addD, hg]
  · simp [addD, e]
theorem mem_cur {u : Tm} (h : u ∈ curT to D ts) : ∃ t ∈ ts, u = (if D t = true then hgT t to else t) ∧ (D t = true → to < t.a) := by
  obtain ⟨t, ht, rfl⟩ := List.mem_map.1 h
  obtain ⟨h1, h2⟩ := List.mem_filter.1 ht
  refine ⟨t, h1, rfl, fun hD => ?_⟩
  simp [hD] at h2
  exact h2
theorem cur_mem {t : Tm} (ht : t ∈ ts) (hD : D t = false) : t ∈ curT to D ts := List.mem_map.2 ⟨t, List.mem_filter.2 ⟨ht, by simp [hD]⟩, by simp [hD]⟩
end
/-- all lie where they should at that time -/
structure plOK (now : Nat) (ts : List Tm) : Prop where
  num : (ts.map (·.n)).Nodup
  pl : ∀ t ∈ ts, t.l = (lvF t.a now).1 ∧ t.s = (lvF t.a now).2
  ah : ∀ t ∈ ts, now < t.a
  bd : ∀ t ∈ ts, t.a ≤ 1099511627776 ∧ 1 ≤ t.n
def restT (to : Nat) (ts : List Tm) : List Tm := (ts.filter fun t => decide (to < t.a)).map fun t => hgT t to
def dueT (to : Nat) (ts : List Tm) : List Tm := ts.filter fun t => decide (t.a ≤ to)
def movedT (to : Nat) (ts : List Tm) : List Tm := ts.filter (movB to)
theorem plOK.rest {now to : Nat} {ts : List Tm} (h : plOK now ts) : plOK to (restT to ts) := by
  have hm : ∀ u ∈ restT to ts, ∃ t ∈ ts, to < t.a ∧ u = hgT t to := fun u hu => by
    obtain ⟨t, ht, rfl⟩ := List.mem_map.1 hu
    obtain ⟨h1, h2⟩ := List.mem_filter.1 ht
    exact ⟨t, h1, of_decide_eq_true h2, rfl⟩
  refine ⟨?_, fun u hu => ?_, fun u hu => ?_, fun u hu => ?_⟩
  · unfold restT
    rw [List.map_map]
    exact h.num.sublist (List.filter_sublist.map _)
  · obtain ⟨t, ht, h1, rfl⟩ := hm u hu; exact ⟨rfl, rfl⟩
  · obtain ⟨t, ht, h1, rfl⟩ := hm u hu; exact h1
  · obtain ⟨t, ht, h1, rfl⟩ := hm u hu; exact h.bd t ht
theorem hgT_same {t : Tm} {to : Nat} (h1 : (lvF t.a to).1 = t.l) (h2 : (lvF t.a to).2 = t.s) : hgT t to = t := by
  unfold hgT; rw [h1, h2]
/-- met before the place l, n -/
def vD (l n : Nat) : Tm → Bool := fun t => decide (t.l < l) || (decide (t.l = l) && decide (t.s < n))
section
variable {ts : List Tm} {now to : Nat} {D : Tm → Bool}
/-- at the end all is as it should be -/
theorem end_cur (h : plOK now ts) (hto : now < to) (hD : ∀ t ∈ ts, D t = true ↔ visF now to (t.l, t.s)) : curT to D ts = restT to ts ∧ outT to D ts = dueT to ts ∧ movT to D ts = movedT to ts := by
  have key : ∀ t ∈ ts, D t = false → to < t.a ∧ hgT t to = t := fun t ht hd => by
    obtain ⟨p1, p2⟩ := h.pl t ht
    have hv : ¬ visF now to (lvF t.a now) := by
      rw [show lvF t.a now = (t.l, t.s) by rw [p1, p2]]
      intro g
      rw [(hD t ht).2 g] at hd; cases hd
    obtain ⟨q1, q2⟩ := (lv_law t.a now to (h.ah t ht) hto).2 hv
    exact ⟨q1, hgT_same (by rw [q2, p1]) (by rw [q2, p2])⟩
  refine ⟨?_, ?_, ?_⟩
  · unfold curT restT
    have e : (ts.filter fun t => !(D t && decide (t.a ≤ to))) = ts.filter fun t => decide (to < t.a) := List.filter_congr fun t ht => by
      cases hd : D t with
      | true => by_cases g : t.a ≤ to <;> simp [g] <;> omega
      | false => simp [(key t ht hd).1]
    rw [e]
    refine List.map_congr_left fun t ht => ?_
    cases hd : D t with
    | true => simp
    | false => simp [(key t (List.mem_filter.1 ht).1 hd).2]
  · refine List.filter_congr fun t ht => ?_
    cases hd : D t with
    | true => simp
    | false => have := (key t ht hd).1; simp; omega
  · refine List.filter_congr fun t ht => ?_
    cases hd : D t with
    | true => simp
    | false =>
      have := (key t ht hd).2
      have : (lvF t.a to).1 = t.l := congrArg Tm.l this
      simp [movB, this]
/-- what stands in a place that time comes to -/
theorem at_place (h : plOK now ts) (hto : now < to) {l n : Nat} (hl : l ≤ 4) (hn : n < 64) (h4 : l = 4 → n = 0) (hv : visF now to (l, n)) {sn : List Int} (hD : ∀ t ∈ ts, D t = (vD l n t || (decide (tmQ t = l * 64 + n) && decide (t.n ∈ sn)))) {u : Tm} (hu : u ∈ curT to D ts) (hq : tmQ u = l * 64 + n) (hs : u.n ∉ sn) :
    u ∈ ts ∧ D u = false ∧ u.l = l ∧ u.s = n := by
  obtain ⟨t, ht, he, hd⟩ := mem_cur hu
  have htn : u.n = t.n := by rw [he]; split <;> rfl
  have ok : ∀ t : Tm, t.l = (lvF t.a now).1 → t.s = (lvF t.a now).2 → t.s < 64 ∧ t.l ≤ 4 := fun t h1 h2 => by
    have := lvF_bd t.a now
    rw [h1, h2]; exact ⟨this.2.1, this.1⟩
  have hDf : D t = false := by
    cases hDt : D t with
    | false => rfl
    | true =>
      exfalso
      have hta := hd hDt
      rw [hDt, if_pos rfl] at he
      rw [hD t ht] at hDt
      obtain ⟨p1, p2⟩ := h.pl t ht
      have hlt : t.l < l ∨ t.l = l ∧ t.s < n := by
        rcases Bool.or_eq_true _ _ ▸ hDt with g | g
        · simp only [vD, Bool.or_eq_true, Bool.and_eq_true, decide_eq_true_eq] at g; exact g
        · simp only [Bool.and_eq_true, decide_eq_true_eq] at g
          exact absurd (htn ▸ g.2) hs
      have hv2 : visF now to (lvF t.a now) := by
        rw [show lvF t.a now = (t.l, t.s) by rw [p1, p2]]
        unfold visF at hv ⊢
        simp only at hv ⊢
        omega
      have := ((lv_law t.a now to (h.ah t ht) hto).1 hv2 hta).1
      rw [show lvF t.a now = (t.l, t.s) by rw [p1, p2]] at this
      unfold visF at hv
      rw [← this] at hv
      simp only at hv
      omega
  rw [hDf] at he
  simp at he
  subst he
  obtain ⟨p1, p2⟩ := h.pl u ht
  obtain ⟨b1, b2⟩ := ok u p1 p2
  unfold tmQ at hq
  exact ⟨ht, hDf, by omega, by omega⟩
/-- and what becomes of it -/
theorem at_go (h : plOK now ts) (hto : now < to) {l n : Nat} (hv : visF now to (l, n)) {u : Tm} (hu : u ∈ ts) (hl : u.l = l) (hs : u.s = n) (hd : to < u.a) : (lvF u.a to).1 = l → hgT u to = u := by
  obtain ⟨p1, p2⟩ := h.pl u hu
  have e : lvF u.a now = (l, n) := by rw [← hl, ← hs, p1, p2]
  obtain ⟨q1, q2⟩ := (lv_law u.a now to (h.ah u hu) hto).1 (e ▸ hv) hd
  intro g
  rcases q2 with q2 | q2
  · rw [← q1, e] at q2; simp only at q2; omega
  · exact hgT_same (by rw [q2, ← p1]) (by rw [q2, ← p2])
/-- the place is done with -/
theorem next_place (h : plOK now ts) {l n : Nat} (hn : n < 64) {sn : List Int} (hD : ∀ t ∈ ts, D t = (vD l n t || (decide (tmQ t = l * 64 + n) && decide (t.n ∈ sn)))) (hall : ∀ t ∈ ts, tmQ t = l * 64 + n → D t = true) : ∀ t ∈ ts, D t = vD l (n + 1) t := by
  intro t ht
  obtain ⟨p1, p2⟩ := h.pl t ht
  have hs : t.s < 64 := by rw [p2]; exact (lvF_bd t.a now).2.1
  by_cases hq : tmQ t = l * 64 + n
  · rw [hall t ht hq]
    unfold tmQ at hq
    have e1 : t.l = l := by omega
    have e2 : t.s = n := by omega
    simp [vD, e1, e2]
  · rw [hD t ht]
    unfold tmQ at hq
    have hq2 : ¬ (t.l = l ∧ t.s = n) := fun g => hq (by rw [g.1, g.2])
    unfold vD
    rw [Bool.eq_iff_iff]
    simp only [Bool.or_eq_true, Bool.and_eq_true, decide_eq_true_eq, tmQ, hq, false_and, or_false]
    omega
theorem next_level (h : plOK now ts) (l : Nat) : ∀ t ∈ ts, vD l 64 t = vD (l + 1) 0 t := by
  intro t ht
  obtain ⟨p1, p2⟩ := h.pl t ht
  have hs : t.s < 64 := by rw [p2]; exact (lvF_bd t.a now).2.1
  unfold vD
  rw [Bool.eq_iff_iff]
  simp only [Bool.or_eq_true, Bool.and_eq_true, decide_eq_true_eq]
  omega
end
end Go.HL.Wh
