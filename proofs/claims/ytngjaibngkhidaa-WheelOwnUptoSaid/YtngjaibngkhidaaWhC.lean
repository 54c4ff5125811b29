/-
  Wheel: what holds of a wheel in memory. No condition.
-/
import Derived.Test.YtngjaibngkhidaaWhB
namespace Go.HL.Wh
open Go.HL Go.Proofs
set_option maxRecDepth 4000
set_option linter.unusedSimpArgs false
set_option linter.unusedVariables false
def hungA : List Tm → Asn
  | [] => emp
  | t :: r => tmA t * hungA r
theorem hungA_app : ∀ a b : List Tm, hungA (a ++ b) = hungA a * hungA b
  | [], b => by rw [List.nil_append, hungA, emp_sep]
  | t :: r, b => by rw [List.cons_append, hungA, hungA, hungA_app r b, sep_assoc]
/-- all the others -/
def offT (ts : List Tm) (n : Int) : List Tm := ts.filter fun u => decide (u.n ≠ n)
def onT (ts : List Tm) (t' : Tm) : List Tm := ts.map fun u => if u.n = t'.n then t' else u
theorem num_inj {ts : List Tm} (h : (ts.map (·.n)).Nodup) {t u : Tm} (ht : t ∈ ts) (hu : u ∈ ts) (e : t.n = u.n) : t = u := by
  induction ts with
  | nil => cases ht
  | cons x r ih =>
    rw [List.map_cons, List.nodup_cons] at h
    rcases List.mem_cons.1 ht with ht | ht <;> rcases List.mem_cons.1 hu with hu | hu
    · rw [ht, hu]
    · exact absurd (List.mem_map.2 ⟨u, hu, by rw [← e, ht]⟩) h.1
    · exact absurd (List.mem_map.2 ⟨t, ht, by rw [e, hu]⟩) h.1
    · exact ih h.2 ht hu
theorem offT_none {ts : List Tm} {n : Int} (h : ∀ u ∈ ts, u.n ≠ n) : offT ts n = ts := List.filter_eq_self.2 fun u hu => decide_eq_true (h u hu)
theorem onT_none {ts : List Tm} {t : Tm} (h : ∀ u ∈ ts, u.n ≠ t.n) : onT ts t = ts := by
  exact (List.map_congr_left (g := id) fun u hu => if_neg (h u hu)).trans (List.map_id _)
theorem hungA_off {ts : List Tm} (h : (ts.map (·.n)).Nodup) {t : Tm} (ht : t ∈ ts) : hungA ts = hungA (offT ts t.n) * tmA t := by
  induction ts with
  | nil => cases ht
  | cons x r ih =>
    rw [List.map_cons, List.nodup_cons] at h
    rcases List.mem_cons.1 ht with rfl | ht
    · have : offT (t :: r) t.n = r := by
        unfold offT
        rw [List.filter_cons_of_neg (by simp)]
        exact offT_none fun u hu e => h.1 (List.mem_map.2 ⟨u, hu, e⟩)
      rw [this, hungA, sep_comm]
    · have hne : x.n ≠ t.n := fun e => h.1 (List.mem_map.2 ⟨t, ht, e.symm⟩)
      have : offT (x :: r) t.n = x :: offT r t.n := List.filter_cons_of_pos (by simpa using hne)
      rw [this, hungA, hungA, ih h.2 ht, sep_assoc]
theorem hungA_on {ts : List Tm} (h : (ts.map (·.n)).Nodup) {t t' : Tm} (ht : t ∈ ts) (e : t'.n = t.n) : hungA (onT ts t') = hungA (offT ts t.n) * tmA t' := by
  induction ts with
  | nil => cases ht
  | cons x r ih =>
    rw [List.map_cons, List.nodup_cons] at h
    rcases List.mem_cons.1 ht with rfl | ht
    · have h1 : ∀ u ∈ r, u.n ≠ t.n := fun u hu e => h.1 (List.mem_map.2 ⟨u, hu, e⟩)
      have : offT (t :: r) t.n = r := by
        unfold offT
        rw [List.filter_cons_of_neg (by simp)]
        exact offT_none h1
      have h2 : onT (t :: r) t' = t' :: r := by
        show (if t.n = t'.n then t' else t) :: onT r t' = _
        rw [if_pos e.symm, onT_none (fun u hu => by rw [e]; exact h1 u hu)]
      rw [this, h2, hungA, sep_comm]
    · have hne : x.n ≠ t.n := fun e => h.1 (List.mem_map.2 ⟨t, ht, e.symm⟩)
      have : offT (x :: r) t.n = x :: offT r t.n := List.filter_cons_of_pos (by simpa using hne)
      have h2 : onT (x :: r) t' = x :: onT r t' := by
        show (if x.n = t'.n then t' else x) :: onT r t' = _
        rw [if_neg (by rw [e]; exact hne)]
      rw [this, h2, hungA, hungA, ih h.2 ht, sep_assoc]
/-- a slot holds just the timers that lie there -/
structure SlOK (ts : List Tm) (q : Nat) (x : Sl) : Prop where
  ok : okE (slE x) (slC x)
  mem : ∀ n v, getI (slE x) n = some v ↔ ∃ t ∈ ts, t.n = n ∧ tmQ t = q ∧ v = tp t
structure wOK (ts : List Tm) (aes : List En) (ac : Nat) (Y : Dk) : Prop where
  num : (ts.map (·.n)).Nodup
  tm : ∀ t ∈ ts, tmOK t
  alls : aes.map (fun e => (e.k, e.v)) = ts.map fun t => (t.n, tp t)
  aok : okE aes ac
  sl : ∀ q, q < 257 → SlOK ts q (Y q)
theorem getI_alls : ∀ {aes : List En} {ts : List Tm}, aes.map (fun e => (e.k, e.v)) = ts.map (fun t => (t.n, tp t)) → ∀ n, getI aes n = (ts.find? fun t => decide (t.n = n)).map tp
  | [], [], _, _ => rfl
  | [], _ :: _, h, _ => by cases h
  | _ :: _, [], h, _ => by cases h
  | e :: r, t :: ts, h, n => by
    simp only [List.map_cons, List.cons.injEq, Prod.mk.injEq] at h
    obtain ⟨⟨h1, h2⟩, h3⟩ := h
    simp only [getI, h1, h2]
    by_cases hn : n = t.n
    · subst hn; simp
    · rw [if_neg hn, List.find?_cons_of_neg (by simpa using fun g : t.n = n => hn g.symm)]
      exact getI_alls h3 n
theorem find_num {ts : List Tm} (h : (ts.map (·.n)).Nodup) {t : Tm} (ht : t ∈ ts) : (ts.find? fun u => decide (u.n = t.n)) = some t := by
  cases hf : ts.find? fun u => decide (u.n = t.n) with
  | none =>
    have := List.find?_eq_none.1 hf t ht
    simp at this
  | some u =>
    have h1 := List.find?_some hf
    have h2 := List.mem_of_find?_eq_some hf
    rw [num_inj h h2 ht (of_decide_eq_true h1)]
theorem wOK.get {ts : List Tm} {aes : List En} {ac : Nat} {Y : Dk} (h : wOK ts aes ac Y) {t : Tm} (ht : t ∈ ts) : getI aes t.n = some (tp t) := by
  rw [getI_alls h.alls, find_num h.num ht]; rfl
theorem wOK.got {ts : List Tm} {aes : List En} {ac : Nat} {Y : Dk} (h : wOK ts aes ac Y) {n : Int} (hn : ∀ t ∈ ts, t.n ≠ n) : getI aes n = none := by
  rw [getI_alls h.alls, List.find?_eq_none.2 (fun t ht => by simpa using hn t ht)]; rfl
theorem wOK.at {ts : List Tm} {aes : List En} {ac : Nat} {Y : Dk} (h : wOK ts aes ac Y) {t : Tm} (ht : t ∈ ts) : ∃ x, Y (tmQ t) = some x := by
  have := ((h.sl _ (tmQ_lt (h.tm t ht))).mem t.n (tp t)).2 ⟨t, ht, rfl, rfl, rfl⟩
  cases hY : Y (tmQ t) with
  | none => rw [hY] at this; cases this
  | some x => exact ⟨x, rfl⟩
theorem off_nodup {ts : List Tm} (h : (ts.map (·.n)).Nodup) (n : Int) : ((offT ts n).map (·.n)).Nodup := h.sublist (List.filter_sublist.map _)
theorem map_off : ∀ {aes : List En} {ts : List Tm} (n : Int), aes.map (fun e => (e.k, e.v)) = ts.map (fun t => (t.n, tp t)) → (aes.filter fun e => decide (e.k ≠ n)).map (fun e => (e.k, e.v)) = (offT ts n).map fun t => (t.n, tp t)
  | [], [], _, _ => rfl
  | [], _ :: _, _, h => by cases h
  | _ :: _, [], _, h => by cases h
  | e :: r, t :: ts, n, h => by
    simp only [List.map_cons, List.cons.injEq, Prod.mk.injEq] at h
    obtain ⟨⟨h1, h2⟩, h3⟩ := h
    have ih := map_off n h3
    unfold offT at ih ⊢
    by_cases hn : t.n = n
    · rw [List.filter_cons_of_neg (by simp [h1, hn]), List.filter_cons_of_neg (by simp [hn])]
      exact ih
    · rw [List.filter_cons_of_pos (by simp [h1, hn]), List.filter_cons_of_pos (by simp [hn]), List.map_cons, List.map_cons, ih, h1, h2]
theorem slE_dl (x : Sl) (n : Int) : slE (dlX x n) = delI (slE x) n := by cases x <;> rfl
theorem slC_dl (x : Sl) (n : Int) : slC (dlX x n) = slC x := by cases x <;> rfl
theorem SlOK.del {ts : List Tm} {q : Nat} {x : Sl} (h : SlOK ts q x) (n : Int) : SlOK (offT ts n) q (dlX x n) := by
  refine ⟨by rw [slE_dl, slC_dl]; exact okE_del h.ok n, fun k v => ?_⟩
  rw [slE_dl, getI_del h.ok.kn]
  by_cases hk : k = n
  · subst hk
    rw [if_pos rfl]
    constructor
    · intro h; cases h
    · rintro ⟨t, ht, h1, _⟩
      have := (List.mem_filter.1 ht).2
      simp [h1] at this
  · rw [if_neg hk, h.mem]
    constructor
    · rintro ⟨t, ht, h1, h2⟩
      exact ⟨t, List.mem_filter.2 ⟨ht, by simp [h1, hk]⟩, h1, h2⟩
    · rintro ⟨t, ht, h1⟩
      exact ⟨t, (List.mem_filter.1 ht).1, h1⟩
/-- where it does not lie, there is nothing to take out -/
theorem SlOK.off {ts : List Tm} (hn : (ts.map (·.n)).Nodup) {q : Nat} {x : Sl} (h : SlOK ts q x) {t : Tm} (ht : t ∈ ts) (hq : tmQ t ≠ q) : SlOK (offT ts t.n) q x := by
  refine ⟨h.ok, fun k v => ?_⟩
  rw [h.mem]
  constructor
  · rintro ⟨u, hu, h1, h2, h3⟩
    exact ⟨u, List.mem_filter.2 ⟨hu, decide_eq_true fun e => hq (by rw [← num_inj hn hu ht e]; exact h2)⟩, h1, h2, h3⟩
  · rintro ⟨u, hu, h1⟩
    exact ⟨u, (List.mem_filter.1 hu).1, h1⟩
theorem wOK.drop {ts : List Tm} {aes : List En} {ac : Nat} {Y : Dk} (h : wOK ts aes ac Y) {t : Tm} (ht : t ∈ ts) : wOK (offT ts t.n) (delI aes t.n) ac (upF Y (tmQ t) (dlX (Y (tmQ t)) t.n)) := by
  refine ⟨off_nodup h.num _, fun u hu => h.tm u (List.mem_filter.1 hu).1, ?_, okE_del h.aok _, fun q hq => ?_⟩
  · rw [delI_eq h.aok.kn]; exact map_off t.n h.alls
  · by_cases e : q = tmQ t
    · subst e; rw [upF_at]; exact (h.sl _ hq).del t.n
    · rw [upF_ne _ _ e]; exact (h.sl q hq).off h.num ht (Ne.symm e)
theorem slE_hg (m : Nat) (x : Sl) (t : Tm) : slE (hgX m x t) = slE x ++ [⟨t.n, tp t, slC x⟩] := rfl
theorem slC_hg (m : Nat) (x : Sl) (t : Tm) : slC (hgX m x t) = slC x + 1 := rfl
/-- one more there -/
theorem SlOK.hang {ts : List Tm} {q : Nat} {x : Sl} (h : SlOK ts q x) {t t' : Tm} (e : t'.n = t.n) (eb : t'.b = t.b) (hf : ∀ u ∈ ts, u.n ≠ t.n) (hq : tmQ t' = q) (m : Nat) {ts' : List Tm} (hts : ∀ u, u ∈ ts' ↔ u ∈ ts ∨ u = t') : SlOK ts' q (hgX m x t) := by
  have hno : getI (slE x) t.n = none := by
    cases hg : getI (slE x) t.n with
    | none => rfl
    | some v =>
      obtain ⟨u, hu, h1, _⟩ := (h.mem _ _).1 hg
      exact absurd h1 (hf u hu)
  refine ⟨by rw [slE_hg, slC_hg]; exact okE_push h.ok hno _, fun k v => ?_⟩
  rw [slE_hg, getI_push _ _ _ _ hno]
  by_cases hk : k = t.n
  · subst hk
    rw [if_pos rfl]
    constructor
    · intro g; cases g
      exact ⟨t', (hts _).2 (.inr rfl), e, hq, by rw [tp, tp, eb]⟩
    · rintro ⟨u, hu, h1, _, h3⟩
      rcases (hts u).1 hu with hu | rfl
      · exact absurd h1 (hf u hu)
      · rw [h3, tp, tp, eb]
  · rw [if_neg hk, h.mem]
    constructor
    · rintro ⟨u, hu, h1⟩; exact ⟨u, (hts u).2 (.inl hu), h1⟩
    · rintro ⟨u, hu, h1, h2⟩
      rcases (hts u).1 hu with hu | rfl
      · exact ⟨u, hu, h1, h2⟩
      · exact absurd (h1.symm.trans e) hk
theorem SlOK.hung {ts : List Tm} {q : Nat} {x : Sl} (h : SlOK ts q x) {t' : Tm} (hq : tmQ t' ≠ q) {ts' : List Tm} (hts : ∀ u, u ∈ ts' ↔ u ∈ ts ∨ u = t') : SlOK ts' q x := by
  refine ⟨h.ok, fun k v => ?_⟩
  rw [h.mem]
  constructor
  · rintro ⟨u, hu, h1⟩; exact ⟨u, (hts u).2 (.inl hu), h1⟩
  · rintro ⟨u, hu, h1, h2, h3⟩
    rcases (hts u).1 hu with hu | rfl
    · exact ⟨u, hu, h1, h2, h3⟩
    · exact absurd h2 hq
theorem mem_on {ts : List Tm} {t t' : Tm} (ht : t ∈ ts) (e : t'.n = t.n) (u : Tm) : u ∈ onT ts t' ↔ u ∈ offT ts t.n ∨ u = t' := by
  unfold onT offT
  constructor
  · intro hu
    obtain ⟨x, hx, rfl⟩ := List.mem_map.1 hu
    by_cases h : x.n = t'.n
    · rw [if_pos h]; exact .inr rfl
    · rw [if_neg h]; exact .inl (List.mem_filter.2 ⟨hx, decide_eq_true fun g => h (g.trans e.symm)⟩)
  · rintro (hu | rfl)
    · obtain ⟨h1, h2⟩ := List.mem_filter.1 hu
      have h2 := of_decide_eq_true h2
      exact List.mem_map.2 ⟨u, h1, if_neg fun g => h2 (g.trans e)⟩
    · exact List.mem_map.2 ⟨t, ht, if_pos e.symm⟩
theorem on_num {ts : List Tm} (t' : Tm) : (onT ts t').map (·.n) = ts.map (·.n) := by
  unfold onT
  rw [List.map_map]
  refine List.map_congr_left fun u _ => ?_
  show (if u.n = t'.n then t' else u).n = u.n
  split
  · rename_i h; exact h.symm
  · rfl
theorem off_free {ts : List Tm} (n : Int) : ∀ u ∈ offT ts n, u.n ≠ n := fun u hu => of_decide_eq_true (List.mem_filter.1 hu).2
/-- it goes to another place -/
theorem wOK.move {ts : List Tm} {aes : List En} {ac : Nat} {Y : Dk} (h : wOK ts aes ac Y) {t t' : Tm} (ht : t ∈ ts) (e : t'.n = t.n) (eb : t'.b = t.b) (hok : tmOK t') (hne : tmQ t' ≠ tmQ t) (m : Nat) :
    wOK (onT ts t') aes ac (upF (upF Y (tmQ t) (dlX (Y (tmQ t)) t.n)) (tmQ t') (hgX m (Y (tmQ t')) t)) := by
  have hmem := mem_on ht e
  refine ⟨by rw [on_num]; exact h.num, fun u hu => ?_, ?_, h.aok, fun q hq => ?_⟩
  · rcases (hmem u).1 hu with hu | rfl
    · exact h.tm u (List.mem_filter.1 hu).1
    · exact hok
  · rw [h.alls]
    unfold onT
    rw [List.map_map]
    refine List.map_congr_left fun u hu => ?_
    show _ = ((if u.n = t'.n then t' else u).n, tp (if u.n = t'.n then t' else u))
    split
    · rename_i g
      have := num_inj h.num hu ht (g.trans e)
      subst this
      rw [e, tp, tp, eb]
    · rfl
  · by_cases e1 : q = tmQ t'
    · subst e1
      rw [upF_at]
      exact ((h.sl _ hq).off h.num ht (Ne.symm hne)).hang e eb (off_free t.n) rfl m hmem
    · rw [upF_ne _ _ e1]
      by_cases e2 : q = tmQ t
      · subst e2
        rw [upF_at]
        exact ((h.sl _ hq).del t.n).hung (Ne.symm e1) hmem
      · rw [upF_ne _ _ e2]
        exact ((h.sl q hq).off h.num ht (Ne.symm e2)).hung (Ne.symm e1) hmem
/-- a new one -/
theorem wOK.add {ts : List Tm} {aes : List En} {ac : Nat} {Y : Dk} (h : wOK ts aes ac Y) {t t' : Tm} (e : t'.n = t.n) (eb : t'.b = t.b) (hf : ∀ u ∈ ts, u.n ≠ t.n) (hok : tmOK t') (m : Nat) :
    wOK (ts ++ [t']) (aes ++ [⟨t.n, tp t, ac⟩]) (ac + 1) (upF Y (tmQ t') (hgX m (Y (tmQ t')) t)) := by
  have hmem : ∀ u, u ∈ ts ++ [t'] ↔ u ∈ ts ∨ u = t' := fun u => by simp
  refine ⟨?_, fun u hu => ?_, ?_, okE_push h.aok (h.got hf) _, fun q hq => ?_⟩
  · rw [List.map_append, List.nodup_append]
    refine ⟨h.num, by simp, fun x hx y hy => ?_⟩
    obtain ⟨u, hu, rfl⟩ := List.mem_map.1 hx
    have : y = t.n := by simpa [e] using hy
    rw [this]; exact hf u hu
  · rcases (hmem u).1 hu with hu | rfl
    · exact h.tm u hu
    · exact hok
  · rw [List.map_append, List.map_append, h.alls]
    simp [e, eb, tp]
  · by_cases e1 : q = tmQ t'
    · subst e1
      rw [upF_at]
      exact (h.sl _ hq).hang e eb hf rfl m hmem
    · rw [upF_ne _ _ e1]
      exact (h.sl q hq).hung (Ne.symm e1) hmem
/-- a wheel, with its timers where they lie -/
def whl (p now mv : Nat) (ts : List Tm) : Asn := fun h => ∃ am aes ac Y, wOK ts aes ac Y ∧ (imap am aes ac * bigA slA Y 257 * wc p now mv am Y * hungA ts) h
theorem wopen {w0 w : World} {A : Asn} {p now mv : Nat} {ts : List Tm} (s : St w0 (A * whl p now mv ts) w) : ∃ am aes ac Y, wOK ts aes ac Y ∧ St w0 (A * hungA ts * bigA slA Y 257 * imap am aes ac * wc p now mv am Y) w := by
  obtain ⟨g, h1, h2, h3, d, e, a, am, aes, ac, Y, hok, b⟩ := s.holds
  have s' : St w0 (A * (imap am aes ac * bigA slA Y 257 * wc p now mv am Y * hungA ts)) w := s.of ⟨g, h1, h2, h3, d, e, a, b⟩
  exact ⟨am, aes, ac, Y, hok, s'.to (by ac_rfl)⟩
theorem wclose {w0 w : World} {A : Asn} {p now mv am : Nat} {aes : List En} {ac : Nat} {Y : Dk} {ts : List Tm} (h : wOK ts aes ac Y) (s : St w0 (A * hungA ts * bigA slA Y 257 * imap am aes ac * wc p now mv am Y) w) : St w0 (A * whl p now mv ts) w := by
  have s' : St w0 (A * (imap am aes ac * bigA slA Y 257 * wc p now mv am Y * hungA ts)) w := s.to (by ac_rfl)
  exact s'.mono (sep_mono (fun _ h => h) fun g hg => ⟨am, aes, ac, Y, h, hg⟩)
theorem wOK.free {ts : List Tm} {aes : List En} {ac : Nat} {Y : Dk} (h : wOK ts aes ac Y) {n : Int} (hn : ∀ t ∈ ts, t.n ≠ n) {q : Nat} (hq : q < 257) : getI (slE (Y q)) n = none := by
  cases hg : getI (slE (Y q)) n with
  | none => rfl
  | some v =>
    obtain ⟨t, ht, h1, _⟩ := ((h.sl q hq).mem n v).1 hg
    exact absurd h1 (hn t ht)
theorem hgT_ok (t : Tm) (now : Nat) : tmOK (hgT t now) := ⟨(lvF_bd t.a now).1, (lvF_bd t.a now).2.1, (lvF_bd t.a now).2.2⟩
theorem hgQ_eq (t : Tm) (now : Nat) : hgQ t now = tmQ (hgT t now) := rfl
theorem wOK_nil : wOK [] [] 0 (fun _ => none) := ⟨by simp, by simp, rfl, okE_nil 0, fun q _ => ⟨okE_nil 0, fun n v => by simp [slE, getI]⟩⟩
end Go.HL.Wh
