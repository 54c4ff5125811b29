/-
  Wheel: the times that were set, as a law keeps them; what comes out is in order. No condition.
-/
import Derived.Test.YtngjaibngkhidaaWhN
namespace Go.HL.Wh
open Go.HL Go.Proofs
set_option maxRecDepth 4000
set_option linter.unusedSimpArgs false
set_option linter.unusedVariables false
abbrev setE (ts : List Tm) : List (Int × Value) := ts.map fun t => (t.n, .int .i64 t.a)
def kv (es : List En) : List (Int × Value) := es.map fun e => (e.k, e.v)
theorem getI_kv (f : Tm → Value) : ∀ {es : List En} {ts : List Tm}, kv es = ts.map (fun t => (t.n, f t)) → ∀ n, getI es n = (fnd ts n).map f
  | [], [], _, _ => rfl
  | [], _ :: _, h, _ => by cases h
  | _ :: _, [], h, _ => by cases h
  | e :: r, t :: ts, h, n => by
    unfold kv at h
    simp only [List.map_cons, List.cons.injEq, Prod.mk.injEq] at h
    obtain ⟨⟨h1, h2⟩, h3⟩ := h
    unfold fnd
    simp only [getI, h1, h2]
    by_cases hn : n = t.n
    · subst hn; simp
    · rw [if_neg hn, List.find?_cons_of_neg (by simpa using fun g : t.n = n => hn g.symm)]
      exact getI_kv f h3 n
theorem kv_off (f : Tm → Value) : ∀ {es : List En} {ts : List Tm} (n : Int), kv es = ts.map (fun t => (t.n, f t)) → kv (es.filter fun e => decide (e.k ≠ n)) = (offT ts n).map fun t => (t.n, f t)
  | [], [], _, _ => rfl
  | [], _ :: _, _, h => by cases h
  | _ :: _, [], _, h => by cases h
  | e :: r, t :: ts, n, h => by
    unfold kv at h
    simp only [List.map_cons, List.cons.injEq, Prod.mk.injEq] at h
    obtain ⟨⟨h1, h2⟩, h3⟩ := h
    have ih := kv_off f n (es := r) h3
    unfold offT kv at ih ⊢
    by_cases hn : t.n = n
    · rw [List.filter_cons_of_neg (by simp [h1, hn]), List.filter_cons_of_neg (by simp [hn])]
      exact ih
    · rw [List.filter_cons_of_pos (by simp [h1, hn]), List.filter_cons_of_pos (by simp [hn]), List.map_cons, List.map_cons, ih, h1, h2]
/-- the set of a law: what it holds -/
structure setOK (es : List En) (c : Nat) (ts : List Tm) : Prop where
  ok : okE es c
  eq : kv es = setE ts
theorem setOK.get {es : List En} {c : Nat} {ts : List Tm} (h : setOK es c ts) (n : Int) : getI es n = (fnd ts n).map fun t => .int .i64 t.a := getI_kv (fun t => .int .i64 t.a) h.eq n
theorem setOK.del {es : List En} {c : Nat} {ts : List Tm} (h : setOK es c ts) (n : Int) : setOK (delI es n) c (offT ts n) := by
  refine ⟨okE_del h.ok n, ?_⟩
  rw [delI_eq h.ok.kn]
  exact kv_off (fun t => .int .i64 t.a) n h.eq
theorem setOK.add {es : List En} {c : Nat} {ts : List Tm} (h : setOK es c ts) {t : Tm} (hf : ∀ u ∈ ts, u.n ≠ t.n) : setOK (es ++ [⟨t.n, .int .i64 t.a, c⟩]) (c + 1) (ts ++ [t]) := by
  have hn : getI es t.n = none := by
    rw [h.get, fnd, List.find?_eq_none.2 (fun u hu => by simpa using hf u hu)]; rfl
  refine ⟨okE_push h.ok hn _, ?_⟩
  have := h.eq
  unfold kv setE at this ⊢
  rw [List.map_append, List.map_append, this]
  rfl
theorem setOK.len {es : List En} {c : Nat} {ts : List Tm} (h : setOK es c ts) : es.length = ts.length := by
  have := congrArg List.length h.eq
  simpa [kv] using this
theorem fnd_num {ts : List Tm} (h : (ts.map (·.n)).Nodup) {t : Tm} (ht : t ∈ ts) : fnd ts t.n = some t := find_num h ht
theorem fnd_none {ts : List Tm} {n : Int} : fnd ts n = none ↔ ∀ t ∈ ts, t.n ≠ n := by
  unfold fnd
  rw [List.find?_eq_none]
  simp
/-- what comes out -/
abbrev outL (to : Nat) (ts : List Tm) : List (Int × Int) := sortT ((dueT to ts).map tmr)
section
variable {now to : Nat} {ts : List Tm}
theorem outL_mem {x : Int × Int} (h : x ∈ outL to ts) : ∃ t ∈ ts, t.a ≤ to ∧ x = tmr t := by
  have := (sortT_perm _).mem_iff.1 h
  obtain ⟨t, ht, rfl⟩ := List.mem_map.1 this
  obtain ⟨h1, h2⟩ := List.mem_filter.1 ht
  exact ⟨t, h1, of_decide_eq_true h2, rfl⟩
theorem outL_of {t : Tm} (ht : t ∈ ts) (h : t.a ≤ to) : tmr t ∈ outL to ts := (sortT_perm _).mem_iff.2 (List.mem_map.2 ⟨t, List.mem_filter.2 ⟨ht, decide_eq_true h⟩, rfl⟩)
theorem outL_nodup (h : plOK now ts) : ((outL to ts).map (·.1)).Nodup := by
  refine ((sortT_perm ((dueT to ts).map tmr)).map (·.1)).symm.nodup ?_
  rw [List.map_map]
  exact h.num.sublist (List.filter_sublist.map _)
theorem outL_len (to : Nat) (ts : List Tm) : (outL to ts).length ≤ ts.length := by
  rw [sortT_len, List.length_map]
  exact List.length_filter_le _ _
/-- strictly in order -/
theorem outL_lt (h : plOK now ts) : (outL to ts).Pairwise fun x y => x.2 < y.2 ∨ x.2 = y.2 ∧ x.1 < y.1 := by
  have h1 := sortT_pw ((dueT to ts).map tmr)
  have h2 := outL_nodup (to := to) h
  rw [List.nodup_iff_pairwise_ne, List.pairwise_map] at h2
  refine (h1.and h2).imp fun {x y} hxy => ?_
  obtain ⟨g1, g2⟩ := hxy
  rw [ltOrd] at g1
  simp only [decide_eq_false_iff_not] at g1
  omega
/-- what is left of the set behind so many of those that came -/
def leftS (L : List (Int × Int)) (k : Nat) (ts : List Tm) : List Tm := ts.filter fun t => decide (t.n ∉ (L.take k).map (·.1))
theorem leftS_zero (L : List (Int × Int)) (ts : List Tm) : leftS L 0 ts = ts := List.filter_eq_self.2 fun t _ => by simp
theorem leftS_succ (L : List (Int × Int)) (k : Nat) (hk : k < L.length) (ts : List Tm) : leftS L (k + 1) ts = offT (leftS L k ts) L[k].1 := by
  unfold leftS offT
  rw [List.filter_filter]
  refine List.filter_congr fun t _ => ?_
  rw [List.take_add_one, List.getElem?_eq_getElem hk]
  simp only [List.map_append, List.mem_append, Option.toList_some, List.map_cons, List.map_nil, List.mem_singleton, not_or]
  rw [Bool.eq_iff_iff]
  simp only [decide_eq_true_eq, Bool.and_eq_true, ne_eq]
  exact And.comm
theorem leftS_end (h : plOK now ts) : setE (leftS (outL to ts) (outL to ts).length ts) = setE (restT to ts) := by
  have e : leftS (outL to ts) (outL to ts).length ts = ts.filter fun t => decide (to < t.a) := by
    unfold leftS
    rw [List.take_length]
    refine List.filter_congr fun t ht => ?_
    rw [Bool.eq_iff_iff]
    simp only [decide_eq_true_eq]
    constructor
    · intro hn
      refine Nat.lt_of_not_le fun hle => hn (List.mem_map.2 ⟨tmr t, outL_of ht hle, rfl⟩)
    · intro hlt hm
      obtain ⟨x, hx, he⟩ := List.mem_map.1 hm
      obtain ⟨u, hu, hle, rfl⟩ := outL_mem hx
      have := num_inj h.num hu ht he
      subst this
      omega
  rw [e]
  unfold restT setE
  rw [List.map_map]
  rfl
theorem leftS_get (h : plOK now ts) {k : Nat} (hk : k < (outL to ts).length) : ∃ t ∈ ts, t.a ≤ to ∧ (outL to ts)[k] = tmr t ∧ t ∈ leftS (outL to ts) k ts := by
  obtain ⟨t, ht, hle, hx⟩ := outL_mem (List.getElem_mem hk)
  refine ⟨t, ht, hle, hx, List.mem_filter.2 ⟨ht, decide_eq_true fun hm => ?_⟩⟩
  have hn := outL_nodup (to := to) h
  obtain ⟨y, hy, he⟩ := List.mem_map.1 hm
  obtain ⟨j, hj, rfl⟩ := List.getElem_of_mem hy
  rw [List.length_take] at hj
  rw [List.getElem_take] at he
  have hjk : j < k := by omega
  have := (List.pairwise_iff_getElem.1 (List.nodup_iff_pairwise_ne.1 hn)) j k (by simp; omega) (by simpa using hk) hjk
  simp only [List.getElem_map] at this
  exact this (by rw [he, hx]; rfl)
end
/-! how often a timer is moved -/
def lvs (ts : List Tm) : Nat := (ts.map (·.l)).sum
theorem lvs_app (a b : List Tm) : lvs (a ++ b) = lvs a + lvs b := by simp [lvs]
theorem lvs_filter (p : Tm → Bool) : ∀ ts, lvs (ts.filter p) ≤ lvs ts
  | [] => Nat.le_refl _
  | t :: r => by
    have ih := lvs_filter p r
    unfold lvs at ih ⊢
    rw [List.filter_cons]
    split
    · simp only [List.map_cons, List.sum_cons]; omega
    · simp only [List.map_cons, List.sum_cons]; omega
theorem moves_bd {now to : Nat} {ts : List Tm} (h : plOK now ts) (hle : now ≤ to) : (movedT to ts).length + lvs (restT to ts) ≤ lvs ts := by
  have key : ∀ t ∈ ts, to < t.a → (lvF t.a to).1 ≤ t.l := by
    intro t ht hlt
    obtain ⟨p1, p2⟩ := h.pl t ht
    by_cases e : now = to
    · subst e; rw [p1]; exact Nat.le_refl _
    · have hlv := lv_law t.a now to (h.ah t ht) (by omega)
      by_cases hv : visF now to (lvF t.a now)
      · obtain ⟨q1, q2⟩ := hlv.1 hv hlt
        rcases q2 with q2 | q2
        · rw [← q1, ← p1] at q2; omega
        · rw [q2, p1]; exact Nat.le_refl _
      · rw [(hlv.2 hv).2, p1]; exact Nat.le_refl _
  clear h
  induction ts with
  | nil => exact Nat.le_refl _
  | cons t r ih =>
    have ih := ih fun u hu => key u (List.mem_cons_of_mem _ hu)
    have kt := key t (.head _)
    unfold movedT restT lvs at ih ⊢
    rw [List.filter_cons, List.filter_cons]
    by_cases g : to < t.a
    · have kt := kt g
      by_cases hm : (lvF t.a to).1 = t.l
      · rw [if_neg (by simp [movB, hm]), if_pos (by simpa using g)]
        simp only [List.map_cons, List.sum_cons]
        have : (hgT t to).l = t.l := hm
        omega
      · rw [if_pos (by simp [movB, hm, g]), if_pos (by simpa using g)]
        simp only [List.map_cons, List.sum_cons, List.length_cons]
        have : (hgT t to).l = (lvF t.a to).1 := rfl
        omega
    · rw [if_neg (by simp [movB, g]), if_neg (by simpa using g)]
      simp only [List.map_cons, List.sum_cons]
      omega
end Go.HL.Wh
