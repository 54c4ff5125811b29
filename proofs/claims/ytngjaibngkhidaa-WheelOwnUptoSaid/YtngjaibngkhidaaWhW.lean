/-
  Wheel: time in steps and at once; plain laws. No condition.
-/
import Derived.Test.YtngjaibngkhidaaWhV
namespace Go.HL.Wh
open Go.HL Go.Proofs
set_option maxRecDepth 4000
set_option linter.unusedSimpArgs false
set_option linter.unusedVariables false
theorem sortT_of {l : List (Int × Int)} (h : l.Pairwise fun x y => ltOf ordF y x = false) : sortT l = l :=
  List.Perm.eq_of_pairwise (fun x y _ _ h1 h2 => ordT x y h2 h1) (sortT_pw l) h (sortT_perm l)
theorem rest_rest {a b : Nat} (h : a ≤ b) (ts : List Tm) : restT b (restT a ts) = restT b ts := by
  unfold restT
  rw [List.filter_map, List.map_map, List.filter_filter]
  have e : (ts.filter fun t => ((fun t : Tm => decide (b < t.a)) ∘ fun t => hgT t a) t && decide (a < t.a)) = ts.filter fun t => decide (b < t.a) := by
    refine List.filter_congr fun t _ => ?_
    show (decide (b < t.a) && decide (a < t.a)) = decide (b < t.a)
    rw [Bool.eq_iff_iff]
    simp
    omega
  rw [e]
  rfl
theorem due_map (to : Nat) (ts : List Tm) : (dueT to ts).map tmr = (ts.map tmr).filter fun x => decide (x.2 ≤ (to : Int)) := by
  unfold dueT
  rw [List.filter_map]
  congr 1
  refine List.filter_congr fun t _ => ?_
  show decide (t.a ≤ to) = decide ((t.a : Int) ≤ to)
  rw [Bool.eq_iff_iff]
  simp
theorem rest_map (to : Nat) (ts : List Tm) : (restT to ts).map tmr = (ts.map tmr).filter fun x => decide ((to : Int) < x.2) := by
  unfold restT
  rw [List.filter_map, List.map_map]
  have e : (ts.filter fun t => decide (to < t.a)) = ts.filter ((fun x : Int × Int => decide ((to : Int) < x.2)) ∘ tmr) := by
    refine List.filter_congr fun t _ => ?_
    show decide (to < t.a) = decide ((to : Int) < t.a)
    rw [Bool.eq_iff_iff]
    simp
  rw [e]
  rfl
theorem outL_congr {to : Nat} {ts us : List Tm} (h : ts.map tmr = us.map tmr) : outL to ts = outL to us := by
  show sortT _ = sortT _
  rw [due_map, due_map, h]
theorem outL_split {a b : Nat} (h : a ≤ b) (ts : List Tm) : outL a ts ++ outL b (restT a ts) = outL b ts := by
  have hp : (outL a ts ++ outL b (restT a ts)).Perm ((dueT b ts).map tmr) := by
    refine ((sortT_perm _).append (sortT_perm _)).trans ?_
    rw [due_map, due_map, rest_map, due_map, List.filter_filter]
    have e1 : (ts.map tmr).filter (fun x => decide (x.2 ≤ (a : Int))) = ((ts.map tmr).filter fun x => decide (x.2 ≤ (b : Int))).filter fun x => decide (x.2 ≤ (a : Int)) := by
      rw [List.filter_filter]
      refine List.filter_congr fun x _ => ?_
      rw [Bool.eq_iff_iff]; simp; omega
    have e2 : (ts.map tmr).filter (fun x => decide (x.2 ≤ (b : Int)) && decide ((a : Int) < x.2)) = ((ts.map tmr).filter fun x => decide (x.2 ≤ (b : Int))).filter fun x => !decide (x.2 ≤ (a : Int)) := by
      rw [List.filter_filter]
      refine List.filter_congr fun x _ => ?_
      rw [Bool.eq_iff_iff]; simp; omega
    rw [e1, e2]
    exact List.filter_append_perm _ _
  have hs : (outL a ts ++ outL b (restT a ts)).Pairwise fun x y => ltOf ordF y x = false := by
    rw [List.pairwise_append]
    refine ⟨sortT_pw _, sortT_pw _, fun x hx y hy => ?_⟩
    obtain ⟨t, _, h1, rfl⟩ := outL_mem hx
    obtain ⟨u, hu, _, rfl⟩ := outL_mem hy
    have h2 : a < u.a := by
      obtain ⟨u', hu', rfl⟩ := List.mem_map.1 hu
      exact of_decide_eq_true (List.mem_filter.1 hu').2
    rw [ltOrd]
    simp [tmr]
    omega
  rw [← sortT_of hs]
  exact sortT_congr hp
theorem moved_map {now to : Nat} {ts : List Tm} (h : plOK now ts) : (movedT to ts).length = ((ts.map tmr).filter fun x => decide ((to : Int) < x.2) && decide ((lvF x.2.toNat to).1 ≠ (lvF x.2.toNat now).1)).length := by
  unfold movedT
  rw [List.filter_map, List.length_map]
  congr 1
  refine List.filter_congr fun t ht => ?_
  show (decide (to < t.a) && decide ((lvF t.a to).1 ≠ t.l)) = (decide ((to : Int) < t.a) && decide ((lvF (t.a : Int).toNat to).1 ≠ (lvF (t.a : Int).toNat now).1))
  rw [Int.toNat_natCast, (h.pl t ht).1, Bool.eq_iff_iff]
  simp
theorem filter_cover {α : Type} (p q r : α → Bool) : ∀ l : List α, (∀ t ∈ l, p t = true → q t = true ∨ r t = true) → (l.filter p).length ≤ (l.filter q).length + (l.filter r).length
  | [], _ => Nat.zero_le _
  | t :: l, h => by
    have ih := filter_cover p q r l fun x hx => h x (List.mem_cons_of_mem _ hx)
    have ht := h t (List.mem_cons_self ..)
    simp only [List.filter_cons]
    cases hp : p t <;> cases hq : q t <;> cases hr : r t <;> simp_all <;> omega
theorem moved_sub {a b : Nat} (hab : a ≤ b) (ts : List Tm) : (movedT b ts).length ≤ (movedT a ts).length + (movedT b (restT a ts)).length := by
  have e : (movedT b (restT a ts)).length = (ts.filter fun t => movB b (hgT t a) && decide (a < t.a)).length := by
    unfold movedT restT
    rw [List.filter_map, List.length_map, List.filter_filter]
    rfl
  rw [e]
  refine filter_cover _ _ _ _ fun t _ h => ?_
  unfold movB at *
  simp only [Bool.and_eq_true, decide_eq_true_eq] at *
  obtain ⟨h1, h2⟩ := h
  by_cases h3 : a < t.a
  · by_cases h4 : (lvF t.a a).1 = t.l
    · right
      refine ⟨⟨h1, ?_⟩, h3⟩
      show ¬ (lvF t.a b).1 = (lvF t.a a).1
      rw [h4]; exact h2
    · exact .inl ⟨h3, h4⟩
  · omega
theorem fnd_at {now : Nat} {ts : List Tm} (h : plOK now ts) {x : Int × Int} (hx : x ∈ ts.map tmr) : fpl (fnd ts x.1) = lvF x.2.toNat now ∧ fer (fnd ts x.1) = 0 ∧ fat (fnd ts x.1) = x.2.toNat := by
  obtain ⟨t, ht, rfl⟩ := List.mem_map.1 hx
  rw [show (tmr t).1 = t.n from rfl, fnd_num h.num ht]
  refine ⟨?_, rfl, rfl⟩
  show (t.l, t.s) = lvF (t.a : Int).toNat now
  rw [Int.toNat_natCast, (h.pl t ht).1, (h.pl t ht).2]
theorem frE_ok {now : Nat} : ∀ (r L : List (Int × Int)), (∀ x ∈ L ++ r, 1 ≤ x.1 ∧ (now : Int) < x.2 ∧ x.2 ≤ 1099511627776) → ((L ++ r).map (·.1)).Nodup → (L ++ r).length ≤ 65536 → frE now L r = 0
  | [], _, _, _, _ => rfl
  | x :: r, L, h1, h2, h3 => by
    have hz : schP now L x.1 x.2 = 0 := by
      have hx := h1 x (by simp)
      have hl : L.length < 65536 := by simp at h3; omega
      have hn : ∀ u ∈ L, u.1 ≠ x.1 := fun u hu e => by
        rw [List.map_append, List.nodup_append] at h2
        exact h2.2.2 u.1 (List.mem_map.2 ⟨u, hu, rfl⟩) x.1 (by simp) e
      unfold schP
      rw [if_neg (by omega), if_neg (by omega), if_neg (not_not_intro hn), if_neg (by omega)]
    have e : L ++ x :: r = (L ++ [x]) ++ r := by simp
    unfold frE
    rw [if_pos hz]
    exact frE_ok r (L ++ [x]) (e ▸ h1) (e ▸ h2) (e ▸ h3)
theorem plOK.pairs {now : Nat} {ts : List Tm} (h : plOK now ts) : (∀ x ∈ ts.map tmr, 1 ≤ x.1 ∧ (now : Int) < x.2 ∧ x.2 ≤ 1099511627776) ∧ ((ts.map tmr).map (·.1)).Nodup := by
  refine ⟨fun x hx => ?_, ?_⟩
  · obtain ⟨t, ht, rfl⟩ := List.mem_map.1 hx
    have h1 := h.ah t ht
    have h2 := h.bd t ht
    exact ⟨h2.2, by show (now : Int) < t.a; omega, by show (t.a : Int) ≤ _; omega⟩
  · rw [List.map_map]; exact h.num
theorem frE_sort {now : Nat} {ts : List Tm} (h : plOK now ts) (hl : ts.length ≤ 65536) : frE now [] (sortT (ts.map tmr)) = 0 := by
  have hp := sortT_perm (ts.map tmr)
  refine frE_ok _ [] (fun x hx => h.pairs.1 x (hp.mem_iff.1 (by simpa using hx))) ?_ ?_
  · rw [List.nil_append]
    exact (hp.map _).nodup_iff.2 h.pairs.2
  · rw [List.nil_append, sortT_len, List.length_map]; exact hl
end Go.HL.Wh
