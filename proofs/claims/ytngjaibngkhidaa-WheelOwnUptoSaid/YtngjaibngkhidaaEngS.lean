/-
  slices.SortFunc at structs, in the engine's words. Conditions: the comparison is a total order.
-/
import Derived.Test.YtngjaibngkhidaaEngE
import Derived.Shelf.SlSortCmp.NoneTotal
namespace Go.HL
open Go.HL Go.Proofs Go.Sort Go.Shelf
set_option linter.unusedSimpArgs false
set_option linter.unusedVariables false
theorem St.ahead {w0 w : World} {A : Asn} (s : St w0 A w) (n : Nat) : St w0 A (Sort.ahead w n) := ⟨s.os, s.out, s.size, ⟨s.ran.1, Nat.le_trans s.ran.2 (Nat.le_add_right _ _)⟩, s.holds⟩
theorem St.grow {w0 w : World} {A : Asn} (s : St w0 A w) (os : Array Obj) : St w0 A (Sort.grow w os) := by
  obtain ⟨g, h1, h2⟩ := s.holds
  refine ⟨s.os, s.out, ?_, s.ran, g, fun b o hb => ?_, h2⟩
  · have := s.size; simp only [size_grow]; omega
  · have h3 : w.heap[b]? = some o := h1 b o hb
    have := (Array.getElem?_eq_some_iff.1 h3).1
    show (w.heap ++ os)[b]? = some o
    rw [Array.getElem?_append_left this]; exact h3
/-- what only draws and lays new blocks -/
theorem St.grown {W w' : World} (s : St W (old W) w') : ∃ q os', w' = Sort.grow (W.drewN q) os' := by
  refine ⟨w'.drawn - W.drawn, w'.heap.extract W.heap.size w'.heap.size, ?_⟩
  have hs := s.size
  have hh : w'.heap = W.heap ++ w'.heap.extract W.heap.size w'.heap.size := by
    apply Array.ext_getElem?
    intro i
    rw [Array.getElem?_append]
    split
    · rename_i hi
      have h0 : W.heap[i]? = some W.heap[i] := by simp [hi]
      rw [s.lookOld0 h0, h0]
    · rename_i hi
      rw [Array.getElem?_extract]
      have e : W.heap.size + (i - W.heap.size) = i := by omega
      rw [e]
      split
      · rfl
      · rename_i h2
        rw [Array.getElem?_eq_none (by omega)]
  cases w' with
  | mk heap tape drawn os output =>
    cases W with
    | mk heap0 tape0 drawn0 os0 output0 =>
      have h1 := s.os; have h2 := s.out; have h3 := s.ran.1; have h4 := s.ran.2
      simp only at h1 h2 h3 h4 hh
      subst h1; subst h2; subst h3
      unfold Sort.grow World.drewN
      simp only [World.mk.injEq, and_true, true_and]
      exact ⟨hh, by omega⟩
theorem flatK_list {α : Type} [Inhabited α] (enc : α → List Value) (k : Nat) (hk : ∀ x, (enc x).length = k) (ts : List α) : (flatK enc k ts.toArray).toList = ts.flatMap enc := by
  apply List.ext_getElem?
  intro j
  have hl := flat_length enc k hk ts
  by_cases hj : j < ts.length * k
  · have k0 : 0 < k := by
      rcases Nat.eq_zero_or_pos k with h | h
      · subst h; simp at hj
      · exact h
    have hd : j / k < ts.length := (Nat.div_lt_iff_lt_mul k0).2 hj
    have hm := Nat.mod_lt j k0
    have hg := get_flatK enc k ts.toArray j (by simpa using hj)
    have hsz : (flatK enc k ts.toArray).size = ts.length * k := by simp
    rw [Array.getElem?_toList, Array.getElem?_eq_getElem (by rw [hsz]; exact hj), ← getElem!_pos (flatK enc k ts.toArray) j (by rw [hsz]; exact hj), hg]
    have h2 := flat_get enc k hk ts (j / k) (j % k) hd hm
    rw [Nat.mul_comm, Nat.div_add_mod] at h2
    rw [h2]
    have e1 : ts.toArray[j / k]! = ts[j / k] := by
      rw [getElem!_pos ts.toArray (j / k) (by simpa using hd)]; simp
    rw [e1, getElem!_pos (enc ts[j / k]) (j % k) (by rw [hk]; exact hm)]
    exact (List.getElem?_eq_getElem _).symm
  · rw [List.getElem?_eq_none (by simp; omega), List.getElem?_eq_none (by rw [hl]; omega)]
theorem putCells_list {α : Type} [Inhabited α] (enc : α → Value) (d : Array α) (c : Array Value) (h : d.size ≤ c.size) : putCells enc 0 d c = (d.toList.map enc ++ c.toList.drop d.size).toArray := by
  apply Array.ext'
  apply List.ext_getElem?
  intro i
  rw [List.toList_toArray, Array.getElem?_toList]
  unfold putCells
  rw [Array.getElem?_mapIdx]
  by_cases hi : i < d.size
  · have hi' : i < c.size := by omega
    rw [Array.getElem?_eq_getElem hi', List.getElem?_append_left (by simpa using hi)]
    simp [hi]
  · rw [List.getElem?_append_right (by simp; omega)]
    simp only [List.length_map, Array.length_toList, List.getElem?_drop, Array.getElem?_toList]
    rw [show d.size + (i - d.size) = i by omega]
    cases c[i]? with
    | none => rfl
    | some x => simp [hi]
/-- the row is sorted in place -/
theorem sort_run {P : Program} {ρ : Ren} {α : Type} [Inhabited α] (L : SlLaysF0.n6 P ρ) (k : Nat) (aE : ∀ w, (isAgg (ρ.t 24)).run P w = .ok true w) (zE : ∀ w, (Go.sizeOf (ρ.t 24)).run P w = .ok k w) (enc : α → List Value) (hk : ∀ x, (enc x).length = k) (h1 : ∀ x, ∀ v ∈ enc x, v.oneCell' = true)
    (cf : α → α → Int) (hO : SWO (ltOf cf)) (hT : ∀ x y, (ltOf cf) x y = false → (ltOf cf) y x = false → x = y) (g : Nat) (eg : ∀ args w, (callFunc g args).run P w = .ok (.enter g args) w)
    (hc : ∀ x y W, Calls P g #[.agg (enc x).toArray, .agg (enc y).toArray] W fun e w' => e = .returned (.int .i64 (cf x y)) ∧ ∃ q os', w' = Sort.grow (W.drewN q) os')
    {e : TypeId} {v : Value} {ts : List α} (hsz : ts.length < 4611686018427387904) {w0 w : World} {F : Asn} (s : St w0 (F * own e k v ts.length (ts.flatMap enc)) w) :
    Calls P (ρ.f 6) #[v, .func (.func g) #[] #[]] w fun e' w' => e' = .returned (.tuple #[]) ∧ St w0 (F * own e k v ts.length ((ts.mergeSort fun x y => !(ltOf cf) y x).flatMap enc)) w' := by
  obtain ⟨hl, s'⟩ := s.own
  rcases s' with ⟨hv, hn, s1⟩ | ⟨b, cap, cur, rfl, hcap, hm, hcur, hx, s1⟩
  · have h0 := List.length_eq_zero_iff.1 hn
    subst h0
    subst hv
    refine (AnyF.slices_SortFunc_none L none 0 _ w).mono ?_
    rintro e' w' ⟨he, rfl⟩
    exact ⟨he, by simpa using s⟩
  · have hb := s1.look
    have hlt := (Array.getElem?_eq_some_iff.1 hb).1
    have hfl := flatK_list enc k hk ts
    have hle : ts.length * k ≤ cur.size := Nat.le_trans (Nat.mul_le_mul_right k hcap) hcur
    have hH : HoldsK enc k w b 0 ts.toArray := by
      intro j hj
      have hj : j < ts.length * k := by simpa using hj
      have hsz : (flatK enc k ts.toArray).size = ts.length * k := by simp
      refine ⟨?_, by simp [World.frozen?, hb]⟩
      have e1 : (flatK enc k ts.toArray)[j]? = some ((flatK enc k ts.toArray)[j]!) := by
        rw [getElem!_pos (flatK enc k ts.toArray) j (by rw [hsz]; exact hj)]; simp [hj]
      rw [← Array.getElem?_toList, hfl, ← hx, List.getElem?_take, if_pos hj] at e1
      simp only [World.cell?, hb]
      simpa using e1
    have hcon := AnyQ.slices_SortFunc_total L k aE zE enc hk h1 cf hO g #[] b 0 cap ts.toArray w eg (fun m os dk _ x y => hc x y _) hH hlt (by simpa using hsz) hT
    refine Calls.mono (by simpa using hcon) ?_
    rintro e' w' ⟨he, n, os, rfl⟩
    refine ⟨he, ?_⟩
    unfold sortWorldK
    refine St.grow ?_ os
    obtain ⟨us, hus⟩ : ∃ us, (ts.mergeSort fun x y => !(ltOf cf) y x) = us := ⟨_, rfl⟩
    have hul : us.length = ts.length := by rw [← hus]; exact List.length_mergeSort _
    rw [hus]
    have hfu := flatK_list enc k hk us
    have s2 := s1.ahead n
    have hb2 : (Sort.ahead w n).heap[b]? = some (.cells cur e (0, 0)) := hb
    have hszu : (flatK enc k us.toArray).size = us.length * k := by simp
    have hp := putCells_list id (flatK enc k us.toArray) cur (by rw [hszu, hul]; exact hle)
    rw [List.map_id, hfu, hszu] at hp
    have s3 : St w0 (F * pt b (.cells (us.flatMap enc ++ cur.toList.drop (us.length * k)).toArray e (0, 0))) (putRowK enc k (Sort.ahead w n) b 0 us.toArray) := by
      rw [← hp]
      refine s2.turn ?_ (fun c hc => ?_) (by simp [putRowK]) rfl rfl (fun _ _ _ h => by cases h; rfl)
      · show ((Sort.ahead w n).heap.modify b _)[b]? = _
        rw [Array.getElem?_modify, if_pos rfl, hb2]; rfl
      · show ((Sort.ahead w n).heap.modify b _)[c]? = _
        rw [Array.getElem?_modify, if_neg (Ne.symm hc)]
    have hfl2 := flat_length enc k hk us
    refine s3.own_mk' hcap hm ?_ ?_
    · simp only [List.size_toArray, List.length_append, List.length_drop, Array.length_toList, hfl2]
      rw [hul]; omega
    · rw [List.toList_toArray, List.take_append_of_le_length (by rw [hfl2, hul]; exact Nat.le_refl _), List.take_of_length_le (by rw [hfl2, hul]; exact Nat.le_refl _)]
end Go.HL
