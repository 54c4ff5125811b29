/-
  Arguments in memory, opened: slices of structs of numbers. No condition.
-/
import Derived.Test.YtngjaibngkhidaaEngF
import Derived.Test.YtngjaibngkhidaaFin
import Derived.Test.YtngjaibngkhidaaKeep
import Derived.Deep.Slices
import Derived.WideShapes
namespace Go.HL
open Go.Proofs Go.Deep
set_option linter.unusedVariables false
section
variable {H : Type} {enc : TypeId × Value → H} {P : Program} {w : World} {base : Nat} {spare : Nat → Bool} {held : Bool}
def fieldsI64 (P : Program) : List Field → Nat → Bool
  | [], _ => true
  | f :: fs, o => (f.offset == o) && (match P.underlying f.type with | some (.int .i64) => true | _ => false) && (P.cellsOf f.type == 1) && fieldsI64 P fs (o + 1)
theorem fieldsI64_at : ∀ (fs : List Field) (o : Nat), fieldsI64 P fs o = true → ∀ j f, fs[j]? = some f → f.offset = o + j ∧ P.underlying f.type = some (.int .i64) ∧ P.cellsOf f.type = 1
  | [], _, _, j, f, h => by simp at h
  | g :: fs, o, h, j, f, hf => by
    simp only [fieldsI64, Bool.and_eq_true, beq_iff_eq] at h
    obtain ⟨⟨⟨h1, h2⟩, h3⟩, h4⟩ := h
    cases j with
    | zero =>
      simp only [List.getElem?_cons_zero, Option.some.injEq] at hf
      subst hf
      refine ⟨h1, ?_, h3⟩
      split at h2
      · assumption
      · cases h2
    | succ j =>
      obtain ⟨e1, e2, e3⟩ := fieldsI64_at fs (o + 1) h4 j f (by simpa using hf)
      exact ⟨by omega, e2, e3⟩
def rowV (l : List Int) : List Value := l.map (Value.int .i64)
theorem all_rowV : ∀ cs : List Value, (∀ j, j < cs.length → ∃ m, cs[j]? = some (.int .i64 m)) → ∃ row : List Int, cs = rowV row
  | [], _ => ⟨[], rfl⟩
  | c :: cs, h => by
    obtain ⟨m, hm⟩ := h 0 (by simp)
    obtain ⟨row, hr⟩ := all_rowV cs fun j hj => by
      obtain ⟨m, hm⟩ := h (j + 1) (by simpa using hj)
      exact ⟨m, by simpa using hm⟩
    simp only [List.getElem?_cons_zero, Option.some.injEq] at hm
    exact ⟨m :: row, by rw [hm, hr]; rfl⟩
theorem open_istruct {e : TypeId} {fs : Array Field} {n : Nat} {cs : List Value} {x : DataW H × List MemPlace} (he : P.underlying e = some (.struct fs)) (hi : fieldsI64 P fs.toList 0 = true) (hc : P.cellsOf e = fs.size)
    (h : DataW.trod enc P w base spare held n e cs = some x) : ∃ row : List Int, row.length = fs.size ∧ cs = rowV row := by
  obtain ⟨xs, n', _, _, hl, hlen, hf⟩ := DataW.trod_struct he h
  obtain ⟨row, hr⟩ := all_rowV cs fun j hj => by
    have hj' : j < fs.size := by omega
    obtain ⟨e1, e2, e3⟩ := fieldsI64_at fs.toList 0 hi j fs[j] (by simp [hj'])
    have h1 := hf j fs[j] (by simp [hj'])
    rw [e1, e3, Nat.zero_add] at h1
    rw [List.getElem?_eq_getElem (by omega)] at h1
    obtain ⟨m, h2, _⟩ := DataW.trod_int e2 h1
    refine ⟨m, ?_⟩
    have h3 := congrArg (fun l => l[0]?) h2
    simpa using h3
  refine ⟨row, ?_, hr⟩
  have := congrArg List.length hr
  simp only [rowV, List.length_map] at this
  omega
end
theorem bulkAll_ge {H : Type} : ∀ l : List (DataW H), l.length ≤ Go.Proofs.Ytngjaibngkhidaa.Rows.uptoBulkAll l
  | [] => Nat.zero_le _
  | d :: l => by
    have := bulkAll_ge l
    have h1 : 1 ≤ Go.Proofs.Ytngjaibngkhidaa.Rows.uptoBulk d := by
      cases d with
      | lit l => cases l <;> simp [Go.Proofs.Ytngjaibngkhidaa.Rows.uptoBulk]
      | _ => simp [Go.Proofs.Ytngjaibngkhidaa.Rows.uptoBulk]
    simp only [Go.Proofs.Ytngjaibngkhidaa.Rows.uptoBulkAll, List.length_cons]
    omega
theorem open_irows {H : Type} {enc : TypeId × Value → H} {P : Program} {W : World} {spare : Nat → Bool} {t e : TypeId} {fs : Array Field} {v : Value} {d : DataW H} {ps : List MemPlace} (ht : P.underlying t = some (.slice e)) (he : P.underlying e = some (.struct fs)) (hi : fieldsI64 P fs.toList 0 = true)
    (hc : P.cellsOf e = fs.size) (hpos : 0 < fs.size) {base : Nat} (hval : Value.okWide P W .any base t v) (h : DataW.Trod enc P W 0 spare true t v d ps) :
    ∃ rows : List (List Int), (∀ r ∈ rows, r.length = fs.size) ∧ Row W (old W) v rows.length fs.size (rows.flatMap rowV) ∧ rows.length ≤ Go.Proofs.Ytngjaibngkhidaa.Rows.uptoBulk d := by
  obtain ⟨va, vl, vc, rfl⟩ := Go.WideShapes.okWide_slice ht hval
  obtain ⟨n, h⟩ := h
  rcases open_slice ht h with ⟨hv, hd⟩ | ⟨a, len, cap, m, n', D, Pl, hv, hb, hl, hm, hmm, hd, hx⟩
  · have hv : Value.slice va vl vc = .slice none 0 0 := by simpa [Value.cells] using hv
    cases hv
    exact ⟨[], by simp, ⟨by simp, none, 0, rfl, Nat.le_refl _, .inl rfl⟩, Nat.zero_le _⟩
  · have hv : Value.slice va vl vc = .slice (some a) len cap := by simpa [Value.cells] using hv
    rw [hv]
    have hlm : len ≤ m := by rw [hmm]; split <;> omega
    obtain ⟨R, hR⟩ := choose_lt (α := List Int) (p := fun i r => r.length = fs.size ∧ ∀ j u, (rowV r)[j]? = some u → W.cell? (a.add (i * fs.size + j)) = some u) (fun i hi' => by
      obtain ⟨cs', h1, h2⟩ := hx i hi'
      obtain ⟨row, hr1, hr2⟩ := open_istruct he hi hc h2
      obtain ⟨_, hlen, hcell⟩ := World.cells?_some h1
      refine ⟨row, hr1, fun j u hu => ?_⟩
      have hj : j < P.cellsOf e := by
        have := (List.getElem?_eq_some_iff.1 hu).1
        simp only [rowV, List.length_map] at this
        omega
      have := hcell j hj
      rw [Go.Deep.add_add, hr2, hu, hc] at this
      exact this)
    have hlenR : ((List.range len).map R).length = len := by simp
    refine ⟨(List.range len).map R, fun r hr => ?_, ⟨?_, some a, cap, by rw [hlenR], by rw [hlenR]; exact hl, ?_⟩, ?_⟩
    · obtain ⟨i, hi', rfl⟩ := List.mem_map.1 hr
      exact (hR i (by have := List.mem_range.1 hi'; omega)).1
    · have key : ∀ l : List (List Int), (∀ r ∈ l, r.length = fs.size) → (l.flatMap rowV).length = l.length * fs.size := fun l hl => by
        induction l with
        | nil => simp
        | cons r l ih =>
          rw [List.flatMap_cons, List.length_append, ih fun x hx => hl x (List.mem_cons_of_mem _ hx), List.length_cons, Nat.add_mul]
          simp only [rowV, List.length_map]
          rw [hl r (List.mem_cons_self ..)]; omega
      exact key _ fun r hr => by
        obtain ⟨i, hi', rfl⟩ := List.mem_map.1 hr
        exact (hR i (by have := List.mem_range.1 hi'; omega)).1
    · by_cases h0 : len = 0
      · left; rw [hlenR]; exact h0
      · right
        obtain ⟨b, o, spot⟩ := a
        have hfirst : ∃ u, (rowV (R 0))[0]? = some u := by
          have := (hR 0 (by omega)).1
          exact ⟨_, List.getElem?_eq_getElem (by simp only [rowV, List.length_map]; omega)⟩
        obtain ⟨u, hu⟩ := hfirst
        have hc0 := (hR 0 (by omega)).2 0 u hu
        have hs := World.cell?_spot hc0
        simp only [Nat.zero_mul, Nat.add_zero, Addr.add, if_true] at hs
        subst hs
        refine ⟨b, o, rfl, fun w' s j u hu => ?_⟩
        have hj : j < len * fs.size := by
          have h1 := (List.getElem?_eq_some_iff.1 hu).1
          have h2 : (((List.range len).map R).flatMap rowV).length = len * fs.size := by
            have key : ∀ l : List (List Int), (∀ r ∈ l, r.length = fs.size) → (l.flatMap rowV).length = l.length * fs.size := fun l hl => by
              induction l with
              | nil => simp
              | cons r l ih =>
                rw [List.flatMap_cons, List.length_append, ih fun x hx => hl x (List.mem_cons_of_mem _ hx), List.length_cons, Nat.add_mul]
                simp only [rowV, List.length_map]
                rw [hl r (List.mem_cons_self ..)]; omega
            rw [key _ fun r hr => by
              obtain ⟨i, hi', rfl⟩ := List.mem_map.1 hr
              exact (hR i (by have := List.mem_range.1 hi'; omega)).1, hlenR]
          omega
        have hdiv : j / fs.size < len := Nat.div_lt_of_lt_mul (by rw [Nat.mul_comm]; exact hj)
        have hjm : j = j / fs.size * fs.size + j % fs.size := by rw [Nat.mul_comm]; exact (Nat.div_add_mod j fs.size).symm
        have hmod : j % fs.size < fs.size := Nat.mod_lt _ hpos
        have key2 : ∀ (l : List (List Int)), (∀ r ∈ l, r.length = fs.size) → ∀ i k, i < l.length → k < fs.size → (l.flatMap rowV)[i * fs.size + k]? = (rowV (l.getD i []))[k]? := fun l => by
          induction l with
          | nil => intro _ i k h; simp at h
          | cons r l ih =>
            intro hl i k hi hk
            have hr : (rowV r).length = fs.size := by simp only [rowV, List.length_map]; exact hl r (List.mem_cons_self ..)
            cases i with
            | zero =>
              rw [List.flatMap_cons, Nat.zero_mul, Nat.zero_add, List.getElem?_append_left (by omega)]
              rfl
            | succ i =>
              rw [List.flatMap_cons, List.getElem?_append_right (by rw [hr, Nat.add_mul]; omega), hr]
              have : (i + 1) * fs.size + k - fs.size = i * fs.size + k := by rw [Nat.add_mul]; omega
              rw [this, ih (fun x hx => hl x (List.mem_cons_of_mem _ hx)) i k (by simpa using hi) hk]
              rfl
        rw [hjm, key2 _ (fun r hr => by
              obtain ⟨i, hi', rfl⟩ := List.mem_map.1 hr
              exact (hR i (by have := List.mem_range.1 hi'; omega)).1) _ _ (by rw [hlenR]; exact hdiv) hmod] at hu
        have hg : ((List.range len).map R).getD (j / fs.size) [] = R (j / fs.size) := by simp [hdiv]
        rw [hg] at hu
        have := (hR _ (by omega)).2 _ _ hu
        rw [← hjm] at this
        have ha : (⟨b, o, none⟩ : Addr).add j = ⟨b, o + j, none⟩ := addr_add _ _ _
        rw [ha] at this
        unfold World.cell? at this ⊢
        cases hb : W.heap[b]? with
        | none => simp [hb] at this
        | some o' => simp only [s.lookOld0 hb]; simpa [hb] using this
    · have hx2 := congrArg Prod.fst hd
      simp only at hx2
      rw [hlenR, hx2]
      have := bulkAll_ge ((List.range len).map D)
      simp only [List.length_map, List.length_range] at this
      simp only [Go.Proofs.Ytngjaibngkhidaa.Rows.uptoBulk]
      omega
end Go.HL
