/-
  The engine, fifth part: rows of structs, seen and changed; a law's frame over arguments in memory. No condition.
-/
import Derived.Test.YtngjaibngkhidaaEngD
namespace Go.HL
set_option linter.unusedSimpArgs false
set_option linter.unusedVariables false
section
variable {P : Program} {K : Value → World → Prop} {w w0 : World} {F : Asn}
/-- cells, as one value -/
theorem eff_ldcs {b off m : Nat} {vs : List Value} (hc : ∀ j u, vs[j]? = some u → w.cell? ⟨b, off + j, none⟩ = some u) (hl : vs.length = m) (hk : K (.agg vs.toArray) w) :
    EffW P (.ld true m) [.pointer (some ⟨b, off, none⟩)] K w := by
  intro _
  refine upon_val (w' := w) ?_ hk
  have := run_loadCells_list (P := P) w ⟨b, off, none⟩ vs (by
    intro j v hj
    rw [addr_add]; exact hc j v hj)
  rw [hl] at this
  simp [ldS, Instr.sureAddr, this]
/-- a slice as it is seen while an assertion holds: n elements of size cells -/
def Row (w0 : World) (A : Asn) (v : Value) (n size : Nat) (xs : List Value) : Prop :=
  xs.length = n * size ∧ ∃ a cap, v = .slice a n cap ∧ n ≤ cap ∧
    (n = 0 ∨ ∃ g o, a = some ⟨g, o, none⟩ ∧ ∀ w, St w0 A w → ∀ j u, xs[j]? = some u → w.cell? ⟨g, o + j, none⟩ = some u)
theorem Row.mono {A B : Asn} {v : Value} {n size : Nat} {xs : List Value} (h : Row w0 A v n size xs) (hs : ∀ w, St w0 B w → St w0 A w) : Row w0 B v n size xs := by
  obtain ⟨hl, a, cap, rfl, hn, h⟩ := h
  refine ⟨hl, a, cap, rfl, hn, ?_⟩
  rcases h with h | ⟨g, o, rfl, hc⟩
  · exact .inl h
  · exact .inr ⟨g, o, rfl, fun w s => hc w (hs w s)⟩
theorem Row.val {A : Asn} {v : Value} {n size : Nat} {xs : List Value} (h : Row w0 A v n size xs) : ∃ a cap, v = .slice a n cap := by
  obtain ⟨_, a, cap, rfl, _⟩ := h
  exact ⟨_, _, rfl⟩
theorem Row.at {A : Asn} {v : Value} {n size : Nat} {xs : List Value} (h : Row w0 A v n size xs) (hn : 0 < n) :
    ∃ g o cap, v = .slice (some ⟨g, o, none⟩) n cap ∧ ∀ w, St w0 A w → ∀ j u, xs[j]? = some u → w.cell? ⟨g, o + j, none⟩ = some u := by
  obtain ⟨_, a, cap, rfl, _, h | ⟨g, o, rfl, hc⟩⟩ := h
  · omega
  · exact ⟨g, o, cap, rfl, hc⟩
theorem row_own {A : Asn} {e size n : Nat} {v : Value} {xs : List Value} (s : St w0 (A * own e size v n xs) w) : Row w0 (A * own e size v n xs) v n size xs := by
  refine ⟨s.own.1, ?_⟩
  rcases s.own_cell with ⟨_, rfl⟩ | ⟨g, cap, rfl, hn, _⟩
  · obtain ⟨a, cap, h, hn, _⟩ := s.own_val
    cases h
    exact ⟨none, 0, rfl, Nat.le_refl _, .inl rfl⟩
  · refine ⟨some ⟨g, 0, none⟩, cap, rfl, hn, .inr ⟨g, 0, rfl, fun w' s' j u hu => ?_⟩⟩
    rcases s'.own_cell with ⟨_, h⟩ | ⟨g', cap', h, _, hc⟩
    · cases h
    · cases h
      rw [Nat.zero_add]
      exact hc j u hu
theorem eff_ldR {A : Asn} {g o j m : Nat} {xs : List Value} (hc : ∀ w, St w0 A w → ∀ j u, xs[j]? = some u → w.cell? ⟨g, o + j, none⟩ = some u) (s : St w0 A w) (h : j + m ≤ xs.length)
    (hk : K (.agg ((xs.drop j).take m).toArray) w) : EffW P (.ld true m) [.pointer (some ⟨g, o + j, none⟩)] K w := by
  refine eff_ldcs (vs := (xs.drop j).take m) (fun i u hu => ?_) (by simp; omega) hk
  rw [List.getElem?_take] at hu
  split at hu
  · rw [List.getElem?_drop] at hu
    rw [Nat.add_assoc]
    exact hc w s _ _ hu
  · cases hu
/-- a cell of an owned row is set -/
theorem eff_stC {e size n g cap j : Nat} {u : Value} {xs : List Value} (s : St w0 (F * HL.own e size (.slice (some ⟨g, 0, none⟩) n cap) n xs) w) (hj : j < xs.length) (h1 : u.oneCell' = true)
    (hk : ∀ w', St w0 (F * HL.own e size (.slice (some ⟨g, 0, none⟩) n cap) n (xs.set j u)) w' → K undef w') : EffW P (.st 1) [.pointer (some ⟨g, j, none⟩), u] K w := by
  rcases s.own.2 with ⟨h, _⟩ | ⟨g', cap', cur, h, hn, hm, hc, ht, s'⟩
  · cases h
  · cases h
    have hl : xs.length = n * size := s.own.1
    have : n * size ≤ cap * size := Nat.mul_le_mul_right _ hn
    refine eff_st1 s' h1 (by omega) fun w' s2 => hk w' (s2.own_mk' hn hm (by simpa using hc) ?_)
    rw [Array.toList_setIfInBounds, List.take_set, ht]
/-- several cells of an owned row are set -/
theorem eff_stR {e size n g cap j m : Nat} {v : Value} {vs xs : List Value} (s : St w0 (F * HL.own e size (.slice (some ⟨g, 0, none⟩) n cap) n xs) w) (hv : v.cells.toList = vs) (hm : vs.length = m) (h1 : ∀ u ∈ vs, u.oneCell' = true) (hj : j + m ≤ xs.length)
    (hk : ∀ w', St w0 (F * HL.own e size (.slice (some ⟨g, 0, none⟩) n cap) n (xs.take j ++ vs ++ xs.drop (j + m))) w' → K undef w') : EffW P (.st m) [.pointer (some ⟨g, j, none⟩), v] K w := by
  rcases s.own.2 with ⟨h, _⟩ | ⟨g', cap', cur, h, hn, hmm, hc, ht, s'⟩
  · cases h
  · cases h
    have hl : xs.length = n * size := s.own.1
    have hle : n * size ≤ cap * size := Nat.mul_le_mul_right _ hn
    refine eff_stA s' hv hm h1 (by omega) fun w' s2 => hk w' (s2.own_mk' hn hmm ?_ ?_)
    · simp only [List.size_toArray, List.length_append, List.length_take, List.length_drop, Array.length_toList]
      omega
    · have e1 : cur.toList.take j = xs.take j := by rw [← ht, List.take_take, Nat.min_eq_left (by omega)]
      have e2 : (cur.toList.drop (j + m)).take (n * size - (j + m)) = xs.drop (j + m) := by rw [← ht, List.drop_take]
      have l1 : (cur.toList.take j ++ vs).length = j + m := by simp only [List.length_append, List.length_take, Array.length_toList]; omega
      rw [List.take_append, l1, e2, List.take_of_length_le (by omega), e1]
end
section
variable {α : Type}
theorem flat_length (f : α → List Value) (c : Nat) (hf : ∀ a, (f a).length = c) : ∀ l : List α, (l.flatMap f).length = l.length * c
  | [] => by simp
  | a :: l => by rw [List.flatMap_cons, List.length_append, hf, flat_length f c hf l, List.length_cons, Nat.add_mul]; omega
theorem flat_drop (f : α → List Value) (c : Nat) (hf : ∀ a, (f a).length = c) : ∀ (l : List α) (i : Nat), (l.flatMap f).drop (i * c) = (l.drop i).flatMap f
  | l, 0 => by simp
  | [], i + 1 => by simp
  | a :: l, i + 1 => by
    rw [List.flatMap_cons, List.drop_succ_cons, ← flat_drop f c hf l i, Nat.add_mul, Nat.one_mul, Nat.add_comm, ← List.drop_drop, ← hf a, List.drop_left]
theorem flat_row (f : α → List Value) (c : Nat) (hf : ∀ a, (f a).length = c) (l : List α) (i : Nat) (h : i < l.length) : ((l.flatMap f).drop (i * c)).take c = f l[i] := by
  rw [flat_drop f c hf, List.drop_eq_getElem_cons h, List.flatMap_cons, ← hf l[i], List.take_left]
theorem flat_get (f : α → List Value) (c : Nat) (hf : ∀ a, (f a).length = c) (l : List α) (i k : Nat) (h : i < l.length) (hk : k < c) : (l.flatMap f)[i * c + k]? = (f l[i])[k]? := by
  rw [← flat_row f c hf l i h, List.getElem?_take, if_pos hk, List.getElem?_drop]
theorem flat_set (f : α → List Value) (c : Nat) (hf : ∀ a, (f a).length = c) (x : α) : ∀ (l : List α) (i : Nat) (h : i < l.length), (l.flatMap f).take (i * c) ++ f x ++ (l.flatMap f).drop (i * c + c) = (l.set i x).flatMap f
  | a :: l, 0, _ => by
    rw [Nat.zero_mul, Nat.zero_add, List.take_zero, List.nil_append, List.set_cons_zero, List.flatMap_cons, List.flatMap_cons, ← hf a, List.drop_left]
  | a :: l, i + 1, h => by
    have ih := flat_set f c hf x l i (by simpa using h)
    have e1 : (i + 1) * c = c + i * c := by rw [Nat.add_mul]; omega
    have e2 : (i + 1) * c + c = c + (i * c + c) := by omega
    rw [List.set_cons_succ, List.flatMap_cons, List.flatMap_cons, ← ih, e2, e1, ← hf a, List.take_length_add_append, ← List.drop_drop, List.drop_left, List.append_assoc, List.append_assoc, hf a, List.append_assoc]
end
theorem foldl_set : ∀ (vs : List Value) (o : Nat) (c : List Value), o + vs.length ≤ c.length →
    ((vs.zipIdx o).foldl (fun (cs : Array Value) x => cs.setIfInBounds x.2 x.1) c.toArray) = (c.take o ++ vs ++ c.drop (o + vs.length)).toArray
  | [], o, c, _ => by simp
  | v :: vs, o, c, h => by
    simp only [List.length_cons] at h
    rw [List.zipIdx_cons, List.foldl_cons]
    have e : c.toArray.setIfInBounds o v = (c.set o v).toArray := by simp
    simp only [e]
    rw [foldl_set vs (o + 1) (c.set o v) (by rw [List.length_set]; omega)]
    congr 1
    have hlt : o < c.length := by omega
    rw [List.set_eq_take_append_cons_drop, if_pos hlt]
    have hl : (c.take o).length = o := by simp; omega
    have t1 : (c.take o ++ v :: c.drop (o + 1)).take (o + 1) = c.take o ++ [v] := by
      rw [List.take_append, hl, List.take_take, Nat.min_eq_right (by omega), show o + 1 - o = 1 by omega]; rfl
    have t2 : (c.take o ++ v :: c.drop (o + 1)).drop (o + 1 + vs.length) = c.drop (o + (vs.length + 1)) := by
      rw [List.drop_append, hl, List.drop_of_length_le (by rw [hl]; omega), show o + 1 + vs.length - o = vs.length + 1 by omega, List.drop_succ_cons, List.drop_drop, List.nil_append]
      congr 1; omega
    rw [t1, t2]
    simp
theorem fill1 (z : Array Value) (size : Nat) (v : Value) (hv : v.cells.size = size) : Instr.fill (fun i => some (i * size, size)) ((Array.range (1 * size)).map fun i => z[i % z.size]!) [(0, v)] = some v.cells := by
  have hf := foldl_set v.cells.toList 0 ((Array.range (1 * size)).map fun i => z[i % z.size]!).toList (by simp [hv])
  simp only [Instr.fill, Nat.zero_mul, Nat.zero_add, hv]
  rw [if_neg (by simp)]
  congr 1
  have e : v.cells.zipIdx = (v.cells.toList.zipIdx 0).toArray := by
    apply Array.ext'
    simp
  rw [e, List.size_toArray, List.foldl_toArray']
  · rw [Array.toArray_toList] at hf
    refine hf.trans ?_
    have hd : List.drop (0 + v.cells.toList.length) ((Array.range (1 * size)).map fun i => z[i % z.size]!).toList = [] := List.drop_of_length_le (by simp [hv])
    rw [hd]
    simp
  · rfl
/-- a slice of one, built -/
theorem eff_bslV {P : Program} {K : Value → World → Prop} {w w0 : World} {F : Asn} {e size : Nat} {z : Array Value} {v : Value} (s : St w0 F w) (hv : v.cells.size = size)
    (hk : ∀ b w', St w0 (F * pt b (.cells v.cells e (0, 0))) w' → K (.slice (some ⟨b, 0, none⟩) 1 1) w') : EffW P (.bsl e 1 size z [0]) [v] K w :=
  eff_bsl s (fill1 z size v hv) hk
/-- an empty slice, built -/
theorem eff_bsl0 {P : Program} {K : Value → World → Prop} {w w0 : World} {F : Asn} {e size : Nat} {z : Array Value} (s : St w0 F w)
    (hk : ∀ v w', St w0 (F * own e size v 0 []) w' → K v w') : EffW P (.bsl e 0 size z []) [] K w :=
  eff_bsl (cells := #[]) s (by simp [Instr.fill]) fun b w' s' => hk _ w' (s'.own_mk (Nat.le_refl 0) (Nat.zero_le _) (by simp) (by simp))
@[simp] theorem cells_agg (c : Array Value) : (Value.agg c).cells = c := rfl
/-- a result that lies in memory -/
theorem rv_cellA {P : Program} {env : List Value} {i n b off : Nat} {vs : List Value} {r : List RV} {K : List Value → World → Prop} {w : World} (he : env.getD i undef = .pointer (some ⟨b, off, none⟩))
    (hc : ∀ j u, vs[j]? = some u → w.cell? ⟨b, off + j, none⟩ = some u) (hl : vs.length = n) (hk : rvW P env r (fun us w => K (.agg vs.toArray :: us) w) w) : rvW P env (.cell i true n :: r) K w := by
  have := run_loadCells_list (P := P) w ⟨b, off, none⟩ vs (by
    intro j v hj
    rw [addr_add]; exact hc j v hj)
  rw [hl] at this
  show UponW P (valS (ldS true n (env.getD i undef))) _ w
  rw [he]
  refine upon_val (w' := w) (v := .agg vs.toArray) ?_ ⟨rfl, hk⟩
  simp [ldS, Instr.sureAddr, this]
/-- what a row at a block holds, cell by cell -/
theorem St.row_cells {w0 w : World} {F : Asn} {b : Nat} {vs : List Value} {t : TypeId} {f : Nat × Nat} (s : St w0 (F * pt b (.cells vs.toArray t f)) w) : ∀ j u, vs[j]? = some u → w.cell? ⟨b, 0 + j, none⟩ = some u := by
  intro j u hu
  rw [cell_of s.look, Nat.zero_add]
  simpa using hu
instance : Std.Associative (α := Asn) (· * ·) := ⟨sep_assoc⟩
instance : Std.Commutative (α := Asn) (· * ·) := ⟨sep_comm⟩
theorem St.to {w0 w : World} {A B : Asn} (s : St w0 A w) (h : A = B) : St w0 B w := h ▸ s
/-- forget what is not named -/
theorem St.cut {w0 w : World} {A B : Asn} (C : Asn) (s : St w0 A w) (h : A = B * C) : St w0 B w := (s.to h).drop
end Go.HL
