/-
  What the claim leans on, part 8 of 12. Conditions: as each theorem says.
-/
import Derived.Test.YtngjaibngkhidaaWPMg
import Derived.MapKept
namespace Go.HL
set_option maxRecDepth 4000
set_option linter.unusedSimpArgs false
set_option linter.unusedVariables false
def exA {α : Type} (F : α → Asn) : Asn := fun h => ∃ a, F a h
theorem exA_open {α : Type} {w0 w : World} {A : Asn} {F : α → Asn} (s : St w0 (A * exA F) w) : ∃ a, St w0 (A * F a) w := by
  obtain ⟨g, h1, h2, h3, d, e, a, m, b⟩ := s.holds
  exact ⟨m, s.of ⟨g, h1, h2, h3, d, e, a, b⟩⟩
theorem exA_mk {α : Type} {w0 w : World} {A : Asn} {F : α → Asn} (x : α) (s : St w0 (A * F x) w) : St w0 (A * exA F) w := by
  obtain ⟨g, h1, h2, h3, d, e, a, b⟩ := s.holds
  exact s.of ⟨g, h1, h2, h3, d, e, a, x, b⟩
section
variable {P : Program} {F0 : PF P} {F : Asn} {K : Value → World → Prop} {w w0 : World}
/-- an entry: its key, its value, its stamp -/
structure En where
  k : Int
  v : Value
  b : Nat
def entA (es : List En) : Array MapEntry := (es.map fun e => (⟨.int .i64 e.k, e.v, e.b⟩ : MapEntry)).toArray
def getI : List En → Int → Option Value
  | [], _ => none
  | e :: r, k => if k = e.k then some e.v else getI r k
def setI : List En → Int → Value → List En
  | [], _, _ => []
  | e :: r, k, v => if k = e.k then ⟨e.k, v, e.b⟩ :: r else e :: setI r k v
def delI : List En → Int → List En
  | [], _ => []
  | e :: r, k => if k = e.k then r else e :: delI r k
def posI : List En → Int → Nat → Option Nat
  | [], _, _ => none
  | e :: r, k, i => if k = e.k then some i else posI r k (i + 1)
theorem find_int (k : Int) : ∀ (es : List En) (i : Nat), Instr.findNow (.int .i64) (.int .i64 k) (entA es).toList i = some ((posI es k i).bind fun j => (getI es k).map fun v => (j, v))
  | [], _ => rfl
  | e :: r, i => by
    have h := find_int k r (i + 1)
    simp only [entA, List.toList_toArray] at h
    simp only [entA, List.toList_toArray, List.map_cons, Instr.findNow, Instr.sameNow, if_true, posI, getI]
    by_cases hk : k = e.k
    · subst hk; simp
    · simp only [beq_eq_false_iff_ne.2 hk, hk, if_false]
      exact h
theorem pos_get (k : Int) : ∀ (es : List En) (i : Nat), (posI es k i).isSome = (getI es k).isSome
  | [], _ => rfl
  | e :: r, i => by
    simp only [posI, getI]
    split
    · rfl
    · exact pos_get k r (i + 1)
theorem pos_ge (k : Int) : ∀ (es : List En) (i j : Nat), posI es k i = some j → i ≤ j
  | [], _, _, h => by cases h
  | e :: r, i, j, h => by
    simp only [posI] at h
    split at h
    · cases h; exact Nat.le_refl _
    · have := pos_ge k r _ _ h; omega
theorem del_at (k : Int) : ∀ (es : List En) (i j : Nat), posI es k i = some j → (entA es).eraseIdxIfInBounds (j - i) = entA (delI es k)
  | [], _, _, h => by cases h
  | e :: r, i, j, h => by
    simp only [posI] at h
    apply Array.ext'
    by_cases hk : k = e.k
    · rw [if_pos hk] at h
      cases h
      subst hk
      simp [entA, delI, Array.eraseIdxIfInBounds]
    · rw [if_neg hk] at h
      have hge := pos_ge k r _ _ h
      have ih := congrArg Array.toList (del_at k r _ _ h)
      obtain ⟨d, rfl⟩ : ∃ d, j = i + 1 + d := ⟨j - (i + 1), by omega⟩
      have e1 : i + 1 + d - i = d + 1 := by omega
      have e2 : i + 1 + d - (i + 1) = d := by omega
      have key : ∀ (l : List MapEntry) (n : Nat), (l.toArray.eraseIdxIfInBounds n).toList = l.eraseIdx n := by
        intro l n
        unfold Array.eraseIdxIfInBounds
        split
        · simp
        · rename_i hh
          rw [List.eraseIdx_of_length_le (by simpa using hh)]
      simp only [e2, entA, key] at ih
      simp only [e1, entA, key, List.map_cons, delI, hk, if_false, List.eraseIdx_cons_succ, List.toList_toArray, List.cons.injEq, true_and]
      simpa using ih
structure MapI (P : Program) (t kt ke : TypeId) (z : Value) : Prop where
  ty : P.underlying t = some (.map kt ke)
  key : P.underlying kt = some (.int .i64)
  zero : (P.info? ke).bind (·.zero) = some z
abbrev imap (m : Nat) (es : List En) (c : Nat) : Asn := pt m (.map (entA es) c)
variable {t kt ke : TypeId} {z : Value}
theorem chkI (T : MapI P t kt ke z) (e : Bool) (k : Int) : (Instr.checkKey e 10000 kt (.int .i64 k)).run P w = .ok () w := MapKept.run_checkKey (P := P) (w := w) T.key (show MapKept.IsKey (.int .i64) (.int .i64 k) from rfl) e 9999
theorem fndI (T : MapI P t kt ke z) (k : Int) (es : List En) : (Instr.findKey kt (.int .i64 k) (entA es).toList).run P w = .ok ((posI es k 0).bind fun j => (getI es k).map fun v => (j, v)) w := MapKept.run_findKey (P := P) (w := w) T.key (find_int k es 0)
theorem zrI (T : MapI P t kt ke z) : (zeroValue ke).run P w = .ok z w := by
  obtain ⟨i, hi, hz⟩ := Option.bind_eq_some_iff.1 T.zero
  simp [zeroValue, typeInfo, hi, hz]
theorem get_pos {es : List En} {k : Int} : ((posI es k 0).bind fun j => (getI es k).map fun v => (j, v)).map (·.2) = getI es k := by
  have := pos_get k es 0
  cases hp : posI es k 0 with
  | none => rw [hp] at this; cases hg : getI es k with
    | none => rfl
    | some v => rw [hg] at this; cases this
  | some j => cases hg : getI es k <;> rfl
theorem lookI_run (T : MapI P t kt ke z) {m : Nat} {es : List En} {c : Nat} (hb : w.heap[m]? = some (.map (entA es) c)) (k : Int) (ok : Bool) :
    (Instr.lookup t (.map (some m)) (.int .i64 k) ok).run P w = .ok (if ok then .tuple #[(getI es k).getD z, .bool (getI es k).isSome] else (getI es k).getD z) w := by
  have hg := get_pos (es := es) (k := k)
  simp only [Instr.lookup, Sem.run_bind, run_underlying T.ty, MapKept.run_getObj_map hb, Result.andThen_ok, Sem.run_pure, chkI T, fndI T]
  cases hf : ((posI es k 0).bind fun j => (getI es k).map fun v => (j, v)) with
  | none => rw [hf] at hg; rw [← hg]; simp [zrI T]
  | some q => rw [hf] at hg; rw [← hg]; simp
theorem eff_lookI (T : MapI P t kt ke z) {m : Nat} {es : List En} {c : Nat} (hb : w.heap[m]? = some (.map (entA es) c)) {k : Int} (hk : K ((getI es k).getD z) w) : EffW P (.look t false) [.map (some m), .int .i64 k] K w := by
  intro _
  exact upon_val (lookI_run T hb k false) hk
/-- a new map -/
theorem eff_mkmI (s : St w0 F w) (hk : ∀ b w', St w0 (F * imap b [] 0) w' → K (.map (some b)) w') : EffW P (.mkm t false) [] K w := by
  intro _
  refine upon_val (s := Instr.makeMap t none) (v := .map (some w.heap.size)) (w' := w.alloc (.map (entA []) 0)) ?_ (hk _ _ (s.alloc trivial))
  simp [Instr.makeMap, newObj, Sem.run, entA, Sem.bind]
theorem turnM {m : Nat} {o : Obj} {es' : List En} {c' : Nat} (s : St w0 (F * pt m o) w) : St w0 (F * imap m es' c') { w with heap := w.heap.setIfInBounds m (.map (entA es') c') } := by
  have hs := MapKept.heap_set (o' := .map (entA es') c') s.look
  exact s.turn (o' := .map (entA es') c') hs.1 hs.2 (by simp) rfl rfl (fun _ _ _ h => by cases h)
/-- a new key is entered -/
theorem eff_updI (T : MapI P t kt ke z) {m : Nat} {es : List En} {c : Nat} {k : Int} {v : Value} (s : St w0 (F * imap m es c) w) (hn : getI es k = none)
    (hk : ∀ w', St w0 (F * imap m (es ++ [⟨k, v, c⟩]) (c + 1)) w' → K undef w') : EffW P (.upd t) [.map (some m), .int .i64 k, v] K w := by
  intro _
  refine upon_unit (s := Instr.mapUpdate t (.map (some m)) (.int .i64 k) v) ?_ (hk _ (turnM s))
  have hb := s.look
  have hp : posI es k 0 = none := by
    have := pos_get k es 0
    rw [hn] at this
    simpa using this
  have he : (entA es).push ⟨.int .i64 k, v, c⟩ = entA (es ++ [⟨k, v, c⟩]) := by apply Array.ext'; simp [entA]
  simp only [Instr.mapUpdate, Sem.run_bind, run_underlying T.ty, MapKept.run_getObj_map hb, Result.andThen_ok, chkI T, fndI T, hp, Option.bind_none, he]
  rw [MapKept.run_setObj_map _ hb]
theorem del_none : ∀ (es : List En) (k : Int), getI es k = none → delI es k = es
  | [], _, _ => rfl
  | e :: r, k, h => by
    simp only [getI] at h
    split at h
    · cases h
    · rename_i hk; simp only [delI, hk, if_false, del_none r k h]
/-- a key is deleted -/
theorem eff_delI {kt' ty : TypeId} {cs : Array Bool} (T : MapI P t kt ke z) {m : Nat} {es : List En} {c : Nat} {k : Int} (s : St w0 (F * imap m es c) w)
    (hk : ∀ w', St w0 (F * imap m (delI es k) c) w' → K (.tuple #[]) w') : EffW P (.bi .delete #[t, kt'] ty cs) [.map (some m), .int .i64 k] K w := by
  intro _
  refine upon_val (s := Builtin.delete_ #[t, kt'] ty #[.map (some m), .int .i64 k]) ?_ (hk _ (turnM s))
  have hb := s.look
  simp only [Builtin.delete_, List.getElem?_toArray, List.getElem?_cons_zero, List.getElem?_cons_succ, Sem.run_bind, run_underlying T.ty, MapKept.run_getObj_map hb, Result.andThen_ok, chkI T, fndI T]
  cases hp : posI es k 0 with
  | none =>
    have hn : getI es k = none := by
      have := pos_get k es 0
      rw [hp] at this
      simpa using this.symm
    simp only [Option.bind_none, del_none es k hn, Sem.run_bind]
    rw [MapKept.run_setObj_map _ hb]
    simp
  | some j =>
    obtain ⟨v, hv⟩ : ∃ v, getI es k = some v := by
      have := pos_get k es 0
      rw [hp] at this
      exact Option.isSome_iff_exists.1 this.symm
    have hs := del_at k es 0 j hp
    rw [Nat.sub_zero] at hs
    simp only [hv, Option.bind_some, Option.map_some, hs, Sem.run_bind]
    rw [MapKept.run_setObj_map _ hb]
    simp
/-- how many there are -/
theorem eff_lenI {ty : TypeId} {cs : Array Bool} (hu : P.underlying t = some (.map kt ke)) {m : Nat} {es : List En} {c : Nat} (hb : w.heap[m]? = some (.map (entA es) c))
    (hk : K (.int .i64 es.length) w) : EffW P (.bi .len #[t] ty cs) [.map (some m)] K w := by
  intro _
  refine upon_val (s := Builtin.len_ #[t] ty #[.map (some m)]) ?_ hk
  simp only [Builtin.len_, List.getElem?_toArray, List.getElem?_cons_zero, Sem.run_bind, run_underlying hu, MapKept.run_getObj_map hb, Result.andThen_ok, Sem.run_pure, goInt]
  simp [entA]
theorem eff_lenN {ty : TypeId} {cs : Array Bool} (hu : P.underlying t = some (.map kt ke)) (hk : K (.int .i64 0) w) : EffW P (.bi .len #[t] ty cs) [.map none] K w := by
  intro _
  refine upon_val (s := Builtin.len_ #[t] ty #[.map none]) ?_ hk
  simp [Builtin.len_, run_underlying hu, goInt]
/-- an iterator -/
theorem eff_rngI (hu : P.underlying t = some (.map kt ke)) {m : Nat} {es : List En} {c : Nat} (s : St w0 F w) (hb : w.heap[m]? = some (.map (entA es) c))
    (hk : ∀ b w', St w0 (F * pt b (.mapIter (some m) c #[] c)) w' → K (.pointer (some ⟨b, 0, none⟩)) w') : EffW P (.rng t) [.map (some m)] K w := by
  intro _
  refine upon_val (s := Instr.range t (.map (some m))) ?_ (hk _ _ (s.alloc trivial))
  simp [Instr.range, run_underlying hu, MapKept.run_getObj_map hb, Result.andThen]
theorem eff_rngN (hu : P.underlying t = some (.map kt ke)) (s : St w0 F w)
    (hk : ∀ b w', St w0 (F * pt b (.mapIter none 0 #[] 0)) w' → K (.pointer (some ⟨b, 0, none⟩)) w') : EffW P (.rng t) [.map none] K w := by
  intro _
  refine upon_val (s := Instr.range t (.map none)) ?_ (hk _ _ (s.alloc trivial))
  simp [Instr.range, run_underlying hu, Result.andThen]
theorem eff_nxtN {ty : TypeId} {b : Nat} (s : St w0 (F * pt b (.mapIter none 0 #[] 0)) w) (hk : K (.tuple #[.bool false]) w) : EffW P (.nxt false ty) [.pointer (some ⟨b, 0, none⟩)] K w := by
  intro _
  have hb := s.look
  refine upon_val (w' := w) ?_ hk
  simp [Instr.next, getObj, Sem.run, hb]
theorem run_getIter {r : Nat} {m : Option Nat} {a c : Nat} {seen : Array Nat} (hb : w.heap[r]? = some (.mapIter m a seen c)) : (getObj r).run P w = .ok (.mapIter m a seen c) w := by
  simp [getObj, Sem.run, hb]
theorem run_setIter {r : Nat} {m : Option Nat} {a c : Nat} {seen : Array Nat} (o : Obj) (hb : w.heap[r]? = some (.mapIter m a seen c)) : (setObj r o).run P w = .ok () { w with heap := w.heap.setIfInBounds r o } := by
  simp [setObj, Sem.run, hb]
theorem choose_lt (n : Nat) (hn : 0 < n) : ∃ i w', i < n ∧ (choose (.mapNext n)).run P w = .ok i w' ∧ (w' = w ∨ w' = w.drew) := by
  rw [run_choose_drew]
  by_cases h : n ≤ 1
  · exact ⟨0, w, hn, by simp [Question.forced, h], .inl rfl⟩
  · exact ⟨_, w.drew, Nat.mod_lt (w.tape w.drawn (.mapNext n)) hn, by simp [Question.forced, h, Question.cut], .inr rfl⟩
def leftE (es : List En) (seen : Array Nat) : List En := es.filter fun e => !seen.contains e.b
theorem left_entA (es : List En) (seen : Array Nat) : ((entA es).filter fun e => !seen.contains e.born) = entA (leftE es seen) := by
  apply Array.ext'
  simp only [entA, leftE, Array.toList_filter, List.toList_toArray, List.filter_map]
  rfl
theorem old_all {es : List En} {c : Nat} (h : ∀ e ∈ es, e.b < c) : ((entA es).filter fun e => decide (e.born < c)) = entA es := by
  apply Array.ext'
  simp only [entA, Array.toList_filter, List.toList_toArray]
  refine List.filter_eq_self.2 fun x hx => ?_
  obtain ⟨e, he, rfl⟩ := List.mem_map.1 hx
  exact decide_eq_true (h e he)
theorem new_none {es : List En} {c : Nat} (h : ∀ e ∈ es, e.b < c) : ((entA es).filter fun e => decide (e.born ≥ c)) = #[] := by
  apply Array.ext'
  simp only [entA, Array.toList_filter, List.toList_toArray]
  refine List.filter_eq_nil_iff.2 fun x hx => ?_
  obtain ⟨e, he, rfl⟩ := List.mem_map.1 hx
  have := h e he
  simp; omega
/-- the next entry, any of those that have not come; or there is none left (nothing was entered since) -/
theorem eff_nxtI {ty : TypeId} {b m : Nat} {es : List En} {c : Nat} {seen : Array Nat} (s : St w0 (F * imap m es c * pt b (.mapIter (some m) c seen c)) w) (hc : ∀ e ∈ es, e.b < c)
    (hk1 : ∀ e ∈ es, e.b ∉ seen → ∀ w', St w0 (F * imap m es c * pt b (.mapIter (some m) c (seen.push e.b) c)) w' → K (.tuple #[.bool true, .int .i64 e.k, e.v]) w')
    (hk2 : (∀ e ∈ es, e.b ∈ seen) → ∀ w', St w0 (F * imap m es c * pt b (.mapIter (some m) c seen c)) w' → K (.tuple #[.bool false]) w') : EffW P (.nxt false ty) [.pointer (some ⟨b, 0, none⟩)] K w := by
  intro _
  have hi := s.look
  have hm := s.swap.look
  have hlt : ∀ e ∈ leftE es seen, e.b < c := fun e he => hc e (List.mem_filter.1 he).1
  have hall : (!seen.isEmpty && !(entA es).isEmpty && (entA es).all fun x => decide (x.born ≥ c)) = false := by
    cases es with
    | nil => simp [entA]
    | cons e r =>
      have := hc e (.head _)
      have hf : ((entA (e :: r)).all fun x => decide (x.born ≥ c)) = false := by
        have : ¬ c ≤ e.b := by omega
        simp [entA, this]
      rw [hf, Bool.and_false]
  by_cases hl : leftE es seen = []
  · have hno : ∀ e ∈ es, e.b ∈ seen := fun e he => by
      have := List.filter_eq_nil_iff.1 hl e he
      simpa using this
    refine upon_val (s := Instr.next (.pointer (some ⟨b, 0, none⟩)) false ty) (w' := w) ?_ (hk2 hno w s)
    have hch : (choose (.mapNext 1)).run P w = .ok 0 w := by rw [run_choose_drew]; simp [Question.forced]
    simp only [Instr.next, Sem.run_bind, run_getIter hi, Result.andThen_ok, MapKept.run_getObj_map hm, hall, Sem.run_ite, left_entA, old_all hlt, new_none hlt, hl]
    simp [entA, hch, Question.forced]
  · have hpos : 0 < (leftE es seen).length := List.length_pos_iff.2 hl
    obtain ⟨i, w1, hil, hch, hw1⟩ := choose_lt (P := P) (w := w) (leftE es seen).length hpos
    have hmem := List.getElem_mem hil
    obtain ⟨hme, hns⟩ := List.mem_filter.1 hmem
    have hns : (leftE es seen)[i].b ∉ seen := by simpa using hns
    have s1 : St w0 (F * imap m es c * pt b (.mapIter (some m) c seen c)) w1 := by rcases hw1 with rfl | rfl; exact s; exact s.drew
    have hi1 := s1.look
    have hs := MapKept.heap_set (o' := .mapIter (some m) c (seen.push (leftE es seen)[i].b) c) hi1
    refine upon_val (s := Instr.next (.pointer (some ⟨b, 0, none⟩)) false ty) (w' := { w1 with heap := w1.heap.setIfInBounds b (.mapIter (some m) c (seen.push (leftE es seen)[i].b) c) }) ?_ (hk1 _ hme hns _ (s1.turn (o' := .mapIter (some m) c (seen.push (leftE es seen)[i].b) c) hs.1 hs.2 (by simp) rfl rfl (fun _ _ _ h => by cases h)))
    have hne : (entA (leftE es seen)).isEmpty = false := by
      cases hq : leftE es seen with
      | nil => exact absurd hq hl
      | cons _ _ => simp [entA]
    have hsz : (entA (leftE es seen)).size = (leftE es seen).length := by simp [entA]
    simp only [Instr.next, Sem.run_bind, run_getIter hi, Result.andThen_ok, MapKept.run_getObj_map hm, hall, Sem.run_ite, left_entA, old_all hlt, new_none hlt, hne]
    simp only [Array.size_append, Array.size_map, hsz, Array.size_empty, Nat.zero_add, if_false, Array.append_empty, Array.empty_append, Bool.false_eq_true, Sem.run_bind, hch, Result.andThen_ok]
    simp [hsz, hch, entA, hil, run_setIter _ hi1]
/-- what stands at the entry that came last -/
theorem eff_ent {b m : Nat} {es : List En} {a c : Nat} {seen : Array Nat} {e : En} (s : St w0 (F * imap m es c * pt b (.mapIter (some m) a (seen.push e.b) c)) w) (he : e ∈ es) (hn : (es.map (·.b)).Nodup)
    (hk : K (.tuple #[.int .i64 e.k, e.v]) w) : EffW P .ent [.pointer (some ⟨b, 0, none⟩)] K w := by
  intro _
  have hi := s.look
  have hm := s.swap.look
  have hf : (entA es).find? (fun x => x.born == e.b) = some ⟨.int .i64 e.k, e.v, e.b⟩ := by
    have key : ∀ (es : List En), e ∈ es → (es.map (·.b)).Nodup → (es.map fun e => (⟨.int .i64 e.k, e.v, e.b⟩ : MapEntry)).find? (fun x => x.born == e.b) = some ⟨.int .i64 e.k, e.v, e.b⟩ := by
      intro es
      induction es with
      | nil => intro h; cases h
      | cons x r ih =>
        intro h hn
        rw [List.map_cons, List.nodup_cons] at hn
        by_cases hx : x.b = e.b
        · rcases List.mem_cons.1 h with rfl | h
          · simp
          · exact absurd (List.mem_map.2 ⟨e, h, hx.symm⟩) hn.1
        · rcases List.mem_cons.1 h with rfl | h
          · exact absurd rfl hx
          · rw [List.map_cons, List.find?_cons_of_neg (by simpa using hx)]
            exact ih h hn.2
    simpa [entA] using key es he hn
  refine upon_val (s := Instr.entry (.pointer (some ⟨b, 0, none⟩))) (w' := w) ?_ hk
  simp only [Instr.entry, Sem.run_bind, run_getIter hi, Result.andThen_ok, Array.back?_push, MapKept.run_getObj_map hm, hf]
  simp
end
structure okE (es : List En) (c : Nat) : Prop where
  lt : ∀ e ∈ es, e.b < c
  bn : (es.map (·.b)).Nodup
  kn : (es.map (·.k)).Nodup
theorem okE_nil (c : Nat) : okE [] c := ⟨by simp, by simp, by simp⟩
theorem getI_none {es : List En} {k : Int} : getI es k = none ↔ ∀ e ∈ es, e.k ≠ k := by
  induction es with
  | nil => simp [getI]
  | cons e r ih =>
    simp only [getI]
    split
    · rename_i h; subst h; simp
    · rename_i h
      rw [ih]
      constructor
      · intro hr x hx
        rcases List.mem_cons.1 hx with rfl | hx
        · exact fun g => h g.symm
        · exact hr x hx
      · intro hr x hx; exact hr x (List.mem_cons_of_mem _ hx)
theorem getI_mem {es : List En} {k : Int} {v : Value} (h : getI es k = some v) : ∃ e ∈ es, e.k = k ∧ e.v = v := by
  induction es with
  | nil => cases h
  | cons e r ih =>
    simp only [getI] at h
    split at h
    · rename_i hk; cases h; exact ⟨e, .head _, hk.symm, rfl⟩
    · obtain ⟨x, hx, h1⟩ := ih h; exact ⟨x, .tail _ hx, h1⟩
theorem getI_of {es : List En} (hn : (es.map (·.k)).Nodup) {e : En} (h : e ∈ es) : getI es e.k = some e.v := by
  induction es with
  | nil => cases h
  | cons x r ih =>
    rw [List.map_cons, List.nodup_cons] at hn
    simp only [getI]
    rcases List.mem_cons.1 h with rfl | h
    · simp
    · rw [if_neg (fun hk => hn.1 (List.mem_map.2 ⟨e, h, hk⟩))]
      exact ih hn.2 h
theorem okE_push {es : List En} {c : Nat} (h : okE es c) {k : Int} (hk : getI es k = none) (v : Value) : okE (es ++ [⟨k, v, c⟩]) (c + 1) := by
  refine ⟨fun e he => ?_, ?_, ?_⟩
  · rcases List.mem_append.1 he with he | he
    · have := h.lt e he; omega
    · have : e = ⟨k, v, c⟩ := by simpa using he
      subst this; exact Nat.lt_succ_self _
  · rw [List.map_append, List.nodup_append]
    refine ⟨h.bn, by simp, fun x hx y hy => ?_⟩
    obtain ⟨e, he, rfl⟩ := List.mem_map.1 hx
    have : y = c := by simpa using hy
    have := h.lt e he
    omega
  · rw [List.map_append, List.nodup_append]
    refine ⟨h.kn, by simp, fun x hx y hy => ?_⟩
    obtain ⟨e, he, rfl⟩ := List.mem_map.1 hx
    have : y = k := by simpa using hy
    rw [this]
    exact getI_none.1 hk e he
theorem delI_sub (k : Int) : ∀ es : List En, (delI es k).Sublist es
  | [] => .slnil
  | e :: r => by
    simp only [delI]
    split
    · exact List.sublist_cons_self _ _
    · exact (delI_sub k r).cons_cons _
theorem okE_del {es : List En} {c : Nat} (h : okE es c) (k : Int) : okE (delI es k) c :=
  ⟨fun e he => h.lt e ((delI_sub k es).subset he), h.bn.sublist ((delI_sub k es).map _), h.kn.sublist ((delI_sub k es).map _)⟩
theorem delI_eq {es : List En} (hn : (es.map (·.k)).Nodup) (k : Int) : delI es k = es.filter fun e => decide (e.k ≠ k) := by
  induction es with
  | nil => rfl
  | cons e r ih =>
    rw [List.map_cons, List.nodup_cons] at hn
    simp only [delI]
    split
    · rename_i h
      subst h
      rw [List.filter_cons_of_neg (by simp)]
      symm
      refine List.filter_eq_self.2 fun x hx => decide_eq_true fun g => hn.1 (List.mem_map.2 ⟨x, hx, g⟩)
    · rename_i h
      rw [List.filter_cons_of_pos (by simpa using fun g : e.k = k => h g.symm), ih hn.2]
theorem getI_del {es : List En} (hn : (es.map (·.k)).Nodup) (k j : Int) : getI (delI es k) j = if j = k then none else getI es j := by
  rw [delI_eq hn]
  induction es with
  | nil => simp [getI]
  | cons e r ih =>
    rw [List.map_cons, List.nodup_cons] at hn
    by_cases h : e.k = k
    · rw [List.filter_cons_of_neg (by simpa using h), ih hn.2]
      by_cases hj : j = k
      · simp [hj]
      · have hne : ¬ j = e.k := fun g => hj (g.trans h)
        simp [hj, getI, hne]
    · rw [List.filter_cons_of_pos (by simpa using h)]
      simp only [getI, ih hn.2]
      by_cases hj : j = e.k
      · have hne : ¬ j = k := fun g => h (hj.symm.trans g)
        rw [if_pos hj, if_pos hj, if_neg hne]
      · rw [if_neg hj, if_neg hj]
theorem getI_push (es : List En) (k : Int) (v : Value) (c : Nat) (hk : getI es k = none) (j : Int) : getI (es ++ [⟨k, v, c⟩]) j = if j = k then some v else getI es j := by
  induction es with
  | nil => simp [getI]
  | cons e r ih =>
    simp only [getI] at hk
    split at hk
    · cases hk
    · rename_i hne
      simp only [List.cons_append, getI, ih hk]
      by_cases hj : j = e.k
      · have : ¬ j = k := fun g => hne (g.symm.trans hj)
        rw [if_pos hj, if_neg this, if_pos hj]
      · rw [if_neg hj, if_neg hj]
end Go.HL

namespace Go.HL
set_option maxRecDepth 4000
set_option linter.unusedSimpArgs false
set_option linter.unusedVariables false
section
variable {P : Program} {F0 : PF P} {F : Asn} {K : Value → World → Prop} {w w0 : World}
def entF : List (List UInt8) → Nat → List MapEntry
  | [], _ => []
  | x :: r, i => ⟨.string (mk x), .int .i64 (i : Int), i⟩ :: entF r (i + 1)
def mapE (ks : List (List UInt8)) : Array MapEntry := (entF ks 0).toArray
def lookK (k : List UInt8) : List (List UInt8) → Nat → Option Nat
  | [], _ => none
  | x :: r, i => if k = x then some i else lookK k r (i + 1)
theorem mk_inj {a b : List UInt8} (h : mk a = mk b) : a = b := by
  have h2 : (mk a).data.toList = (mk b).data.toList := by rw [h]
  exact h2
theorem mk_eq_iff (a b : List UInt8) : (mk a == mk b) = decide (a = b) := by
  rw [Bool.eq_iff_iff, MapKept.bytes_beq]
  exact ⟨fun h => decide_eq_true (mk_inj h), fun h => by rw [of_decide_eq_true h]⟩
/-- what a map with texts for keys answers -/
def askN (k : List UInt8) (ks : List (List UInt8)) : Int := ((lookK k ks 0).getD 0 : Nat)
def askB (k : List UInt8) (ks : List (List UInt8)) : Bool := (lookK k ks 0).isSome
abbrev askK (k : List UInt8) (ks : List (List UInt8)) : Value := .tuple #[.int .i64 (askN k ks), .bool (askB k ks)]
structure MapT (P : Program) (t kt ke : TypeId) : Prop where
  ty : P.underlying t = some (.map kt ke)
  key : P.underlying kt = some .string
  zero : (P.info? ke).bind (·.zero) = some (.int .i64 0)
end
end Go.HL

namespace Go.HL
set_option maxRecDepth 4000
set_option linter.unusedSimpArgs false
set_option linter.unusedVariables false
section
variable {P : Program}
inductive PV where
  | int (k : IntKind) (a : Int)
  | str (b : List UInt8)
  | bool (b : Bool)
deriving DecidableEq
inductive PK where
  | int (k : IntKind)
  | str
  | bool
deriving DecidableEq
def PV.val : PV → Value
  | .int k a => .int k a
  | .str b => .string (mk b)
  | .bool b => .bool b
def PV.kind : PV → PK
  | .int k _ => .int k
  | .str _ => .str
  | .bool _ => .bool
def PK.of : PK → TypeDesc → Bool
  | .int _, .int _ => true
  | .str, .string => true
  | .bool, .bool => true
  | _, _ => false
def primFields (P : Program) : List Field → List PK → Nat → Bool
  | [], [], _ => true
  | f :: fs, k :: ks, o => (f.name != "_") && (f.offset == o) && (match P.underlying f.type with | some d => k.of d | none => false) && primFields P fs ks (o + 1)
  | _, _, _ => false
def holdsP (xs : Array Value) (o : Nat) (as_ : List PV) : Prop := ∀ j u, as_[j]? = some u → xs[o + j]? = some u.val
theorem holdsP_tail {xs : Array Value} {o : Nat} {a : PV} {as_ : List PV} (h : holdsP xs o (a :: as_)) : holdsP xs (o + 1) as_ := by
  intro j u hu
  have := h (j + 1) u (by simpa using hu)
  rw [Nat.add_assoc, Nat.add_comm 1]
  exact this
theorem holdsP_list (as_ : List PV) : holdsP (as_.map PV.val).toArray 0 as_ := by
  intro j u hu
  simp [hu]
theorem part_prim {t : TypeId} {d : TypeDesc} {a : PV} {xs : Array Value} {o : Nat} (ht : P.underlying t = some d) (hk : a.kind.of d = true) (h : xs[o]? = some a.val) (w : World) : (part t xs o).run P w = .ok a.val w := by
  simp only [part, Sem.run_bind, isAgg_run ht, Result.andThen_ok]
  have : isAggD d = false := by
    cases a <;> cases d <;> first | rfl | (simp [PV.kind, PK.of] at hk)
  rw [this]
  simp [h]
theorem equal_prim {t : TypeId} {d : TypeDesc} {a b : PV} (ht : P.underlying t = some d) (hk : a.kind.of d = true) (hab : a.kind = b.kind) (n : Nat) (w : World) : (Op.equalIn (n + 1) t a.val b.val).run P w = .ok (decide (a = b)) w := by
  simp only [Op.equalIn, Sem.run_bind, und_run ht, Result.andThen_ok]
  cases a <;> cases b <;> simp only [PV.kind, PK.int.injEq, reduceCtorEq] at hab
  · subst hab
    cases d <;> simp [PV.kind, PK.of] at hk
    simp [PV.val]
    rw [Bool.eq_iff_iff]; simp
  · cases d <;> simp [PV.kind, PK.of] at hk
    simp only [PV.val, Sem.run_pure, mk_eq_iff, PV.str.injEq]
  · cases d <;> simp [PV.kind, PK.of] at hk
    simp [PV.val]
    rw [Bool.eq_iff_iff]; simp
theorem eqFields_prims (d : Nat) (w : World) (xs ys : Array Value) : ∀ (as_ bs : List PV) (fs : List Field) (o : Nat), primFields P fs (as_.map PV.kind) o = true → as_.map PV.kind = bs.map PV.kind → holdsP xs o as_ → holdsP ys o bs →
    (Op.eqFields (d + 1) xs ys fs).run P w = .ok (decide (as_ = bs)) w
  | [], [], [], o, _, _, _, _ => by simp [Op.eqFields]
  | a :: as_, b :: bs, f :: fs, o, h, hk, h1, h2 => by
    simp only [List.map_cons, primFields, Bool.and_eq_true, bne_iff_ne, beq_iff_eq] at h
    obtain ⟨⟨⟨hn, ho⟩, ht⟩, hr⟩ := h
    simp only [List.map_cons, List.cons.injEq] at hk
    have ih := eqFields_prims d w xs ys as_ bs fs (o + 1) hr hk.2 (holdsP_tail h1) (holdsP_tail h2)
    split at ht
    · rename_i k hku
      have p1 := part_prim (P := P) hku ht (h1 0 a rfl) w
      have p2 := part_prim (P := P) hku (hk.1 ▸ ht) (h2 0 b rfl) w
      rw [Nat.add_zero] at p1 p2
      simp only [Op.eqFields, ne_eq, hn, not_false_eq_true, if_true, ho, Sem.run_bind, p1, p2, Result.andThen_ok, equal_prim hku ht hk.1]
      by_cases e : a = b
      · simp [e, ih]
      · simp [e]
    · cases ht
  | [], _ :: _, _, _, _, hk, _, _ => by simp at hk
  | _ :: _, [], _, _, _, hk, _, _ => by simp at hk
  | [], [], _ :: _, _, h, _, _, _ => by simp [primFields] at h
  | _ :: _, _ :: _, [], _, h, _, _, _ => by simp [primFields] at h
/-- what is known of a struct of such -/
structure PrimStruct (P : Program) (t : TypeId) (ks : List PK) : Prop where
  und : P.underlying t = some (.struct (P.fieldsOf t))
  stood : P.stoodInHeld t = false
  guard : P.eqGuardType P.depth t = false
  prims : primFields P (P.fieldsOf t).toList ks 0 = true
theorem primEq_run {t : TypeId} {ks : List PK} (T : PrimStruct P t ks) (neg : Bool) (x y : Operand) (xs ys : Array Value) (as_ bs : List PV) (l1 : as_.map PV.kind = ks) (l2 : bs.map PV.kind = ks) (h1 : holdsP xs 0 as_) (h2 : holdsP ys 0 bs) (w : World) :
    (do eqGuard (if neg then .neq else .eql) t x y (.agg xs) (.agg ys); binOp (if neg then .neq else .eql) t (.agg xs) (.agg ys) : Sem Value).run P w = .ok (.bool (if neg then !(decide (as_ = bs)) else decide (as_ = bs))) w := by
  have hg : ∀ op, (eqGuard op t x y (.agg xs) (.agg ys)).run P w = .ok () w := by
    intro op
    unfold eqGuard
    cases op <;> simp [T.guard]
  have he : (Op.equal t (.agg xs) (.agg ys)).run P w = .ok (decide (as_ = bs)) w := by
    rw [equal_succ, run_equalIn_struct w 9999 t xs ys T.und T.stood]
    exact eqFields_prims 9998 w xs ys as_ bs _ 0 (by rw [l1]; exact T.prims) (by rw [l1, l2]) h1 h2
  cases neg
  · show (do eqGuard .eql t x y (.agg xs) (.agg ys); (do pure (.bool (← Op.equal t (.agg xs) (.agg ys)))) : Sem Value).run P w = _
    simp only [Sem.run_bind, hg, Result.andThen_ok, he, Sem.run_pure]; rfl
  · show (do eqGuard .neq t x y (.agg xs) (.agg ys); (do pure (.bool (!(← Op.equal t (.agg xs) (.agg ys))))) : Sem Value).run P w = _
    simp only [Sem.run_bind, hg, Result.andThen_ok, he, Sem.run_pure]; rfl
variable {K : Value → World → Prop} {w w0 : World} {A : Asn} {C : World → Prop}
theorem eff_eqP {t : TypeId} {ks : List PK} (T : PrimStruct P t ks) {neg : Bool} {x y : Operand} (as_ bs : List PV) (l1 : as_.map PV.kind = ks) (l2 : bs.map PV.kind = ks) (hk : K (.bool (if neg then !(decide (as_ = bs)) else decide (as_ = bs))) w) :
    EffW P (.bin (if neg then .neq else .eql) t x y) [.agg (as_.map PV.val).toArray, .agg (bs.map PV.val).toArray] K w := by
  intro _
  exact upon_val (primEq_run T neg x y _ _ as_ bs l1 l2 (holdsP_list as_) (holdsP_list bs) w) hk
theorem eff_neqP {t : TypeId} {ks : List PK} (T : PrimStruct P t ks) {x y : Operand} (as_ bs : List PV) (l1 : as_.map PV.kind = ks) (l2 : bs.map PV.kind = ks) (hk : K (.bool (!decide (as_ = bs))) w) :
    EffW P (.bin .neq t x y) [.agg (as_.map PV.val).toArray, .agg (bs.map PV.val).toArray] K w := eff_eqP (neg := true) T as_ bs l1 l2 hk
theorem eff_eqlP {t : TypeId} {ks : List PK} (T : PrimStruct P t ks) {x y : Operand} (as_ bs : List PV) (l1 : as_.map PV.kind = ks) (l2 : bs.map PV.kind = ks) (hk : K (.bool (decide (as_ = bs))) w) :
    EffW P (.bin .eql t x y) [.agg (as_.map PV.val).toArray, .agg (bs.map PV.val).toArray] K w := eff_eqP (neg := false) T as_ bs l1 l2 hk
theorem effq_neqP {t : TypeId} {ks : List PK} (T : PrimStruct P t ks) {x y : Operand} (as_ bs : List PV) (l1 : as_.map PV.kind = ks) (l2 : bs.map PV.kind = ks) {K : Value → Prop} (hk : K (.bool (!decide (as_ = bs)))) :
    EffQ P C (.bin .neq t x y) [.agg (as_.map PV.val).toArray, .agg (bs.map PV.val).toArray] K :=
  ⟨_, fun w _ => quiet_val rfl (primEq_run T true x y _ _ as_ bs l1 l2 (holdsP_list as_) (holdsP_list bs) w), hk⟩
end
end Go.HL

namespace Go.HL
set_option maxRecDepth 4000
set_option linter.unusedSimpArgs false
set_option linter.unusedVariables false
theorem foldl_off (o : Nat) : ∀ (vs : List Value) (j : Nat) (c : Array Value), (vs.zipIdx j).foldl (fun (cs : Array Value) x => cs.setIfInBounds (o + x.2) x.1) c = (vs.zipIdx (o + j)).foldl (fun (cs : Array Value) x => cs.setIfInBounds x.2 x.1) c
  | [], _, _ => rfl
  | v :: vs, j, c => by
    rw [List.zipIdx_cons, List.zipIdx_cons, List.foldl_cons, List.foldl_cons, foldl_off o vs (j + 1)]
    rfl
theorem fillN (size : Nat) : ∀ (vs : List Value) (k : Nat) (c : List Value), (∀ v ∈ vs, v.cells.size = size) → (k + vs.length) * size ≤ c.length →
    Instr.fill (fun i => some (i * size, size)) c.toArray ((List.range' k vs.length).zip vs) = some (c.take (k * size) ++ vs.flatMap (fun v => v.cells.toList) ++ c.drop ((k + vs.length) * size)).toArray
  | [], k, c, _, _ => by simp [Instr.fill]
  | v :: vs, k, c, hv, hc => by
    have h0 : v.cells.size = size := hv v (List.mem_cons_self ..)
    have hle : (k + 1 + vs.length) * size ≤ c.length := by
      have : k + (v :: vs).length = k + 1 + vs.length := by simp; omega
      rw [this] at hc; exact hc
    have hk1 : (k + 1) * size = k * size + size := Nat.succ_mul k size
    have hadd : (k + 1 + vs.length) * size = k * size + size + vs.length * size := by rw [Nat.add_mul, hk1]
    rw [List.length_cons, List.range'_succ, List.zip_cons_cons]
    simp only [Instr.fill, h0]
    rw [if_neg (by simp; omega)]
    have hsz : v.cells.toList.length = size := by rw [Array.length_toList, h0]
    have hf : v.cells.zipIdx.foldl (fun (cs : Array Value) (x : Value × Nat) => cs.setIfInBounds (k * size + x.2) x.1) c.toArray = (c.take (k * size) ++ v.cells.toList ++ c.drop (k * size + size)).toArray := by
      have e : v.cells.zipIdx = (v.cells.toList.zipIdx 0).toArray := by
        apply Array.ext'
        simp
      rw [e, List.foldl_toArray']
      · rw [foldl_off, Nat.add_zero, foldl_set v.cells.toList (k * size) c (by rw [hsz]; omega), hsz]
      · rfl
    rw [hf]
    have ih := fillN size vs (k + 1) (c.take (k * size) ++ v.cells.toList ++ c.drop (k * size + size)) (fun u hu => hv u (List.mem_cons_of_mem _ hu)) (by
      simp only [List.length_append, List.length_take, List.length_drop, hsz]; omega)
    rw [ih]
    congr 2
    have l1 : (c.take (k * size)).length = k * size := by rw [List.length_take]; omega
    have l2 : (c.take (k * size) ++ v.cells.toList).length = (k + 1) * size := by rw [List.length_append, l1, hsz, hk1]
    have t1 : (c.take (k * size) ++ v.cells.toList ++ c.drop (k * size + size)).take ((k + 1) * size) = c.take (k * size) ++ v.cells.toList := by
      rw [← l2]; exact List.take_left
    have t2 : (c.take (k * size) ++ v.cells.toList ++ c.drop (k * size + size)).drop ((k + 1 + vs.length) * size) = c.drop ((k + (vs.length + 1)) * size) := by
      have e2 : (k + (vs.length + 1)) * size = (k + 1 + vs.length) * size := by congr 1; omega
      rw [List.drop_append, l2, List.drop_of_length_le (by rw [l2, hadd, hk1]; omega), List.nil_append, List.drop_drop, e2]
      congr 1
      rw [hadd, hk1]; omega
    rw [t1, t2]
    simp [List.flatMap_cons, List.append_assoc]
/-- a slice of several, built -/
theorem eff_bslN {P : Program} {K : Value → World → Prop} {w w0 : World} {F : Asn} {e size n : Nat} {z : Array Value} {vs : List Value} {ix : List Nat} (s : St w0 F w) (hv : ∀ v ∈ vs, v.cells.size = size) (hn : vs.length = n) (hix : ix = List.range' 0 n) (hm : n ≤ maxLen)
    (hk : ∀ v w', St w0 (F * own e size v n (vs.flatMap fun v => v.cells.toList)) w' → K v w') : EffW P (.bsl e n size z ix) vs K w := by
  subst hix hn
  have hl : ((Array.range (vs.length * size)).map fun i => z[i % z.size]!).size = vs.length * size := by simp
  have hfl : (vs.flatMap fun v => v.cells.toList).length = vs.length * size := by
    clear hl s hk hm
    induction vs with
    | nil => simp
    | cons v vs ih =>
      rw [List.flatMap_cons, List.length_append, ih (fun u hu => hv u (List.mem_cons_of_mem _ hu)), Array.length_toList, hv v (List.mem_cons_self ..), List.length_cons, Nat.succ_mul]; omega
  refine eff_bsl (cells := (vs.flatMap fun v => v.cells.toList).toArray) s ?_ fun b w' s' => hk _ w' (s'.own_mk (Nat.le_refl _) hm (by rw [List.size_toArray, hfl]) (by rw [← hfl]; exact List.take_length))
  have := fillN size vs 0 ((Array.range (vs.length * size)).map fun i => z[i % z.size]!).toList hv (by simp)
  rw [Array.toArray_toList] at this
  refine this.trans ?_
  rw [Nat.zero_mul, List.take_zero, List.nil_append, Nat.zero_add, List.drop_of_length_le (by rw [Array.length_toList, hl]; exact Nat.le_refl _), List.append_nil]
/-- .. of single values -/
theorem eff_bslO {P : Program} {K : Value → World → Prop} {w w0 : World} {F : Asn} {e n : Nat} {z : Array Value} {vs : List Value} {ix : List Nat} (s : St w0 F w) (hv : ∀ v ∈ vs, v.oneCell' = true) (hn : vs.length = n) (hix : ix = List.range' 0 n) (hm : n ≤ maxLen)
    (hk : ∀ v w', St w0 (F * own e 1 v n vs) w' → K v w') : EffW P (.bsl e n 1 z ix) vs K w := by
  have hc : ∀ v ∈ vs, v.cells = #[v] := fun v h => by
    have := hv v h
    cases v <;> first | rfl | (simp [Value.oneCell'] at this)
  refine eff_bslN s (fun v h => by rw [hc v h]; rfl) hn hix hm fun v w' s' => hk v w' ?_
  have e : (vs.flatMap fun v => v.cells.toList) = vs := by
    clear s hk hn hix hm s' hv
    induction vs with
    | nil => rfl
    | cons v vs ih => rw [List.flatMap_cons, hc v (List.mem_cons_self ..), ih fun u hu => hc u (List.mem_cons_of_mem _ hu)]; rfl
  rw [e] at s'
  exact s'
end Go.HL

namespace Go.HL
set_option linter.unusedSimpArgs false
set_option linter.unusedVariables false
section
variable {P : Program} {K : Value → World → Prop} {w w0 : World} {F : Asn}
theorem eff_app2 {t ty e size bytes : Nat} {z v : Value} {n m c : Nat} {xs news : List Value} {a : Addr} (s : St w0 (F * own e size v n xs) w)
    (hl : news.length = m * size) (hx : ∀ j u, news[j]? = some u → w.cell? (a.add j) = some u) (h1 : ∀ u ∈ news, u.oneCell' = true)
    (hsz : 0 < size) (hz : z.cells.size = size) (hm : 0 < m) (hmax : n + m ≤ maxLen) (hb : (n + m) * bytes ≤ 140737488355328)
    (hin : ∀ g cap w', v = .slice (some ⟨g, 0, none⟩) n cap → St w0 (F * own e size (.slice (some ⟨g, 0, none⟩) (n + m) cap) (n + m) (xs ++ news)) w' → K (.slice (some ⟨g, 0, none⟩) (n + m) cap) w')
    (hnew : ∀ v' w', St w0 (F * own e size v n xs * own e size v' (n + m) (xs ++ news)) w' → K v' w') : EffW P (.app t ty e size bytes z) [v, .slice (some a) m c] K w := by
  rintro ⟨ht, i, hi, hiz, rfl, rfl⟩
  have hsmall : n + m ≤ 9223372036854775807 := by simp only [maxLen] at hmax; omega
  have grown : ∀ old, old < n + m → xs.length = n * i.size →
      St w0 (F * own e i.size v n xs * HL.own e i.size (.slice (some ⟨w.heap.size, 0, none⟩) (n + m) (grownCap w (n + m) old e)) (n + m) (xs ++ news))
        (w.drew.alloc (.cells (xs.toArray ++ news.toArray ++ Builtin.zeroCells z.cells (grownCap w (n + m) old e - (n + m))) e)) := by
    intro old ho hxl
    have hge := grownCap_ge w (n + m) old e
    refine St.own_mk (s.drew.alloc (by rfl)) hge (grownCap_le_maxLen w (n + m) old e hmax) ?_ ?_
    · simp only [Array.size_append, List.size_toArray, size_zeroCells, hz, hxl, hl, ← Nat.add_mul]
      congr 1; omega
    · simp only [Array.toList_append, List.append_assoc]
      rw [← List.append_assoc, Nat.add_mul, ← hxl, ← hl, ← List.length_append]
      exact List.take_left
  obtain ⟨hxl, hc⟩ := s.own
  rcases hc with ⟨rfl, rfl, rfl, s'⟩ | ⟨g, cap, cur, rfl, hnc, hcm, hcs, htake, s'⟩
  · have hr := run_append_nil (P := P) w t ty e i z ht hi hiz a m c news hl hx (by omega) (by omega) (by have hb := hb; simp only [Nat.zero_add] at hb; omega)
    have hgr := grown 0 (by omega) (by simp)
    simp only [Nat.zero_add, List.nil_append, Array.empty_append] at hgr hnew
    exact upon_val hr (hnew _ _ hgr)
  · by_cases hroom : n + m ≤ cap
    · have hfit : n * i.size + news.length ≤ cur.size := by rw [hl, ← Nat.add_mul]; exact Nat.le_trans (Nat.mul_le_mul_right _ hroom) hcs
      have hr := run_append_room (P := P) w t ty e i ht hi g n cap cur s'.look a m c news hl hx h1 hroom hfit
      refine upon_val hr (hin _ _ _ rfl ((splice_turn (off := n * i.size) (vs := news) s').own_mk' hroom hcm ?_ ?_))
      · simp only [List.size_toArray, List.length_append, List.length_take, List.length_drop, Array.length_toList]
        omega
      · rw [htake, Nat.add_mul, ← hxl, ← hl, ← List.length_append]
        exact List.take_left
    · have holds : ∀ j u, xs[j]? = some u → w.cell? ((⟨g, 0, none⟩ : Addr).add j) = some u := by
        intro j u hu
        rcases s.own_cell with ⟨rfl, h⟩ | ⟨g', cap', h, _, hh⟩
        · simp at hu
        · cases h; rw [addr_add, Nat.zero_add]; exact hh j u hu
      have hr := run_append_grow (P := P) w t ty e i z ht hi hiz ⟨g, 0, none⟩ n cap xs hxl holds a m c news hl hx (by omega) (by omega) (growslice_fits (by omega) hb)
      exact upon_val hr (hnew _ _ (grown cap (by omega) hxl))
/-- a slice and what it was gone on with: the same memory, or two rows -/
def grw (e size : Nat) (v v' : Value) (n m : Nat) (xs ys : List Value) : Asn := fun h =>
  (∃ g cap, v = .slice (some ⟨g, 0, none⟩) n cap ∧ v' = .slice (some ⟨g, 0, none⟩) (n + m) cap ∧ xs.length = n * size ∧ own e size v' (n + m) (xs ++ ys) h) ∨
  (own e size v n xs * own e size v' (n + m) (xs ++ ys)) h
theorem St.grw {e size : Nat} {v v' : Value} {n m : Nat} {xs ys : List Value} (s : St w0 (F * HL.grw e size v v' n m xs ys) w) :
    (∃ g cap, v = .slice (some ⟨g, 0, none⟩) n cap ∧ v' = .slice (some ⟨g, 0, none⟩) (n + m) cap ∧ xs.length = n * size ∧ St w0 (F * HL.own e size v' (n + m) (xs ++ ys)) w) ∨
    St w0 (F * (HL.own e size v n xs * HL.own e size v' (n + m) (xs ++ ys))) w := by
  obtain ⟨g, h1, h2, h3, d, e', a, b⟩ := s.holds
  rcases b with ⟨g', cap, k1, k2, k3, k4⟩ | k
  · exact .inl ⟨g', cap, k1, k2, k3, s.of ⟨g, h1, h2, h3, d, e', a, k4⟩⟩
  · exact .inr (s.of ⟨g, h1, h2, h3, d, e', a, k⟩)
theorem grw_start {e size : Nat} {v : Value} {n : Nat} {xs : List Value} (s : St w0 (F * own e size v n xs) w) : St w0 (F * HL.grw e size v v n 0 xs []) w := by
  rcases s.own with ⟨hl, ⟨rfl, rfl, rfl, s'⟩ | ⟨g, cap, cur, rfl, h1, h2, h3, h4, s'⟩⟩
  · refine (s'.own_nil e size).own_nil e size |>.to (by ac_rfl) |>.mono (sep_mono (fun _ h => h) fun h hh => .inr (by simpa using hh))
  · exact s.mono (sep_mono (fun _ h => h) fun h hh => .inl ⟨g, cap, rfl, rfl, hl, by simpa using hh⟩)
theorem own_less {e size g n m cap : Nat} {xs ys : List Value} (hl : xs.length = n * size) {h : _} (hh : own e size (.slice (some ⟨g, 0, none⟩) (n + m) cap) (n + m) (xs ++ ys) h) : own e size (.slice (some ⟨g, 0, none⟩) n cap) n xs h := by
  refine ⟨hl, .inr ?_⟩
  rcases hh.2 with ⟨h1, _⟩ | ⟨g', cap', cur, h1, h2, h3, h4, h5, h6⟩
  · cases h1
  · cases h1
    refine ⟨g, cap, cur, rfl, by omega, h3, h4, ?_, h6⟩
    have : (cur.toList.take ((n + m) * size)).take (n * size) = (xs ++ ys).take (n * size) := by rw [h5]
    rw [List.take_take, Nat.min_eq_left (Nat.mul_le_mul_right _ (by omega)), ← hl, List.take_left] at this
    rw [← hl]; exact this
theorem eff_appG {t ty e size bytes : Nat} {z v v' : Value} {n m k c : Nat} {xs ys news : List Value} {a : Addr} (s : St w0 (F * HL.grw e size v v' n m xs ys) w)
    (hl : news.length = k * size) (hx : ∀ j u, news[j]? = some u → w.cell? (a.add j) = some u) (h1 : ∀ u ∈ news, u.oneCell' = true)
    (hsz : 0 < size) (hz : z.cells.size = size) (hm : 0 < k) (hmax : n + m + k ≤ maxLen) (hb : (n + m + k) * bytes ≤ 140737488355328)
    (hk : ∀ v'' w', St w0 (F * HL.grw e size v v'' n (m + k) xs (ys ++ news)) w' → K v'' w') : EffW P (.app t ty e size bytes z) [v', .slice (some a) k c] K w := by
  rcases s.grw with ⟨g, cap, rfl, rfl, hlx, s'⟩ | s'
  · refine eff_app2 s' hl hx h1 hsz hz hm hmax hb (fun g' cap' w' h s2 => ?_) (fun v'' w' s2 => ?_)
    · cases h
      rw [Nat.add_assoc] at s2 ⊢
      rw [List.append_assoc] at s2
      exact hk _ _ (s2.mono (sep_mono (fun _ h => h) fun h hh => .inl ⟨g, cap, rfl, rfl, hlx, hh⟩))
    · rw [Nat.add_assoc, List.append_assoc] at s2
      have s3 : St w0 (F * (own e size (.slice (some ⟨g, 0, none⟩) (n + m) cap) (n + m) (xs ++ ys) * own e size v'' (n + (m + k)) (xs ++ (ys ++ news)))) w' := s2.to (by ac_rfl)
      exact hk _ _ (s3.mono (sep_mono (fun _ h => h) fun h hh => .inr (sep_mono (fun h hh => own_less hlx hh) (fun _ h => h) h hh)))
  · have s3 : St w0 (F * own e size v n xs * own e size v' (n + m) (xs ++ ys)) w := s'.to (by ac_rfl)
    refine eff_app s3 hl hx h1 hsz hz hmax hb (fun v'' w' s2 => ?_)
    rw [Nat.add_assoc, List.append_assoc] at s2
    have s4 : St w0 (F * (own e size v n xs * own e size v'' (n + (m + k)) (xs ++ (ys ++ news)))) w' := s2.to (by ac_rfl)
    exact hk _ _ (s4.mono (sep_mono (fun _ h => h) fun h hh => .inr hh))
theorem grw_old {e size : Nat} {v v' : Value} {n m : Nat} {xs ys : List Value} (s : St w0 (F * HL.grw e size v v' n m xs ys) w) : ∃ X, St w0 (X * own e size v n xs) w := by
  rcases s.grw with ⟨g, cap, rfl, rfl, hlx, s'⟩ | s'
  · exact ⟨F, s'.mono (sep_mono (fun _ h => h) fun h hh => own_less hlx hh)⟩
  · exact ⟨F * own e size v' (n + m) (xs ++ ys), s'.to (by ac_rfl)⟩
theorem grw_new {e size : Nat} {v v' : Value} {n m : Nat} {xs ys : List Value} (s : St w0 (F * HL.grw e size v v' n m xs ys) w) : ∃ X, St w0 (X * own e size v' (n + m) (xs ++ ys)) w := by
  rcases s.grw with ⟨g, cap, rfl, rfl, hlx, s'⟩ | s'
  · exact ⟨F, s'⟩
  · exact ⟨F * own e size v n xs, s'.to (by ac_rfl)⟩
end
/-- a product by index -/
def prodA (f : Nat → Asn) : Nat → Asn
  | 0 => emp
  | n + 1 => prodA f n * f n
theorem prodA_congr {f g : Nat → Asn} : ∀ {n : Nat}, (∀ j, j < n → f j = g j) → prodA f n = prodA g n
  | 0, _ => rfl
  | n + 1, h => by
    show prodA f n * f n = prodA g n * g n
    rw [prodA_congr fun j hj => h j (by omega), h n (by omega)]
theorem emp_sep (A : Asn) : emp * A = A := by
  have : emp * A = A * emp := by ac_rfl
  rw [this, sep_emp]
theorem prodA_at {f : Nat → Asn} {i : Nat} : ∀ {n : Nat}, i < n → prodA f n = prodA (fun j => if j = i then emp else f j) n * f i
  | n + 1, h => by
    show prodA f n * f n = prodA (fun j => if j = i then emp else f j) n * (if n = i then emp else f n) * f i
    by_cases e : n = i
    · subst e
      rw [if_pos rfl, sep_emp, prodA_congr (f := fun j => if j = n then emp else f j) (g := f) fun j hj => if_neg (by omega)]
    · rw [if_neg e, prodA_at (f := f) (by omega : i < n)]; ac_rfl
section
variable {α : Type}
def bigA (F : Nat → α → Asn) (Y : Nat → α) (n : Nat) : Asn := prodA (fun j => F j (Y j)) n
def bigH (F : Nat → α → Asn) (Y : Nat → α) (i n : Nat) : Asn := prodA (fun j => if j = i then emp else F j (Y j)) n
def upF (Y : Nat → α) (i : Nat) (y : α) : Nat → α := fun j => if j = i then y else Y j
theorem big_at {F : Nat → α → Asn} {Y : Nat → α} {i n : Nat} (h : i < n) : bigA F Y n = bigH F Y i n * F i (Y i) := prodA_at h
theorem big_set {F : Nat → α → Asn} {Y : Nat → α} {i n : Nat} (h : i < n) (y : α) : bigA F (upF Y i y) n = bigH F Y i n * F i y := by
  rw [big_at h]
  have e : upF Y i y i = y := if_pos rfl
  rw [e]
  congr 1
  exact prodA_congr fun j hj => by
    by_cases e : j = i
    · rw [if_pos e, if_pos e]
    · rw [if_neg e, if_neg e]; simp only [upF, if_neg e]
theorem upF_at (Y : Nat → α) (i : Nat) (y : α) : upF Y i y i = y := if_pos rfl
theorem upF_ne (Y : Nat → α) {i j : Nat} (y : α) (h : j ≠ i) : upF Y i y j = Y j := if_neg h
theorem big_congr {β : Type} {F : Nat → α → Asn} {G : Nat → β → Asn} {Y : Nat → α} {Z : Nat → β} {n : Nat} (h : ∀ j, j < n → F j (Y j) = G j (Z j)) : bigA F Y n = bigA G Z n := prodA_congr h
end
end Go.HL
