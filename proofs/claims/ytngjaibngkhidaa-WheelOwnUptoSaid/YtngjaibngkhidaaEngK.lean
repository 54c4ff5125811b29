/-
  Maps with numbers for keys: asked, entered, deleted, counted, ranged over. Conditions: what is entered carries its stamp.
-/
import Derived.Test.YtngjaibngkhidaaEngF
import Derived.MapKept
namespace Go.HL
set_option maxRecDepth 4000
set_option linter.unusedSimpArgs false
set_option linter.unusedVariables false
/-! what there is, some of it not named -/
def exA {α : Type} (F : α → Asn) : Asn := fun h => ∃ a, F a h
theorem exA_open {α : Type} {w0 w : World} {A : Asn} {F : α → Asn} (s : St w0 (A * exA F) w) : ∃ a, St w0 (A * F a) w := by
  obtain ⟨g, h1, h2, h3, d, e, a, m, b⟩ := s.holds
  exact ⟨m, s.of ⟨g, h1, h2, h3, d, e, a, b⟩⟩
theorem exA_mk {α : Type} {w0 w : World} {A : Asn} {F : α → Asn} (x : α) (s : St w0 (A * F x) w) : St w0 (A * exA F) w := by
  obtain ⟨g, h1, h2, h3, d, e, a, b⟩ := s.holds
  exact s.of ⟨g, h1, h2, h3, d, e, a, x, b⟩
section
variable {P : Program} {F0 : PF P} {F : Asn} {K : Value → World → Prop} {w w0 : World}
/-- an entry: its key, its value, its stamp -/
structure En where
  k : Int
  v : Value
  b : Nat
def entA (es : List En) : Array MapEntry := (es.map fun e => (⟨.int .i64 e.k, e.v, e.b⟩ : MapEntry)).toArray
def getI : List En → Int → Option Value
  | [], _ => none
  | e :: r, k => if k = e.k then some e.v else getI r k
def setI : List En → Int → Value → List En
  | [], _, _ => []
  | e :: r, k, v => if k = e.k then ⟨e.k, v, e.b⟩ :: r else e :: setI r k v
def delI : List En → Int → List En
  | [], _ => []
  | e :: r, k => if k = e.k then r else e :: delI r k
def posI : List En → Int → Nat → Option Nat
  | [], _, _ => none
  | e :: r, k, i => if k = e.k then some i else posI r k (i + 1)
theorem find_int (k : Int) : ∀ (es : List En) (i : Nat), Instr.findNow (.int .i64) (.int .i64 k) (entA es).toList i = some ((posI es k i).bind fun j => (getI es k).map fun v => (j, v))
  | [], _ => rfl
  | e :: r, i => by
    have h := find_int k r (i + 1)
    simp only [entA, List.toList_toArray] at h
    simp only [entA, List.toList_toArray, List.map_cons, Instr.findNow, Instr.sameNow, if_true, posI, getI]
    by_cases hk : k = e.k
    · subst hk; simp
    · simp only [beq_eq_false_iff_ne.2 hk, hk, if_false]
      exact h
theorem pos_get (k : Int) : ∀ (es : List En) (i : Nat), (posI es k i).isSome = (getI es k).isSome
  | [], _ => rfl
  | e :: r, i => by
    simp only [posI, getI]
    split
    · rfl
    · exact pos_get k r (i + 1)
theorem pos_ge (k : Int) : ∀ (es : List En) (i j : Nat), posI es k i = some j → i ≤ j
  | [], _, _, h => by cases h
  | e :: r, i, j, h => by
    simp only [posI] at h
    split at h
    · cases h; exact Nat.le_refl _
    · have := pos_ge k r _ _ h; omega
theorem set_at (k : Int) (v : Value) : ∀ (es : List En) (i j : Nat), posI es k i = some j → (entA es).modify (j - i) (fun e => { e with key := .int .i64 k, val := v }) = entA (setI es k v)
  | [], _, _, h => by cases h
  | e :: r, i, j, h => by
    simp only [posI] at h
    apply Array.ext'
    by_cases hk : k = e.k
    · rw [if_pos hk] at h
      cases h
      subst hk
      simp [entA, setI, Array.toList_modify, List.modify]
    · rw [if_neg hk] at h
      have hge := pos_ge k r _ _ h
      have ih := congrArg Array.toList (set_at k v r _ _ h)
      obtain ⟨d, rfl⟩ : ∃ d, j = i + 1 + d := ⟨j - (i + 1), by omega⟩
      have e1 : i + 1 + d - i = d + 1 := by omega
      have e2 : i + 1 + d - (i + 1) = d := by omega
      rw [e2] at ih
      rw [e1]
      simp only [entA, Array.toList_modify, List.toList_toArray, List.map_cons, setI, hk, if_false, List.modify_succ_cons, List.cons.injEq, true_and] at ih ⊢
      exact ih
theorem del_at (k : Int) : ∀ (es : List En) (i j : Nat), posI es k i = some j → (entA es).eraseIdxIfInBounds (j - i) = entA (delI es k)
  | [], _, _, h => by cases h
  | e :: r, i, j, h => by
    simp only [posI] at h
    apply Array.ext'
    by_cases hk : k = e.k
    · rw [if_pos hk] at h
      cases h
      subst hk
      simp [entA, delI, Array.eraseIdxIfInBounds]
    · rw [if_neg hk] at h
      have hge := pos_ge k r _ _ h
      have ih := congrArg Array.toList (del_at k r _ _ h)
      obtain ⟨d, rfl⟩ : ∃ d, j = i + 1 + d := ⟨j - (i + 1), by omega⟩
      have e1 : i + 1 + d - i = d + 1 := by omega
      have e2 : i + 1 + d - (i + 1) = d := by omega
      have key : ∀ (l : List MapEntry) (n : Nat), (l.toArray.eraseIdxIfInBounds n).toList = l.eraseIdx n := by
        intro l n
        unfold Array.eraseIdxIfInBounds
        split
        · simp
        · rename_i hh
          rw [List.eraseIdx_of_length_le (by simpa using hh)]
      simp only [e2, entA, key] at ih
      simp only [e1, entA, key, List.map_cons, delI, hk, if_false, List.eraseIdx_cons_succ, List.toList_toArray, List.cons.injEq, true_and]
      simpa using ih
structure MapI (P : Program) (t kt ke : TypeId) (z : Value) : Prop where
  ty : P.underlying t = some (.map kt ke)
  key : P.underlying kt = some (.int .i64)
  zero : (P.info? ke).bind (·.zero) = some z
abbrev imap (m : Nat) (es : List En) (c : Nat) : Asn := pt m (.map (entA es) c)
variable {t kt ke : TypeId} {z : Value}
theorem chkI (T : MapI P t kt ke z) (e : Bool) (k : Int) : (Instr.checkKey e 10000 kt (.int .i64 k)).run P w = .ok () w := MapKept.run_checkKey (P := P) (w := w) T.key (show MapKept.IsKey (.int .i64) (.int .i64 k) from rfl) e 9999
theorem fndI (T : MapI P t kt ke z) (k : Int) (es : List En) : (Instr.findKey kt (.int .i64 k) (entA es).toList).run P w = .ok ((posI es k 0).bind fun j => (getI es k).map fun v => (j, v)) w := MapKept.run_findKey (P := P) (w := w) T.key (find_int k es 0)
theorem zrI (T : MapI P t kt ke z) : (zeroValue ke).run P w = .ok z w := by
  obtain ⟨i, hi, hz⟩ := Option.bind_eq_some_iff.1 T.zero
  simp [zeroValue, typeInfo, hi, hz]
theorem get_pos {es : List En} {k : Int} : ((posI es k 0).bind fun j => (getI es k).map fun v => (j, v)).map (·.2) = getI es k := by
  have := pos_get k es 0
  cases hp : posI es k 0 with
  | none => rw [hp] at this; cases hg : getI es k with
    | none => rfl
    | some v => rw [hg] at this; cases this
  | some j => cases hg : getI es k <;> rfl
theorem lookI_run (T : MapI P t kt ke z) {m : Nat} {es : List En} {c : Nat} (hb : w.heap[m]? = some (.map (entA es) c)) (k : Int) (ok : Bool) :
    (Instr.lookup t (.map (some m)) (.int .i64 k) ok).run P w = .ok (if ok then .tuple #[(getI es k).getD z, .bool (getI es k).isSome] else (getI es k).getD z) w := by
  have hg := get_pos (es := es) (k := k)
  simp only [Instr.lookup, Sem.run_bind, run_underlying T.ty, MapKept.run_getObj_map hb, Result.andThen_ok, Sem.run_pure, chkI T, fndI T]
  cases hf : ((posI es k 0).bind fun j => (getI es k).map fun v => (j, v)) with
  | none => rw [hf] at hg; rw [← hg]; simp [zrI T]
  | some q => rw [hf] at hg; rw [← hg]; simp
theorem lookI_nil (T : MapI P t kt ke z) (k : Int) (ok : Bool) :
    (Instr.lookup t (.map none) (.int .i64 k) ok).run P w = .ok (if ok then .tuple #[z, .bool false] else z) w := by
  have hf := fndI (w := w) T k []
  have he : (entA []).toList = [] := rfl
  rw [he] at hf
  simp only [Instr.lookup, Sem.run_bind, run_underlying T.ty, Result.andThen_ok, Sem.run_pure, chkI T, List.toList_toArray, hf]
  simp [posI, zrI T]
theorem eff_lookI (T : MapI P t kt ke z) {m : Nat} {es : List En} {c : Nat} (hb : w.heap[m]? = some (.map (entA es) c)) {k : Int} (hk : K ((getI es k).getD z) w) : EffW P (.look t false) [.map (some m), .int .i64 k] K w := by
  intro _
  exact upon_val (lookI_run T hb k false) hk
theorem eff_lookI2 (T : MapI P t kt ke z) {m : Nat} {es : List En} {c : Nat} (hb : w.heap[m]? = some (.map (entA es) c)) {k : Int} (hk : K (.tuple #[(getI es k).getD z, .bool (getI es k).isSome]) w) : EffW P (.look t true) [.map (some m), .int .i64 k] K w := by
  intro _
  exact upon_val (lookI_run T hb k true) hk
theorem effm_lookI {C : List Value → World → Prop} {n : Nat} {vs : List Value} (T : MapI P t kt ke z) {m : Nat} {es : List En} {c : Nat} {k : Int} {K : Value → List Value → Prop}
    (hb : ∀ vs' w, era n vs' = era n vs → C vs' w → w.heap[m]? = some (.map (entA es) c)) (hk : K ((getI es k).getD z) vs) : EffM F0 C n (.look t false) [.map (some m), .int .i64 k] vs K :=
  effm_val (s := Instr.lookup t (.map (some m)) (.int .i64 k) false) rfl (fun vs' w he hw => lookI_run T (hb vs' w he hw) k false) hk
/-- a new map -/
theorem eff_mkmI (s : St w0 F w) (hk : ∀ b w', St w0 (F * imap b [] 0) w' → K (.map (some b)) w') : EffW P (.mkm t false) [] K w := by
  intro _
  refine upon_val (s := Instr.makeMap t none) (v := .map (some w.heap.size)) (w' := w.alloc (.map (entA []) 0)) ?_ (hk _ _ (s.alloc trivial))
  simp [Instr.makeMap, newObj, Sem.run, entA, Sem.bind]
theorem turnM {m : Nat} {o : Obj} {es' : List En} {c' : Nat} (s : St w0 (F * pt m o) w) : St w0 (F * imap m es' c') { w with heap := w.heap.setIfInBounds m (.map (entA es') c') } := by
  have hs := MapKept.heap_set (o' := .map (entA es') c') s.look
  exact s.turn (o' := .map (entA es') c') hs.1 hs.2 (by simp) rfl rfl (fun _ _ _ h => by cases h)
/-- a new key is entered -/
theorem eff_updI (T : MapI P t kt ke z) {m : Nat} {es : List En} {c : Nat} {k : Int} {v : Value} (s : St w0 (F * imap m es c) w) (hn : getI es k = none)
    (hk : ∀ w', St w0 (F * imap m (es ++ [⟨k, v, c⟩]) (c + 1)) w' → K undef w') : EffW P (.upd t) [.map (some m), .int .i64 k, v] K w := by
  intro _
  refine upon_unit (s := Instr.mapUpdate t (.map (some m)) (.int .i64 k) v) ?_ (hk _ (turnM s))
  have hb := s.look
  have hp : posI es k 0 = none := by
    have := pos_get k es 0
    rw [hn] at this
    simpa using this
  have he : (entA es).push ⟨.int .i64 k, v, c⟩ = entA (es ++ [⟨k, v, c⟩]) := by apply Array.ext'; simp [entA]
  simp only [Instr.mapUpdate, Sem.run_bind, run_underlying T.ty, MapKept.run_getObj_map hb, Result.andThen_ok, chkI T, fndI T, hp, Option.bind_none, he]
  rw [MapKept.run_setObj_map _ hb]
/-- another value for a key -/
theorem eff_updI2 (T : MapI P t kt ke z) {m : Nat} {es : List En} {c : Nat} {k : Int} {v u : Value} (s : St w0 (F * imap m es c) w) (hn : getI es k = some u)
    (hk : ∀ w', St w0 (F * imap m (setI es k v) c) w' → K undef w') : EffW P (.upd t) [.map (some m), .int .i64 k, v] K w := by
  intro _
  refine upon_unit (s := Instr.mapUpdate t (.map (some m)) (.int .i64 k) v) ?_ (hk _ (turnM s))
  have hb := s.look
  obtain ⟨j, hp⟩ : ∃ j, posI es k 0 = some j := by
    have := pos_get k es 0
    rw [hn] at this
    exact Option.isSome_iff_exists.1 this
  have hs := set_at k v es 0 j hp
  rw [Nat.sub_zero] at hs
  have hkey : ((entA es)[j]?.map (·.key)).getD (.int .i64 k) = .int .i64 k := by
    have key : ∀ (es : List En) (i j : Nat), posI es k i = some j → ∀ e, es[j - i]? = some e → e.k = k := by
      intro es
      induction es with
      | nil => intro i j h; cases h
      | cons x r ih =>
        intro i j h e he
        simp only [posI] at h
        split at h
        · rename_i hx
          cases h
          simp only [Nat.sub_self, List.getElem?_cons_zero, Option.some.injEq] at he
          rw [← he, hx]
        · have hge := pos_ge k r _ _ h
          refine ih (i + 1) j h e ?_
          have : j - i = (j - (i + 1)) + 1 := by omega
          rw [this, List.getElem?_cons_succ] at he
          exact he
    cases hj : es[j]? with
    | none => simp [entA, hj]
    | some e =>
      have := key es 0 j hp e (by simpa using hj)
      simp [entA, hj, this]
  simp only [Instr.mapUpdate, Sem.run_bind, run_underlying T.ty, MapKept.run_getObj_map hb, Result.andThen_ok, chkI T, fndI T, hp, hn, Option.bind_some, Option.map_some, hkey]
  rw [MapKept.run_keyThatStays (show MapKept.IsKey (.int .i64) (.int .i64 k) from rfl)]
  simp only [Result.andThen_ok, hs]
  rw [MapKept.run_setObj_map _ hb]
theorem del_none : ∀ (es : List En) (k : Int), getI es k = none → delI es k = es
  | [], _, _ => rfl
  | e :: r, k, h => by
    simp only [getI] at h
    split at h
    · cases h
    · rename_i hk; simp only [delI, hk, if_false, del_none r k h]
/-- a key is deleted -/
theorem eff_delI {kt' ty : TypeId} {cs : Array Bool} (T : MapI P t kt ke z) {m : Nat} {es : List En} {c : Nat} {k : Int} (s : St w0 (F * imap m es c) w)
    (hk : ∀ w', St w0 (F * imap m (delI es k) c) w' → K (.tuple #[]) w') : EffW P (.bi .delete #[t, kt'] ty cs) [.map (some m), .int .i64 k] K w := by
  intro _
  refine upon_val (s := Builtin.delete_ #[t, kt'] ty #[.map (some m), .int .i64 k]) ?_ (hk _ (turnM s))
  have hb := s.look
  simp only [Builtin.delete_, List.getElem?_toArray, List.getElem?_cons_zero, List.getElem?_cons_succ, Sem.run_bind, run_underlying T.ty, MapKept.run_getObj_map hb, Result.andThen_ok, chkI T, fndI T]
  cases hp : posI es k 0 with
  | none =>
    have hn : getI es k = none := by
      have := pos_get k es 0
      rw [hp] at this
      simpa using this.symm
    simp only [Option.bind_none, del_none es k hn, Sem.run_bind]
    rw [MapKept.run_setObj_map _ hb]
    simp
  | some j =>
    obtain ⟨v, hv⟩ : ∃ v, getI es k = some v := by
      have := pos_get k es 0
      rw [hp] at this
      exact Option.isSome_iff_exists.1 this.symm
    have hs := del_at k es 0 j hp
    rw [Nat.sub_zero] at hs
    simp only [hv, Option.bind_some, Option.map_some, hs, Sem.run_bind]
    rw [MapKept.run_setObj_map _ hb]
    simp
/-- how many there are -/
theorem eff_lenI {ty : TypeId} {cs : Array Bool} (hu : P.underlying t = some (.map kt ke)) {m : Nat} {es : List En} {c : Nat} (hb : w.heap[m]? = some (.map (entA es) c))
    (hk : K (.int .i64 es.length) w) : EffW P (.bi .len #[t] ty cs) [.map (some m)] K w := by
  intro _
  refine upon_val (s := Builtin.len_ #[t] ty #[.map (some m)]) ?_ hk
  simp only [Builtin.len_, List.getElem?_toArray, List.getElem?_cons_zero, Sem.run_bind, run_underlying hu, MapKept.run_getObj_map hb, Result.andThen_ok, Sem.run_pure, goInt]
  simp [entA]
theorem eff_lenN {ty : TypeId} {cs : Array Bool} (hu : P.underlying t = some (.map kt ke)) (hk : K (.int .i64 0) w) : EffW P (.bi .len #[t] ty cs) [.map none] K w := by
  intro _
  refine upon_val (s := Builtin.len_ #[t] ty #[.map none]) ?_ hk
  simp [Builtin.len_, run_underlying hu, goInt]
/-- an iterator -/
theorem eff_rngI (hu : P.underlying t = some (.map kt ke)) {m : Nat} {es : List En} {c : Nat} (s : St w0 F w) (hb : w.heap[m]? = some (.map (entA es) c))
    (hk : ∀ b w', St w0 (F * pt b (.mapIter (some m) c #[] c)) w' → K (.pointer (some ⟨b, 0, none⟩)) w') : EffW P (.rng t) [.map (some m)] K w := by
  intro _
  refine upon_val (s := Instr.range t (.map (some m))) ?_ (hk _ _ (s.alloc trivial))
  simp [Instr.range, run_underlying hu, MapKept.run_getObj_map hb, Result.andThen]
theorem eff_rngN (hu : P.underlying t = some (.map kt ke)) (s : St w0 F w)
    (hk : ∀ b w', St w0 (F * pt b (.mapIter none 0 #[] 0)) w' → K (.pointer (some ⟨b, 0, none⟩)) w') : EffW P (.rng t) [.map none] K w := by
  intro _
  refine upon_val (s := Instr.range t (.map none)) ?_ (hk _ _ (s.alloc trivial))
  simp [Instr.range, run_underlying hu, Result.andThen]
theorem eff_nxtN {ty : TypeId} {b : Nat} (s : St w0 (F * pt b (.mapIter none 0 #[] 0)) w) (hk : K (.tuple #[.bool false]) w) : EffW P (.nxt false ty) [.pointer (some ⟨b, 0, none⟩)] K w := by
  intro _
  have hb := s.look
  refine upon_val (w' := w) ?_ hk
  simp [Instr.next, getObj, Sem.run, hb]
theorem run_getIter {r : Nat} {m : Option Nat} {a c : Nat} {seen : Array Nat} (hb : w.heap[r]? = some (.mapIter m a seen c)) : (getObj r).run P w = .ok (.mapIter m a seen c) w := by
  simp [getObj, Sem.run, hb]
theorem run_setIter {r : Nat} {m : Option Nat} {a c : Nat} {seen : Array Nat} (o : Obj) (hb : w.heap[r]? = some (.mapIter m a seen c)) : (setObj r o).run P w = .ok () { w with heap := w.heap.setIfInBounds r o } := by
  simp [setObj, Sem.run, hb]
theorem choose_lt (n : Nat) (hn : 0 < n) : ∃ i w', i < n ∧ (choose (.mapNext n)).run P w = .ok i w' ∧ (w' = w ∨ w' = w.drew) := by
  rw [run_choose_drew]
  by_cases h : n ≤ 1
  · exact ⟨0, w, hn, by simp [Question.forced, h], .inl rfl⟩
  · exact ⟨_, w.drew, Nat.mod_lt (w.tape w.drawn (.mapNext n)) hn, by simp [Question.forced, h, Question.cut], .inr rfl⟩
def leftE (es : List En) (seen : Array Nat) : List En := es.filter fun e => !seen.contains e.b
theorem left_entA (es : List En) (seen : Array Nat) : ((entA es).filter fun e => !seen.contains e.born) = entA (leftE es seen) := by
  apply Array.ext'
  simp only [entA, leftE, Array.toList_filter, List.toList_toArray, List.filter_map]
  rfl
theorem old_all {es : List En} {c : Nat} (h : ∀ e ∈ es, e.b < c) : ((entA es).filter fun e => decide (e.born < c)) = entA es := by
  apply Array.ext'
  simp only [entA, Array.toList_filter, List.toList_toArray]
  refine List.filter_eq_self.2 fun x hx => ?_
  obtain ⟨e, he, rfl⟩ := List.mem_map.1 hx
  exact decide_eq_true (h e he)
theorem new_none {es : List En} {c : Nat} (h : ∀ e ∈ es, e.b < c) : ((entA es).filter fun e => decide (e.born ≥ c)) = #[] := by
  apply Array.ext'
  simp only [entA, Array.toList_filter, List.toList_toArray]
  refine List.filter_eq_nil_iff.2 fun x hx => ?_
  obtain ⟨e, he, rfl⟩ := List.mem_map.1 hx
  have := h e he
  simp; omega
/-- the next entry, any of those that have not come; or there is none left (nothing was entered since) -/
theorem eff_nxtI {ty : TypeId} {b m : Nat} {es : List En} {c : Nat} {seen : Array Nat} (s : St w0 (F * imap m es c * pt b (.mapIter (some m) c seen c)) w) (hc : ∀ e ∈ es, e.b < c)
    (hk1 : ∀ e ∈ es, e.b ∉ seen → ∀ w', St w0 (F * imap m es c * pt b (.mapIter (some m) c (seen.push e.b) c)) w' → K (.tuple #[.bool true, .int .i64 e.k, e.v]) w')
    (hk2 : (∀ e ∈ es, e.b ∈ seen) → ∀ w', St w0 (F * imap m es c * pt b (.mapIter (some m) c seen c)) w' → K (.tuple #[.bool false]) w') : EffW P (.nxt false ty) [.pointer (some ⟨b, 0, none⟩)] K w := by
  intro _
  have hi := s.look
  have hm := s.swap.look
  have hlt : ∀ e ∈ leftE es seen, e.b < c := fun e he => hc e (List.mem_filter.1 he).1
  have hall : (!seen.isEmpty && !(entA es).isEmpty && (entA es).all fun x => decide (x.born ≥ c)) = false := by
    cases es with
    | nil => simp [entA]
    | cons e r =>
      have := hc e (.head _)
      have hf : ((entA (e :: r)).all fun x => decide (x.born ≥ c)) = false := by
        have : ¬ c ≤ e.b := by omega
        simp [entA, this]
      rw [hf, Bool.and_false]
  by_cases hl : leftE es seen = []
  · have hno : ∀ e ∈ es, e.b ∈ seen := fun e he => by
      have := List.filter_eq_nil_iff.1 hl e he
      simpa using this
    refine upon_val (s := Instr.next (.pointer (some ⟨b, 0, none⟩)) false ty) (w' := w) ?_ (hk2 hno w s)
    have hch : (choose (.mapNext 1)).run P w = .ok 0 w := by rw [run_choose_drew]; simp [Question.forced]
    simp only [Instr.next, Sem.run_bind, run_getIter hi, Result.andThen_ok, MapKept.run_getObj_map hm, hall, Sem.run_ite, left_entA, old_all hlt, new_none hlt, hl]
    simp [entA, hch, Question.forced]
  · have hpos : 0 < (leftE es seen).length := List.length_pos_iff.2 hl
    obtain ⟨i, w1, hil, hch, hw1⟩ := choose_lt (P := P) (w := w) (leftE es seen).length hpos
    have hmem := List.getElem_mem hil
    obtain ⟨hme, hns⟩ := List.mem_filter.1 hmem
    have hns : (leftE es seen)[i].b ∉ seen := by simpa using hns
    have s1 : St w0 (F * imap m es c * pt b (.mapIter (some m) c seen c)) w1 := by rcases hw1 with rfl | rfl; exact s; exact s.drew
    have hi1 := s1.look
    have hs := MapKept.heap_set (o' := .mapIter (some m) c (seen.push (leftE es seen)[i].b) c) hi1
    refine upon_val (s := Instr.next (.pointer (some ⟨b, 0, none⟩)) false ty) (w' := { w1 with heap := w1.heap.setIfInBounds b (.mapIter (some m) c (seen.push (leftE es seen)[i].b) c) }) ?_ (hk1 _ hme hns _ (s1.turn (o' := .mapIter (some m) c (seen.push (leftE es seen)[i].b) c) hs.1 hs.2 (by simp) rfl rfl (fun _ _ _ h => by cases h)))
    have hne : (entA (leftE es seen)).isEmpty = false := by
      cases hq : leftE es seen with
      | nil => exact absurd hq hl
      | cons _ _ => simp [entA]
    have hsz : (entA (leftE es seen)).size = (leftE es seen).length := by simp [entA]
    simp only [Instr.next, Sem.run_bind, run_getIter hi, Result.andThen_ok, MapKept.run_getObj_map hm, hall, Sem.run_ite, left_entA, old_all hlt, new_none hlt, hne]
    simp only [Array.size_append, Array.size_map, hsz, Array.size_empty, Nat.zero_add, if_false, Array.append_empty, Array.empty_append, Bool.false_eq_true, Sem.run_bind, hch, Result.andThen_ok]
    simp [hsz, hch, entA, hil, run_setIter _ hi1]
/-- what stands at the entry that came last -/
theorem eff_ent {b m : Nat} {es : List En} {a c : Nat} {seen : Array Nat} {e : En} (s : St w0 (F * imap m es c * pt b (.mapIter (some m) a (seen.push e.b) c)) w) (he : e ∈ es) (hn : (es.map (·.b)).Nodup)
    (hk : K (.tuple #[.int .i64 e.k, e.v]) w) : EffW P .ent [.pointer (some ⟨b, 0, none⟩)] K w := by
  intro _
  have hi := s.look
  have hm := s.swap.look
  have hf : (entA es).find? (fun x => x.born == e.b) = some ⟨.int .i64 e.k, e.v, e.b⟩ := by
    have key : ∀ (es : List En), e ∈ es → (es.map (·.b)).Nodup → (es.map fun e => (⟨.int .i64 e.k, e.v, e.b⟩ : MapEntry)).find? (fun x => x.born == e.b) = some ⟨.int .i64 e.k, e.v, e.b⟩ := by
      intro es
      induction es with
      | nil => intro h; cases h
      | cons x r ih =>
        intro h hn
        rw [List.map_cons, List.nodup_cons] at hn
        by_cases hx : x.b = e.b
        · rcases List.mem_cons.1 h with rfl | h
          · simp
          · exact absurd (List.mem_map.2 ⟨e, h, hx.symm⟩) hn.1
        · rcases List.mem_cons.1 h with rfl | h
          · exact absurd rfl hx
          · rw [List.map_cons, List.find?_cons_of_neg (by simpa using hx)]
            exact ih h hn.2
    simpa [entA] using key es he hn
  refine upon_val (s := Instr.entry (.pointer (some ⟨b, 0, none⟩))) (w' := w) ?_ hk
  simp only [Instr.entry, Sem.run_bind, run_getIter hi, Result.andThen_ok, Array.back?_push, MapKept.run_getObj_map hm, hf]
  simp
end
/-! a map's entries, as what they answer -/
structure okE (es : List En) (c : Nat) : Prop where
  lt : ∀ e ∈ es, e.b < c
  bn : (es.map (·.b)).Nodup
  kn : (es.map (·.k)).Nodup
theorem okE_nil (c : Nat) : okE [] c := ⟨by simp, by simp, by simp⟩
theorem getI_none {es : List En} {k : Int} : getI es k = none ↔ ∀ e ∈ es, e.k ≠ k := by
  induction es with
  | nil => simp [getI]
  | cons e r ih =>
    simp only [getI]
    split
    · rename_i h; subst h; simp
    · rename_i h
      rw [ih]
      constructor
      · intro hr x hx
        rcases List.mem_cons.1 hx with rfl | hx
        · exact fun g => h g.symm
        · exact hr x hx
      · intro hr x hx; exact hr x (List.mem_cons_of_mem _ hx)
theorem getI_mem {es : List En} {k : Int} {v : Value} (h : getI es k = some v) : ∃ e ∈ es, e.k = k ∧ e.v = v := by
  induction es with
  | nil => cases h
  | cons e r ih =>
    simp only [getI] at h
    split at h
    · rename_i hk; cases h; exact ⟨e, .head _, hk.symm, rfl⟩
    · obtain ⟨x, hx, h1⟩ := ih h; exact ⟨x, .tail _ hx, h1⟩
theorem getI_of {es : List En} (hn : (es.map (·.k)).Nodup) {e : En} (h : e ∈ es) : getI es e.k = some e.v := by
  induction es with
  | nil => cases h
  | cons x r ih =>
    rw [List.map_cons, List.nodup_cons] at hn
    simp only [getI]
    rcases List.mem_cons.1 h with rfl | h
    · simp
    · rw [if_neg (fun hk => hn.1 (List.mem_map.2 ⟨e, h, hk⟩))]
      exact ih hn.2 h
theorem okE_push {es : List En} {c : Nat} (h : okE es c) {k : Int} (hk : getI es k = none) (v : Value) : okE (es ++ [⟨k, v, c⟩]) (c + 1) := by
  refine ⟨fun e he => ?_, ?_, ?_⟩
  · rcases List.mem_append.1 he with he | he
    · have := h.lt e he; omega
    · have : e = ⟨k, v, c⟩ := by simpa using he
      subst this; exact Nat.lt_succ_self _
  · rw [List.map_append, List.nodup_append]
    refine ⟨h.bn, by simp, fun x hx y hy => ?_⟩
    obtain ⟨e, he, rfl⟩ := List.mem_map.1 hx
    have : y = c := by simpa using hy
    have := h.lt e he
    omega
  · rw [List.map_append, List.nodup_append]
    refine ⟨h.kn, by simp, fun x hx y hy => ?_⟩
    obtain ⟨e, he, rfl⟩ := List.mem_map.1 hx
    have : y = k := by simpa using hy
    rw [this]
    exact getI_none.1 hk e he
theorem delI_sub (k : Int) : ∀ es : List En, (delI es k).Sublist es
  | [] => .slnil
  | e :: r => by
    simp only [delI]
    split
    · exact List.sublist_cons_self _ _
    · exact (delI_sub k r).cons_cons _
theorem okE_del {es : List En} {c : Nat} (h : okE es c) (k : Int) : okE (delI es k) c :=
  ⟨fun e he => h.lt e ((delI_sub k es).subset he), h.bn.sublist ((delI_sub k es).map _), h.kn.sublist ((delI_sub k es).map _)⟩
theorem delI_eq {es : List En} (hn : (es.map (·.k)).Nodup) (k : Int) : delI es k = es.filter fun e => decide (e.k ≠ k) := by
  induction es with
  | nil => rfl
  | cons e r ih =>
    rw [List.map_cons, List.nodup_cons] at hn
    simp only [delI]
    split
    · rename_i h
      subst h
      rw [List.filter_cons_of_neg (by simp)]
      symm
      refine List.filter_eq_self.2 fun x hx => decide_eq_true fun g => hn.1 (List.mem_map.2 ⟨x, hx, g⟩)
    · rename_i h
      rw [List.filter_cons_of_pos (by simpa using fun g : e.k = k => h g.symm), ih hn.2]
theorem getI_del {es : List En} (hn : (es.map (·.k)).Nodup) (k j : Int) : getI (delI es k) j = if j = k then none else getI es j := by
  rw [delI_eq hn]
  induction es with
  | nil => simp [getI]
  | cons e r ih =>
    rw [List.map_cons, List.nodup_cons] at hn
    by_cases h : e.k = k
    · rw [List.filter_cons_of_neg (by simpa using h), ih hn.2]
      by_cases hj : j = k
      · simp [hj]
      · have hne : ¬ j = e.k := fun g => hj (g.trans h)
        simp [hj, getI, hne]
    · rw [List.filter_cons_of_pos (by simpa using h)]
      simp only [getI, ih hn.2]
      by_cases hj : j = e.k
      · have hne : ¬ j = k := fun g => h (hj.symm.trans g)
        rw [if_pos hj, if_pos hj, if_neg hne]
      · rw [if_neg hj, if_neg hj]
theorem getI_push (es : List En) (k : Int) (v : Value) (c : Nat) (hk : getI es k = none) (j : Int) : getI (es ++ [⟨k, v, c⟩]) j = if j = k then some v else getI es j := by
  induction es with
  | nil => simp [getI]
  | cons e r ih =>
    simp only [getI] at hk
    split at hk
    · cases hk
    · rename_i hne
      simp only [List.cons_append, getI, ih hk]
      by_cases hj : j = e.k
      · have : ¬ j = k := fun g => hne (g.symm.trans hj)
        rw [if_pos hj, if_neg this, if_pos hj]
      · rw [if_neg hj, if_neg hj]
end Go.HL
