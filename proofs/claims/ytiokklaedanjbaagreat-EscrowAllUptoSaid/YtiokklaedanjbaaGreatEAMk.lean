/-
  What the claim leans on, part 11 of 16. Conditions: as each theorem says.
-/
import Derived.Test.YtiokklaedanjbaaGreatEAMj
import Derived.MapKept
namespace Go.HL
set_option maxRecDepth 4000
set_option linter.unusedSimpArgs false
set_option linter.unusedVariables false
def exA {α : Type} (F : α → Asn) : Asn := fun h => ∃ a, F a h
theorem exA_open {α : Type} {w0 w : World} {A : Asn} {F : α → Asn} (s : St w0 (A * exA F) w) : ∃ a, St w0 (A * F a) w := by
  obtain ⟨g, h1, h2, h3, d, e, a, m, b⟩ := s.holds
  exact ⟨m, s.of ⟨g, h1, h2, h3, d, e, a, b⟩⟩
theorem exA_mk {α : Type} {w0 w : World} {A : Asn} {F : α → Asn} (x : α) (s : St w0 (A * F x) w) : St w0 (A * exA F) w := by
  obtain ⟨g, h1, h2, h3, d, e, a, b⟩ := s.holds
  exact s.of ⟨g, h1, h2, h3, d, e, a, x, b⟩
section
variable {P : Program} {F0 : PF P} {F : Asn} {K : Value → World → Prop} {w w0 : World}
/-- an entry: its key, its value, its stamp -/
structure En where
  k : Int
  v : Value
  b : Nat
def entA (es : List En) : Array MapEntry := (es.map fun e => (⟨.int .i64 e.k, e.v, e.b⟩ : MapEntry)).toArray
def getI : List En → Int → Option Value
  | [], _ => none
  | e :: r, k => if k = e.k then some e.v else getI r k
def setI : List En → Int → Value → List En
  | [], _, _ => []
  | e :: r, k, v => if k = e.k then ⟨e.k, v, e.b⟩ :: r else e :: setI r k v
def delI : List En → Int → List En
  | [], _ => []
  | e :: r, k => if k = e.k then r else e :: delI r k
def posI : List En → Int → Nat → Option Nat
  | [], _, _ => none
  | e :: r, k, i => if k = e.k then some i else posI r k (i + 1)
theorem find_int (k : Int) : ∀ (es : List En) (i : Nat), Instr.findNow (.int .i64) (.int .i64 k) (entA es).toList i = some ((posI es k i).bind fun j => (getI es k).map fun v => (j, v))
  | [], _ => rfl
  | e :: r, i => by
    have h := find_int k r (i + 1)
    simp only [entA, List.toList_toArray] at h
    simp only [entA, List.toList_toArray, List.map_cons, Instr.findNow, Instr.sameNow, if_true, posI, getI]
    by_cases hk : k = e.k
    · subst hk; simp
    · simp only [beq_eq_false_iff_ne.2 hk, hk, if_false]
      exact h
theorem pos_get (k : Int) : ∀ (es : List En) (i : Nat), (posI es k i).isSome = (getI es k).isSome
  | [], _ => rfl
  | e :: r, i => by
    simp only [posI, getI]
    split
    · rfl
    · exact pos_get k r (i + 1)
theorem pos_ge (k : Int) : ∀ (es : List En) (i j : Nat), posI es k i = some j → i ≤ j
  | [], _, _, h => by cases h
  | e :: r, i, j, h => by
    simp only [posI] at h
    split at h
    · cases h; exact Nat.le_refl _
    · have := pos_ge k r _ _ h; omega
theorem set_at (k : Int) (v : Value) : ∀ (es : List En) (i j : Nat), posI es k i = some j → (entA es).modify (j - i) (fun e => { e with key := .int .i64 k, val := v }) = entA (setI es k v)
  | [], _, _, h => by cases h
  | e :: r, i, j, h => by
    simp only [posI] at h
    apply Array.ext'
    by_cases hk : k = e.k
    · rw [if_pos hk] at h
      cases h
      subst hk
      simp [entA, setI, Array.toList_modify, List.modify]
    · rw [if_neg hk] at h
      have hge := pos_ge k r _ _ h
      have ih := congrArg Array.toList (set_at k v r _ _ h)
      obtain ⟨d, rfl⟩ : ∃ d, j = i + 1 + d := ⟨j - (i + 1), by omega⟩
      have e1 : i + 1 + d - i = d + 1 := by omega
      have e2 : i + 1 + d - (i + 1) = d := by omega
      rw [e2] at ih
      rw [e1]
      simp only [entA, Array.toList_modify, List.toList_toArray, List.map_cons, setI, hk, if_false, List.modify_succ_cons, List.cons.injEq, true_and] at ih ⊢
      exact ih
theorem del_at (k : Int) : ∀ (es : List En) (i j : Nat), posI es k i = some j → (entA es).eraseIdxIfInBounds (j - i) = entA (delI es k)
  | [], _, _, h => by cases h
  | e :: r, i, j, h => by
    simp only [posI] at h
    apply Array.ext'
    by_cases hk : k = e.k
    · rw [if_pos hk] at h
      cases h
      subst hk
      simp [entA, delI, Array.eraseIdxIfInBounds]
    · rw [if_neg hk] at h
      have hge := pos_ge k r _ _ h
      have ih := congrArg Array.toList (del_at k r _ _ h)
      obtain ⟨d, rfl⟩ : ∃ d, j = i + 1 + d := ⟨j - (i + 1), by omega⟩
      have e1 : i + 1 + d - i = d + 1 := by omega
      have e2 : i + 1 + d - (i + 1) = d := by omega
      have key : ∀ (l : List MapEntry) (n : Nat), (l.toArray.eraseIdxIfInBounds n).toList = l.eraseIdx n := by
        intro l n
        unfold Array.eraseIdxIfInBounds
        split
        · simp
        · rename_i hh
          rw [List.eraseIdx_of_length_le (by simpa using hh)]
      simp only [e2, entA, key] at ih
      simp only [e1, entA, key, List.map_cons, delI, hk, if_false, List.eraseIdx_cons_succ, List.toList_toArray, List.cons.injEq, true_and]
      simpa using ih
structure MapI (P : Program) (t kt ke : TypeId) (z : Value) : Prop where
  ty : P.underlying t = some (.map kt ke)
  key : P.underlying kt = some (.int .i64)
  zero : (P.info? ke).bind (·.zero) = some z
abbrev imap (m : Nat) (es : List En) (c : Nat) : Asn := pt m (.map (entA es) c)
variable {t kt ke : TypeId} {z : Value}
theorem chkI (T : MapI P t kt ke z) (e : Bool) (k : Int) : (Instr.checkKey e 10000 kt (.int .i64 k)).run P w = .ok () w := MapKept.run_checkKey (P := P) (w := w) T.key (show MapKept.IsKey (.int .i64) (.int .i64 k) from rfl) e 9999
theorem fndI (T : MapI P t kt ke z) (k : Int) (es : List En) : (Instr.findKey kt (.int .i64 k) (entA es).toList).run P w = .ok ((posI es k 0).bind fun j => (getI es k).map fun v => (j, v)) w := MapKept.run_findKey (P := P) (w := w) T.key (find_int k es 0)
theorem zrI (T : MapI P t kt ke z) : (zeroValue ke).run P w = .ok z w := by
  obtain ⟨i, hi, hz⟩ := Option.bind_eq_some_iff.1 T.zero
  simp [zeroValue, typeInfo, hi, hz]
theorem get_pos {es : List En} {k : Int} : ((posI es k 0).bind fun j => (getI es k).map fun v => (j, v)).map (·.2) = getI es k := by
  have := pos_get k es 0
  cases hp : posI es k 0 with
  | none => rw [hp] at this; cases hg : getI es k with
    | none => rfl
    | some v => rw [hg] at this; cases this
  | some j => cases hg : getI es k <;> rfl
theorem lookI_run (T : MapI P t kt ke z) {m : Nat} {es : List En} {c : Nat} (hb : w.heap[m]? = some (.map (entA es) c)) (k : Int) (ok : Bool) :
    (Instr.lookup t (.map (some m)) (.int .i64 k) ok).run P w = .ok (if ok then .tuple #[(getI es k).getD z, .bool (getI es k).isSome] else (getI es k).getD z) w := by
  have hg := get_pos (es := es) (k := k)
  simp only [Instr.lookup, Sem.run_bind, run_underlying T.ty, MapKept.run_getObj_map hb, Result.andThen_ok, Sem.run_pure, chkI T, fndI T]
  cases hf : ((posI es k 0).bind fun j => (getI es k).map fun v => (j, v)) with
  | none => rw [hf] at hg; rw [← hg]; simp [zrI T]
  | some q => rw [hf] at hg; rw [← hg]; simp
theorem eff_lookI (T : MapI P t kt ke z) {m : Nat} {es : List En} {c : Nat} (hb : w.heap[m]? = some (.map (entA es) c)) {k : Int} (hk : K ((getI es k).getD z) w) : EffW P (.look t false) [.map (some m), .int .i64 k] K w := by
  intro _
  exact upon_val (lookI_run T hb k false) hk
theorem effm_lookI {C : List Value → World → Prop} {q : Nat → List Value → Value} {n : Nat} {vs : List Value} (T : MapI P t kt ke z) {m : Nat} {es : List En} {c : Nat} {k : Int} {K : Value → List Value → Prop}
    (hb : ∀ vs' w, era n vs' = era n vs → C vs' w → w.heap[m]? = some (.map (entA es) c)) (hk : K ((getI es k).getD z) vs) : EffM F0 C q n (.look t false) [.map (some m), .int .i64 k] vs K :=
  effm_val (s := Instr.lookup t (.map (some m)) (.int .i64 k) false) rfl (fun vs' w he hw => lookI_run T (hb vs' w he hw) k false) hk
/-- a new map -/
theorem eff_mkmI (s : St w0 F w) (hk : ∀ b w', St w0 (F * imap b [] 0) w' → K (.map (some b)) w') : EffW P (.mkm t false) [] K w := by
  intro _
  refine upon_val (s := Instr.makeMap t none) (v := .map (some w.heap.size)) (w' := w.alloc (.map (entA []) 0)) ?_ (hk _ _ (s.alloc trivial))
  simp [Instr.makeMap, newObj, Sem.run, entA, Sem.bind]
theorem turnM {m : Nat} {o : Obj} {es' : List En} {c' : Nat} (s : St w0 (F * pt m o) w) : St w0 (F * imap m es' c') { w with heap := w.heap.setIfInBounds m (.map (entA es') c') } := by
  have hs := MapKept.heap_set (o' := .map (entA es') c') s.look
  exact s.turn (o' := .map (entA es') c') hs.1 hs.2 (by simp) rfl rfl (fun _ _ _ h => by cases h)
/-- a new key is entered -/
theorem eff_updI (T : MapI P t kt ke z) {m : Nat} {es : List En} {c : Nat} {k : Int} {v : Value} (s : St w0 (F * imap m es c) w) (hn : getI es k = none)
    (hk : ∀ w', St w0 (F * imap m (es ++ [⟨k, v, c⟩]) (c + 1)) w' → K undef w') : EffW P (.upd t) [.map (some m), .int .i64 k, v] K w := by
  intro _
  refine upon_unit (s := Instr.mapUpdate t (.map (some m)) (.int .i64 k) v) ?_ (hk _ (turnM s))
  have hb := s.look
  have hp : posI es k 0 = none := by
    have := pos_get k es 0
    rw [hn] at this
    simpa using this
  have he : (entA es).push ⟨.int .i64 k, v, c⟩ = entA (es ++ [⟨k, v, c⟩]) := by apply Array.ext'; simp [entA]
  simp only [Instr.mapUpdate, Sem.run_bind, run_underlying T.ty, MapKept.run_getObj_map hb, Result.andThen_ok, chkI T, fndI T, hp, Option.bind_none, he]
  rw [MapKept.run_setObj_map _ hb]
/-- another value for a key -/
theorem eff_updI2 (T : MapI P t kt ke z) {m : Nat} {es : List En} {c : Nat} {k : Int} {v u : Value} (s : St w0 (F * imap m es c) w) (hn : getI es k = some u)
    (hk : ∀ w', St w0 (F * imap m (setI es k v) c) w' → K undef w') : EffW P (.upd t) [.map (some m), .int .i64 k, v] K w := by
  intro _
  refine upon_unit (s := Instr.mapUpdate t (.map (some m)) (.int .i64 k) v) ?_ (hk _ (turnM s))
  have hb := s.look
  obtain ⟨j, hp⟩ : ∃ j, posI es k 0 = some j := by
    have := pos_get k es 0
    rw [hn] at this
    exact Option.isSome_iff_exists.1 this
  have hs := set_at k v es 0 j hp
  rw [Nat.sub_zero] at hs
  have hkey : ((entA es)[j]?.map (·.key)).getD (.int .i64 k) = .int .i64 k := by
    have key : ∀ (es : List En) (i j : Nat), posI es k i = some j → ∀ e, es[j - i]? = some e → e.k = k := by
      intro es
      induction es with
      | nil => intro i j h; cases h
      | cons x r ih =>
        intro i j h e he
        simp only [posI] at h
        split at h
        · rename_i hx
          cases h
          simp only [Nat.sub_self, List.getElem?_cons_zero, Option.some.injEq] at he
          rw [← he, hx]
        · have hge := pos_ge k r _ _ h
          refine ih (i + 1) j h e ?_
          have : j - i = (j - (i + 1)) + 1 := by omega
          rw [this, List.getElem?_cons_succ] at he
          exact he
    cases hj : es[j]? with
    | none => simp [entA, hj]
    | some e =>
      have := key es 0 j hp e (by simpa using hj)
      simp [entA, hj, this]
  simp only [Instr.mapUpdate, Sem.run_bind, run_underlying T.ty, MapKept.run_getObj_map hb, Result.andThen_ok, chkI T, fndI T, hp, hn, Option.bind_some, Option.map_some, hkey]
  rw [MapKept.run_keyThatStays (show MapKept.IsKey (.int .i64) (.int .i64 k) from rfl)]
  simp only [Result.andThen_ok, hs]
  rw [MapKept.run_setObj_map _ hb]
theorem del_none : ∀ (es : List En) (k : Int), getI es k = none → delI es k = es
  | [], _, _ => rfl
  | e :: r, k, h => by
    simp only [getI] at h
    split at h
    · cases h
    · rename_i hk; simp only [delI, hk, if_false, del_none r k h]
/-- a key is deleted -/
theorem eff_delI {kt' ty : TypeId} {cs : Array Bool} (T : MapI P t kt ke z) {m : Nat} {es : List En} {c : Nat} {k : Int} (s : St w0 (F * imap m es c) w)
    (hk : ∀ w', St w0 (F * imap m (delI es k) c) w' → K (.tuple #[]) w') : EffW P (.bi .delete #[t, kt'] ty cs) [.map (some m), .int .i64 k] K w := by
  intro _
  refine upon_val (s := Builtin.delete_ #[t, kt'] ty #[.map (some m), .int .i64 k]) ?_ (hk _ (turnM s))
  have hb := s.look
  simp only [Builtin.delete_, List.getElem?_toArray, List.getElem?_cons_zero, List.getElem?_cons_succ, Sem.run_bind, run_underlying T.ty, MapKept.run_getObj_map hb, Result.andThen_ok, chkI T, fndI T]
  cases hp : posI es k 0 with
  | none =>
    have hn : getI es k = none := by
      have := pos_get k es 0
      rw [hp] at this
      simpa using this.symm
    simp only [Option.bind_none, del_none es k hn, Sem.run_bind]
    rw [MapKept.run_setObj_map _ hb]
    simp
  | some j =>
    obtain ⟨v, hv⟩ : ∃ v, getI es k = some v := by
      have := pos_get k es 0
      rw [hp] at this
      exact Option.isSome_iff_exists.1 this.symm
    have hs := del_at k es 0 j hp
    rw [Nat.sub_zero] at hs
    simp only [hv, Option.bind_some, Option.map_some, hs, Sem.run_bind]
    rw [MapKept.run_setObj_map _ hb]
    simp
theorem choose_lt (n : Nat) (hn : 0 < n) : ∃ i w', i < n ∧ (choose (.mapNext n)).run P w = .ok i w' ∧ (w' = w ∨ w' = w.drew) := by
  rw [run_choose_drew]
  by_cases h : n ≤ 1
  · exact ⟨0, w, hn, by simp [Question.forced, h], .inl rfl⟩
  · exact ⟨_, w.drew, Nat.mod_lt (w.tape w.drawn (.mapNext n)) hn, by simp [Question.forced, h, Question.cut], .inr rfl⟩
def leftE (es : List En) (seen : Array Nat) : List En := es.filter fun e => !seen.contains e.b
end
structure okE (es : List En) (c : Nat) : Prop where
  lt : ∀ e ∈ es, e.b < c
  bn : (es.map (·.b)).Nodup
  kn : (es.map (·.k)).Nodup
theorem delI_sub (k : Int) : ∀ es : List En, (delI es k).Sublist es
  | [] => .slnil
  | e :: r => by
    simp only [delI]
    split
    · exact List.sublist_cons_self _ _
    · exact (delI_sub k r).cons_cons _
end Go.HL

namespace Go.HL.Es
open Go.HL
set_option maxRecDepth 4000
set_option linter.unusedSimpArgs false
set_option linter.unusedVariables false
/-- rows: a contract, its coins -/
abbrev Rw := Int × Int
def cns : List Rw → Int → Int
  | [], _ => 0
  | r :: t, k => if k = r.1 then r.2 else cns t k
def del (k : Int) (l : List Rw) : List Rw := l.filter fun r => decide (r.1 ≠ k)
def ins (k v : Int) : List Rw → List Rw
  | [] => [(k, v)]
  | r :: t => if k < r.1 then (k, v) :: r :: t else r :: ins k v t
def setR (k v : Int) (l : List Rw) : List Rw := if v = 0 then del k l else ins k v (del k l)
/-- by rising contracts; none of them with no coins -/
def RwOK (l : List Rw) : Prop := l.Pairwise (fun a b => a.1 < b.1) ∧ ∀ r ∈ l, 1 ≤ r.1 ∧ r.1 < 9223372036854775808 ∧ 0 < r.2

theorem ins_perm (k v : Int) : ∀ l : List Rw, (ins k v l).Perm ((k, v) :: l)
  | [] => .refl _
  | r :: t => by
    simp only [ins]
    split
    · exact .refl _
    · exact ((ins_perm k v t).cons r).trans (.swap _ _ _)
theorem ins_mem {k v : Int} {l : List Rw} {x : Rw} : x ∈ ins k v l ↔ x = (k, v) ∨ x ∈ l := by rw [(ins_perm k v l).mem_iff]; simp
theorem del_mem {k : Int} {l : List Rw} {x : Rw} : x ∈ del k l ↔ x ∈ l ∧ x.1 ≠ k := by simp [del]
theorem ins_sorted {k v : Int} : ∀ {l : List Rw}, l.Pairwise (fun a b => a.1 < b.1) → (∀ r ∈ l, r.1 ≠ k) → (ins k v l).Pairwise (fun a b => a.1 < b.1)
  | [], _, _ => by simp [ins]
  | r :: t, h, hk => by
    simp only [List.pairwise_cons] at h
    simp only [ins]
    split
    · rename_i hlt
      simp only [List.pairwise_cons, List.mem_cons]
      refine ⟨?_, h.1, h.2⟩
      rintro x (rfl | hx)
      · exact hlt
      · have := h.1 x hx; omega
    · rename_i hlt
      have hr := hk r (.head _)
      simp only [List.pairwise_cons]
      refine ⟨fun x hx => ?_, ins_sorted h.2 fun y hy => hk y (.tail _ hy)⟩
      rcases ins_mem.1 hx with rfl | hx
      · simp only; omega
      · exact h.1 x hx
theorem setR_ok {k v : Int} {l : List Rw} (h : RwOK l) (hk : 1 ≤ k ∧ k < 9223372036854775808) (hv : 0 ≤ v) : RwOK (setR k v l) := by
  have hd : (del k l).Pairwise (fun a b => a.1 < b.1) := h.1.filter _
  unfold setR
  split
  · exact ⟨hd, fun r hr => h.2 r (del_mem.1 hr).1⟩
  · refine ⟨ins_sorted hd fun r hr => (del_mem.1 hr).2, fun r hr => ?_⟩
    rcases ins_mem.1 hr with rfl | hr
    · exact ⟨hk.1, hk.2, by simp only; omega⟩
    · exact h.2 r (del_mem.1 hr).1
theorem cns_mem {l : List Rw} (h : l.Pairwise (fun a b => a.1 ≠ b.1)) {k v : Int} (hm : (k, v) ∈ l) : cns l k = v := by
  induction l with
  | nil => cases hm
  | cons r t ih =>
    simp only [List.pairwise_cons] at h
    simp only [cns]
    rcases List.mem_cons.1 hm with rfl | hm
    · simp
    · have := h.1 _ hm
      rw [if_neg (fun e => this e.symm)]
      exact ih h.2 hm
theorem cns_none {l : List Rw} {k : Int} (h : ∀ r ∈ l, r.1 ≠ k) : cns l k = 0 := by
  induction l with
  | nil => rfl
  | cons r t ih =>
    simp only [cns]
    rw [if_neg (fun e => h r (.head _) e.symm)]
    exact ih fun x hx => h x (.tail _ hx)
theorem RwOK.ne {l : List Rw} (h : RwOK l) : l.Pairwise (fun a b => a.1 ≠ b.1) := h.1.imp fun h => by omega
theorem cns_cases {l : List Rw} (k : Int) : (∃ v, (k, v) ∈ l) ∨ ∀ r ∈ l, r.1 ≠ k := by
  by_cases h : ∃ v, (k, v) ∈ l
  · exact .inl h
  · refine .inr fun r hr e => h ⟨r.2, ?_⟩
    subst e; exact hr
theorem cns_setR {k v : Int} {l : List Rw} (h : RwOK l) (hk : 1 ≤ k ∧ k < 9223372036854775808) (hv : 0 ≤ v) (j : Int) : cns (setR k v l) j = if j = k then v else cns l j := by
  have ok := setR_ok h hk hv
  by_cases e : j = k
  · subst e
    rw [if_pos rfl]
    by_cases hz : v = 0
    · rw [hz]
      refine cns_none fun r hr => ?_
      simp only [setR, if_true] at hr
      exact (del_mem.1 hr).2
    · refine cns_mem ok.ne ?_
      simp only [setR, hz, if_false]
      exact ins_mem.2 (.inl rfl)
  · rw [if_neg e]
    rcases cns_cases (l := l) j with ⟨u, hu⟩ | hn
    · rw [cns_mem h.ne hu]
      refine cns_mem ok.ne ?_
      have hd : (j, u) ∈ del k l := del_mem.2 ⟨hu, e⟩
      unfold setR
      split
      · exact hd
      · exact ins_mem.2 (.inr hd)
    · rw [cns_none hn]
      refine cns_none fun r hr => ?_
      unfold setR at hr
      split at hr
      · exact hn r (del_mem.1 hr).1
      · rcases ins_mem.1 hr with rfl | hr
        · exact fun h => e h.symm
        · exact hn r (del_mem.1 hr).1
theorem cns_nonneg {l : List Rw} (h : RwOK l) (k : Int) : 0 ≤ cns l k := by
  rcases cns_cases (l := l) k with ⟨u, hu⟩ | hn
  · rw [cns_mem h.ne hu]; have := (h.2 _ hu).2.2; simp only at this; omega
  · rw [cns_none hn]; exact Int.le_refl _

theorem RwOK.tail {r : Rw} {t : List Rw} (h : RwOK (r :: t)) : RwOK t := ⟨(List.pairwise_cons.1 h.1).2, fun x hx => h.2 x (.tail _ hx)⟩
theorem cns_head {r : Rw} {t : List Rw} : cns (r :: t) r.1 = r.2 := by simp [cns]
theorem cns_below {l : List Rw} {k : Int} (h : ∀ r ∈ l, k < r.1) : cns l k = 0 := cns_none fun r hr e => by have := h r hr; omega
/-- what is held says the rows -/
theorem rw_ext : ∀ {l l' : List Rw}, RwOK l → RwOK l' → (∀ k, cns l k = cns l' k) → l = l'
  | [], [], _, _, _ => rfl
  | [], r :: t, _, h', he => by
    have h1 := he r.1
    rw [cns_head] at h1
    have h2 := (h'.2 r (.head _)).2.2
    simp only [cns] at h1
    omega
  | r :: t, [], h, _, he => by
    have h1 := he r.1
    rw [cns_head] at h1
    have h2 := (h.2 r (.head _)).2.2
    simp only [cns] at h1
    omega
  | r :: t, r' :: t', h, h', he => by
    have s1 := (List.pairwise_cons.1 h.1).1
    have s2 := (List.pairwise_cons.1 h'.1).1
    have p1 := (h.2 r (.head _)).2.2
    have p2 := (h'.2 r' (.head _)).2.2
    have e1 : r.1 = r'.1 := by
      rcases Int.lt_trichotomy r.1 r'.1 with hlt | he' | hlt
      · have h1 := he r.1
        rw [cns_head, cns_below (fun x hx => by
          rcases List.mem_cons.1 hx with rfl | hx
          · exact hlt
          · have := s2 x hx; omega)] at h1
        omega
      · exact he'
      · have h1 := he r'.1
        rw [cns_head, cns_below (fun x hx => by
          rcases List.mem_cons.1 hx with rfl | hx
          · exact hlt
          · have := s1 x hx; omega)] at h1
        omega
    have e2 : r.2 = r'.2 := by
      have h1 := he r.1
      rw [cns_head, e1, cns_head] at h1
      exact h1
    have er : r = r' := Prod.ext e1 e2
    subst er
    congr 1
    refine rw_ext h.tail h'.tail fun k => ?_
    have h1 := he k
    simp only [cns] at h1
    by_cases hk : k = r.1
    · subst hk
      rw [cns_below s1, cns_below s2]
    · rw [if_neg hk, if_neg hk] at h1
      exact h1
/-- what was held is held again -/
theorem setR_back {k v : Int} {l : List Rw} (h : RwOK l) (hk : 1 ≤ k ∧ k < 9223372036854775808) (hv : 0 ≤ v) : setR k (cns l k) (setR k v l) = l := by
  have h1 := setR_ok h hk hv
  have h0 := cns_nonneg h k
  refine rw_ext (setR_ok h1 hk h0) h fun j => ?_
  rw [cns_setR h1 hk h0, cns_setR h hk hv]
  by_cases e : j = k
  · rw [if_pos e, e]
  · rw [if_neg e, if_neg e]

def prE (e : En) : Int × Value := (e.k, e.v)
def prR (r : Rw) : Int × Value := (r.1, .int .u64 r.2)
structure EH (es : List En) (c : Nat) (l : List Rw) : Prop where
  perm : (es.map prE).Perm (l.map prR)
  keys : (es.map (·.k)).Nodup
  borns : (es.map (·.b)).Nodup
  clock : ∀ e ∈ es, e.b < c

theorem get_mem {es : List En} (h : (es.map (·.k)).Nodup) {k : Int} {v : Value} (hm : (k, v) ∈ es.map prE) : getI es k = some v := by
  induction es with
  | nil => simp at hm
  | cons e t ih =>
    simp only [List.map_cons, List.nodup_cons] at h
    simp only [getI]
    simp only [List.map_cons, List.mem_cons] at hm
    rcases hm with hm | hm
    · simp only [prE, Prod.mk.injEq] at hm
      rw [if_pos hm.1, hm.2]
    · have : k ≠ e.k := by
        rintro rfl
        apply h.1
        obtain ⟨x, hx, hx2⟩ := List.mem_map.1 hm
        simp only [prE, Prod.mk.injEq] at hx2
        exact List.mem_map.2 ⟨x, hx, hx2.1⟩
      rw [if_neg this]
      exact ih h.2 hm
theorem get_none {es : List En} {k : Int} (h : ∀ e ∈ es, e.k ≠ k) : getI es k = none := by
  induction es with
  | nil => rfl
  | cons e t ih =>
    simp only [getI]
    rw [if_neg (fun x => h e (.head _) x.symm)]
    exact ih fun x hx => h x (.tail _ hx)
theorem EH.get {es : List En} {c : Nat} {l : List Rw} (h : EH es c l) (ok : RwOK l) (k : Int) : (getI es k).getD (.int .u64 0) = .int .u64 (cns l k) ∧ (getI es k = none ↔ ∀ r ∈ l, r.1 ≠ k) := by
  rcases cns_cases (l := l) k with ⟨u, hu⟩ | hn
  · have hm : (k, Value.int .u64 u) ∈ es.map prE := h.perm.mem_iff.2 (List.mem_map.2 ⟨_, hu, rfl⟩)
    rw [get_mem h.keys hm, cns_mem ok.ne hu]
    exact ⟨rfl, ⟨fun h => (by cases h), fun h => absurd rfl (h _ hu)⟩⟩
  · have : getI es k = none := get_none fun e he hk => by
      have : prE e ∈ l.map prR := h.perm.mem_iff.1 (List.mem_map.2 ⟨e, he, rfl⟩)
      obtain ⟨r, hr, hr2⟩ := List.mem_map.1 this
      simp only [prE, prR, Prod.mk.injEq] at hr2
      exact hn r hr (hr2.1.trans hk)
    rw [this, cns_none hn]
    exact ⟨rfl, by simpa using hn⟩
theorem delI_sub : ∀ (es : List En) (k : Int), (delI es k).Sublist es
  | [], _ => .slnil
  | e :: r, k => by
    simp only [delI]
    split
    · exact .cons _ (.refl _)
    · exact (delI_sub r k).cons_cons _
theorem delI_pr : ∀ {es : List En} {k : Int}, (es.map (·.k)).Nodup → (delI es k).map prE = (es.map prE).filter fun x => decide (x.1 ≠ k)
  | [], _, _ => rfl
  | e :: r, k, h => by
    simp only [List.map_cons, List.nodup_cons] at h
    simp only [delI, List.map_cons]
    by_cases hk : k = e.k
    · subst hk
      rw [if_pos rfl]
      rw [List.filter_cons_of_neg (by simp [prE])]
      refine (List.filter_eq_self.2 fun x hx => ?_).symm
      obtain ⟨y, hy, rfl⟩ := List.mem_map.1 hx
      exact decide_eq_true fun e => h.1 (List.mem_map.2 ⟨y, hy, e⟩)
    · rw [if_neg hk, List.filter_cons_of_pos (by simp [prE, Ne.symm hk]), List.map_cons, delI_pr h.2]
theorem setI_pr : ∀ {es : List En} {k : Int} {v u : Value}, (es.map (·.k)).Nodup → getI es k = some u → ((setI es k v).map prE).Perm ((k, v) :: (es.map prE).filter fun x => decide (x.1 ≠ k))
  | [], _, _, _, _, h => by cases h
  | e :: r, k, v, u, hn, h => by
    simp only [List.map_cons, List.nodup_cons] at hn
    simp only [getI] at h
    simp only [setI, List.map_cons]
    by_cases hk : k = e.k
    · subst hk
      rw [if_pos rfl, List.filter_cons_of_neg (by simp [prE]), List.map_cons]
      rw [List.filter_eq_self.2 fun x hx => by
        obtain ⟨y, hy, rfl⟩ := List.mem_map.1 hx
        exact decide_eq_true fun e => hn.1 (List.mem_map.2 ⟨y, hy, e⟩)]
      exact .refl _
    · rw [if_neg hk] at h ⊢
      rw [List.filter_cons_of_pos (by simp [prE, Ne.symm hk]), List.map_cons]
      exact ((setI_pr hn.2 h).cons _).trans (.swap _ _ _)
theorem setI_keys : ∀ (es : List En) (k : Int) (v : Value), (setI es k v).map (·.k) = es.map (·.k)
  | [], _, _ => rfl
  | e :: r, k, v => by
    simp only [setI]
    split
    · rfl
    · simp only [List.map_cons, setI_keys r k v]
theorem setI_borns : ∀ (es : List En) (k : Int) (v : Value), (setI es k v).map (·.b) = es.map (·.b)
  | [], _, _ => rfl
  | e :: r, k, v => by
    simp only [setI]
    split
    · rfl
    · simp only [List.map_cons, setI_borns r k v]
theorem filter_pr (k : Int) (l : List Rw) : (l.map prR).filter (fun x => decide (x.1 ≠ k)) = (del k l).map prR := by
  simp only [del, List.filter_map]
  rfl
theorem EH.del {es : List En} {c : Nat} {l : List Rw} (h : EH es c l) (k : Int) : EH (delI es k) c (Es.del k l) where
  perm := by
    rw [delI_pr h.keys, ← filter_pr]
    exact h.perm.filter _
  keys := h.keys.sublist ((delI_sub es k).map _)
  borns := h.borns.sublist ((delI_sub es k).map _)
  clock := fun e he => h.clock e ((delI_sub es k).subset he)
theorem EH.put {es : List En} {c : Nat} {l : List Rw} (h : EH es c l) {k v : Int} (hn : getI es k = none) (hl : ∀ r ∈ l, r.1 ≠ k) : EH (es ++ [⟨k, .int .u64 v, c⟩]) (c + 1) (ins k v (Es.del k l)) where
  perm := by
    have hd : Es.del k l = l := List.filter_eq_self.2 fun r hr => by simpa using hl r hr
    rw [hd, List.map_append]
    refine (List.perm_append_comm).trans ?_
    refine .trans ?_ ((ins_perm k v l).map prR).symm
    exact h.perm.cons _
  keys := by
    rw [List.map_append, List.nodup_append]
    refine ⟨h.keys, by simp, ?_⟩
    intro a ha b hb
    simp only [List.map_cons, List.map_nil, List.mem_singleton] at hb
    subst hb
    rintro rfl
    obtain ⟨e, he, he2⟩ := List.mem_map.1 ha
    have : prE e ∈ l.map prR := h.perm.mem_iff.1 (List.mem_map.2 ⟨e, he, rfl⟩)
    obtain ⟨r, hr, hr2⟩ := List.mem_map.1 this
    simp only [prE, prR, Prod.mk.injEq] at hr2
    exact hl r hr (hr2.1.trans he2)
  borns := by
    rw [List.map_append, List.nodup_append]
    refine ⟨h.borns, by simp, ?_⟩
    intro a ha b hb
    simp only [List.map_cons, List.map_nil, List.mem_singleton] at hb
    subst hb
    rintro rfl
    obtain ⟨e, he, he2⟩ := List.mem_map.1 ha
    have := h.clock e he
    omega
  clock := by
    intro e he
    rcases List.mem_append.1 he with he | he
    · have := h.clock e he; omega
    · simp only [List.mem_singleton] at he; subst he; simp
theorem EH.upd {es : List En} {c : Nat} {l : List Rw} (h : EH es c l) {k v : Int} {u : Value} (hn : getI es k = some u) : EH (setI es k (.int .u64 v)) c (ins k v (Es.del k l)) where
  perm := by
    refine (setI_pr h.keys hn).trans ?_
    refine .trans ?_ ((ins_perm k v (Es.del k l)).map prR).symm
    rw [List.map_cons, ← filter_pr]
    exact (h.perm.filter _).cons _
  keys := by rw [setI_keys]; exact h.keys
  borns := by rw [setI_borns]; exact h.borns
  clock := by
    intro e he
    have : e.b ∈ es.map (·.b) := by rw [← setI_borns es k (.int .u64 v)]; exact List.mem_map.2 ⟨e, he, rfl⟩
    obtain ⟨e', he', h2⟩ := List.mem_map.1 this
    have := h.clock e' he'
    omega
/-- the map in memory -/
def hmap (m : Nat) (l : List Rw) : Asn := fun h => ∃ es c, EH es c l ∧ imap m es c h
theorem hmap_open {w0 w : World} {A : Asn} {m : Nat} {l : List Rw} (s : St w0 (A * hmap m l) w) : ∃ es c, EH es c l ∧ St w0 (A * imap m es c) w := by
  obtain ⟨g, h1, h2, h3, d, e, a, es, c, hE, b⟩ := s.holds
  exact ⟨es, c, hE, s.of ⟨g, h1, h2, h3, d, e, a, b⟩⟩
theorem hmap_close {w0 w : World} {A : Asn} {m : Nat} {l : List Rw} {es : List En} {c : Nat} (hE : EH es c l) (s : St w0 (A * imap m es c) w) : St w0 (A * hmap m l) w := by
  obtain ⟨g, h1, h2, h3, d, e, a, b⟩ := s.holds
  exact s.of ⟨g, h1, h2, h3, d, e, a, es, c, hE, b⟩
end Go.HL.Es

namespace Go.HL.Nm
open Go.HL
set_option maxRecDepth 4000
set_option linter.unusedSimpArgs false
set_option linter.unusedVariables false

def tailF : List UInt8 → Nat → Int → Option Int
  | _, 0, v => some v
  | [], _ + 1, _ => none
  | b :: r, n + 1, v => if (b.toNat : Int) < 128 ∨ 191 < (b.toNat : Int) then none else tailF r n (v * 64 + b.toNat - 128)
def chkF (b : Int) (r : List UInt8) (v : Int) (n : Nat) (least : Int) : Int × Nat :=
  match tailF r n v with
  | some v => if v < least ∨ 1114111 < v ∨ (55296 ≤ v ∧ v ≤ 57343) then (2097152 + b, 1) else (v, 1 + n)
  | none => (2097152 + b, 1)
/-- the unit at a text's head, and how many bytes it has -/
def oneF : List UInt8 → Int × Nat
  | [] => (0, 1)
  | c :: r =>
    if (c.toNat : Int) < 128 then ((c.toNat : Int), 1)
    else if 192 ≤ (c.toNat : Int) ∧ (c.toNat : Int) < 224 then chkF c.toNat r (c.toNat - 192) 1 128
    else if 224 ≤ (c.toNat : Int) ∧ (c.toNat : Int) < 240 then chkF c.toNat r (c.toNat - 224) 2 2048
    else if 240 ≤ (c.toNat : Int) ∧ (c.toNat : Int) < 248 then chkF c.toNat r (c.toNat - 240) 3 65536
    else (2097152 + c.toNat, 1)

theorem oneF_cons (c : UInt8) (r : List UInt8) : oneF (c :: r) =
    if (c.toNat : Int) < 128 then ((c.toNat : Int), 1)
    else if 192 ≤ (c.toNat : Int) ∧ (c.toNat : Int) < 224 then chkF c.toNat r (c.toNat - 192) 1 128
    else if 224 ≤ (c.toNat : Int) ∧ (c.toNat : Int) < 240 then chkF c.toNat r (c.toNat - 224) 2 2048
    else if 240 ≤ (c.toNat : Int) ∧ (c.toNat : Int) < 248 then chkF c.toNat r (c.toNat - 240) 3 65536
    else (2097152 + c.toNat, 1) := rfl
theorem tailF_bd (n : Nat) : ∀ (r : List UInt8) (v u : Int), 0 ≤ v → tailF r n v = some u → 0 ≤ u ∧ n ≤ r.length := by
  induction n with
  | zero => intro r v u hv h; cases r <;> simp only [tailF, Option.some.injEq] at h <;> subst h <;> exact ⟨hv, Nat.zero_le _⟩
  | succ n ih =>
    intro r v u hv h
    cases r with
    | nil => simp only [tailF] at h; cases h
    | cons b r =>
      simp only [tailF] at h
      split at h
      · cases h
      · have := ih r _ u (by have := b.toNat_lt; omega) h
        simp only [List.length_cons]; omega
theorem chkF_bd (b : Int) (r : List UInt8) (v : Int) (n : Nat) (least : Int) (hb : 0 ≤ b ∧ b < 256) (hv : 0 ≤ v) :
    0 ≤ (chkF b r v n least).1 ∧ (chkF b r v n least).1 < 2097408 ∧ 1 ≤ (chkF b r v n least).2 ∧ (chkF b r v n least).2 ≤ 1 + r.length := by
  unfold chkF
  split
  · rename_i u hu
    have := tailF_bd n r v u hv hu
    split
    · simp only; omega
    · simp only; omega
  · simp only; omega
theorem oneF_bd {l : List UInt8} (h : l ≠ []) : 0 ≤ (oneF l).1 ∧ (oneF l).1 < 2097408 ∧ 1 ≤ (oneF l).2 ∧ (oneF l).2 ≤ l.length := by
  cases l with
  | nil => exact absurd rfl h
  | cons c r =>
    have hc := c.toNat_lt
    unfold oneF
    simp only [List.length_cons]
    split
    · simp only; omega
    split
    · have := chkF_bd c.toNat r (c.toNat - 192) 1 128 (by omega) (by omega); omega
    split
    · have := chkF_bd c.toNat r (c.toNat - 224) 2 2048 (by omega) (by omega); omega
    split
    · have := chkF_bd c.toNat r (c.toNat - 240) 3 65536 (by omega) (by omega); omega
    · simp only; omega

theorem get_mk (l : List UInt8) (i : Nat) : (mk l).get! i = l.getD i 0 := by
  simp only [mk, ByteArray.get!, List.getD_eq_getElem?_getD]
  simp
  rfl
/-- the model's decoder, over lists -/
def decL (d : List UInt8) : Nat × Nat :=
  let at' (k : Nat) : Nat := (d.getD k 0).toNat
  let cont (k : Nat) : Bool := k < d.length && at' k / 64 == 2
  let b0 := at' 0
  if b0 < 0x80 then (b0, 1)
  else if b0 / 32 == 6 && cont 1 then
    let c := (b0 % 32) * 64 + at' 1 % 64
    if c ≥ 0x80 then (c, 2) else (65533, 1)
  else if b0 / 16 == 14 && cont 1 && cont 2 then
    let c := (b0 % 16) * 4096 + (at' 1 % 64) * 64 + at' 2 % 64
    if c ≥ 0x800 && Utf8.valid c then (c, 3) else (65533, 1)
  else if b0 / 8 == 30 && cont 1 && cont 2 && cont 3 then
    let c := (b0 % 8) * 262144 + (at' 1 % 64) * 4096 + (at' 2 % 64) * 64 + at' 3 % 64
    if c ≥ 0x10000 && Utf8.valid c then (c, 4) else (65533, 1)
  else (65533, 1)
theorem decode_decL (l : List UInt8) (i : Nat) : Utf8.decode (mk l) i = decL (l.drop i) := by
  have e : ∀ k, (l.drop i).getD k 0 = l.getD (i + k) 0 := by intro k; simp [List.getD_eq_getElem?_getD, List.getElem?_drop]
  have e2 : ∀ k, decide (i + k < (mk l).size) = decide (k < (l.drop i).length) := by intro k; simp; omega
  unfold Utf8.decode decL
  simp only [get_mk, e, e2, Utf8.runeError]

def runeOf (u : Int) : Nat := if 2097152 ≤ u then 65533 else u.toNat

theorem valid_iff (c : Nat) : Utf8.valid (c : Int) = decide (¬ (1114111 < c ∨ (55296 ≤ c ∧ c ≤ 57343))) := by
  rw [Bool.eq_iff_iff]
  simp only [Utf8.valid, Bool.or_eq_true, Bool.and_eq_true, decide_eq_true_eq]
  omega

/-- three kinds of head bytes -/
theorem one2 (b b1 : Nat) (hb : 192 ≤ b ∧ b < 224) (h1 : 128 ≤ b1 ∧ b1 ≤ 191) : ((b : Int) - 192) * 64 + b1 - 128 = (((b % 32) * 64 + b1 % 64 : Nat) : Int) := by omega
theorem one3 (b b1 b2 : Nat) (hb : 224 ≤ b ∧ b < 240) (h1 : 128 ≤ b1 ∧ b1 ≤ 191) (h2 : 128 ≤ b2 ∧ b2 ≤ 191) :
    (((b : Int) - 224) * 64 + b1 - 128) * 64 + b2 - 128 = (((b % 16) * 4096 + (b1 % 64) * 64 + b2 % 64 : Nat) : Int) := by omega
theorem one4 (b b1 b2 b3 : Nat) (hb : 240 ≤ b ∧ b < 248) (h1 : 128 ≤ b1 ∧ b1 ≤ 191) (h2 : 128 ≤ b2 ∧ b2 ≤ 191) (h3 : 128 ≤ b3 ∧ b3 ≤ 191) :
    ((((b : Int) - 240) * 64 + b1 - 128) * 64 + b2 - 128) * 64 + b3 - 128 = (((b % 8) * 262144 + (b1 % 64) * 4096 + (b2 % 64) * 64 + b3 % 64 : Nat) : Int) := by omega

/-- the tail of so many bytes, as_ the decoder looks at them -/
def contAt (r : List UInt8) (k : Nat) : Bool := decide (k < r.length) && (r.getD k 0).toNat / 64 == 2
theorem tailF_cons (r : List UInt8) (n : Nat) (v : Int) : tailF r (n + 1) v = if contAt r 0 = true then tailF r.tail n (v * 64 + (r.getD 0 0).toNat - 128) else none := by
  cases r with
  | nil => simp [tailF, contAt]
  | cons b r =>
    have hb := b.toNat_lt
    simp only [tailF, contAt, List.length_cons, List.getD_cons_zero, List.tail_cons]
    by_cases h : (b.toNat : Int) < 128 ∨ 191 < (b.toNat : Int)
    · rw [if_pos h, if_neg]; simp; omega
    · rw [if_neg h, if_pos]; simp; omega
theorem contAt_tail (r : List UInt8) (k : Nat) : contAt r.tail k = contAt r (k + 1) := by
  cases r <;> simp [contAt] <;> rfl
theorem getD_tail (r : List UInt8) (k : Nat) : r.tail.getD k 0 = r.getD (k + 1) 0 := by cases r <;> simp
theorem cont_bd {r : List UInt8} {k : Nat} (h : contAt r k = true) : 128 ≤ (r.getD k 0).toNat ∧ (r.getD k 0).toNat ≤ 191 := by
  simp only [contAt, Bool.and_eq_true, beq_iff_eq] at h
  omega
theorem tailF_zero (r : List UInt8) (v : Int) : tailF r 0 v = some v := by cases r <;> rfl
theorem decL_oneF (d : List UInt8) (h : d ≠ []) : decL d = (runeOf (oneF d).1, (oneF d).2) := by
  cases d with
  | nil => exact absurd rfl h
  | cons c r =>
    have hc := c.toNat_lt
    have hcont : ∀ k, (decide (k + 1 < (c :: r).length) && ((c :: r).getD (k + 1) 0).toNat / 64 == 2) = contAt r k := by
      intro k; simp [contAt]
    have e0 := hcont 0; have e1 := hcont 1; have e2 := hcont 2
    simp only [Nat.zero_add, Nat.reduceAdd] at e0 e1 e2
    have g0 : (c :: r).getD 0 0 = c := rfl
    have g1 : (c :: r).getD 1 0 = r.getD 0 0 := rfl
    have g2 : (c :: r).getD 2 0 = r.getD 1 0 := rfl
    have g3 : (c :: r).getD 3 0 = r.getD 2 0 := rfl
    unfold decL oneF
    simp only [e0, e1, e2, g0]
    by_cases h0 : c.toNat < 128
    · have hI : (c.toNat : Int) < 128 := by omega
      have hn : ¬ (2097152 : Int) ≤ (c.toNat : Int) := by omega
      rw [if_pos h0, if_pos hI]
      simp only [runeOf]
      rw [if_neg hn]; simp
    have hI : ¬ (c.toNat : Int) < 128 := by omega
    rw [if_neg h0, if_neg hI]
    have hbad : runeOf (2097152 + (c.toNat : Int)) = 65533 := by unfold runeOf; rw [if_pos (by omega)]
    have hgood : ∀ n : Nat, n ≤ 1114111 → runeOf (n : Int) = n := by intro n hn; unfold runeOf; rw [if_neg (show ¬ (2097152 : Int) ≤ (n : Int) by omega)]; simp
    by_cases k2 : 192 ≤ (c.toNat : Int) ∧ (c.toNat : Int) < 224
    · have t1 : (c.toNat / 32 == 6) = true := by simp; omega
      have t2 : (c.toNat / 16 == 14) = false := by simp; omega
      have t3 : (c.toNat / 8 == 30) = false := by simp; omega
      rw [if_pos k2]
      simp only [t1, t2, t3, Bool.true_and, Bool.false_and, Bool.false_eq_true, if_false]
      unfold chkF
      rw [tailF_cons, tailF_zero]
      cases hc0 : contAt r 0
      · simp [hbad]
      · have b1 := cont_bd hc0
        simp only [if_true]
        rw [one2 c.toNat (r.getD 0 0).toNat (by omega) b1]
        rw [g1]
        generalize hv : (c.toNat % 32) * 64 + (r.getD 0 0).toNat % 64 = v
        have hv2 : v < 2048 := by omega
        by_cases hl : v ≥ 128
        · have q : ¬ ((v : Int) < 128 ∨ 1114111 < (v : Int) ∨ (55296 ≤ (v : Int) ∧ (v : Int) ≤ 57343)) := by omega
          rw [if_pos hl, if_neg q]
          simp only [hgood v (by omega)]
        · have q : ((v : Int) < 128 ∨ 1114111 < (v : Int) ∨ (55296 ≤ (v : Int) ∧ (v : Int) ≤ 57343)) := by omega
          rw [if_neg hl, if_pos q]
          simp only [hbad]
    rw [if_neg k2]
    have t1 : (c.toNat / 32 == 6) = false := by simp; omega
    by_cases k3 : 224 ≤ (c.toNat : Int) ∧ (c.toNat : Int) < 240
    · have t2 : (c.toNat / 16 == 14) = true := by simp; omega
      have t3 : (c.toNat / 8 == 30) = false := by simp; omega
      rw [if_pos k3]
      simp only [t1, t2, t3, Bool.true_and, Bool.false_and, Bool.false_eq_true, if_false]
      unfold chkF
      rw [tailF_cons]
      cases hc0 : contAt r 0
      · simp [hbad]
      · have b1 := cont_bd hc0
        simp only [if_true]
        rw [tailF_cons, contAt_tail, tailF_zero, getD_tail]
        cases hc1 : contAt r 1
        · simp [hbad]
        · have b2 := cont_bd hc1
          simp only [Bool.and_self, if_true, Nat.zero_add, hc1]
          rw [one3 c.toNat (r.getD 0 0).toNat (r.getD 1 0).toNat (by omega) b1 b2]
          rw [g1, g2]
          generalize hv : (c.toNat % 16) * 4096 + ((r.getD 0 0).toNat % 64) * 64 + (r.getD 1 0).toNat % 64 = v
          rw [valid_iff]
          by_cases hl : 2048 ≤ v ∧ ¬ (1114111 < v ∨ (55296 ≤ v ∧ v ≤ 57343))
          · have q : ¬ ((v : Int) < 2048 ∨ 1114111 < (v : Int) ∨ (55296 ≤ (v : Int) ∧ (v : Int) ≤ 57343)) := by omega
            have q2 : (decide (v ≥ 2048) && decide (¬ (1114111 < v ∨ (55296 ≤ v ∧ v ≤ 57343)))) = true := by simp only [Bool.and_eq_true, decide_eq_true_eq]; exact ⟨hl.1, hl.2⟩
            rw [if_pos q2, if_neg q]
            simp only [hgood v (by omega)]
          · have q : ((v : Int) < 2048 ∨ 1114111 < (v : Int) ∨ (55296 ≤ (v : Int) ∧ (v : Int) ≤ 57343)) := by omega
            have q2 : ¬ (decide (v ≥ 2048) && decide (¬ (1114111 < v ∨ (55296 ≤ v ∧ v ≤ 57343)))) = true := by simp only [Bool.and_eq_true, decide_eq_true_eq]; exact hl
            rw [if_neg q2, if_pos q]
            simp only [hbad]
    rw [if_neg k3]
    have t2 : (c.toNat / 16 == 14) = false := by simp; omega
    by_cases k4 : 240 ≤ (c.toNat : Int) ∧ (c.toNat : Int) < 248
    · have t3 : (c.toNat / 8 == 30) = true := by simp; omega
      rw [if_pos k4]
      simp only [t1, t2, t3, Bool.true_and, Bool.false_and, Bool.false_eq_true, if_false]
      unfold chkF
      rw [tailF_cons]
      cases hc0 : contAt r 0
      · simp [hbad]
      · have b1 := cont_bd hc0
        simp only [if_true]
        rw [tailF_cons, contAt_tail, getD_tail]
        cases hc1 : contAt r 1
        · simp [hbad]
        · have b2 := cont_bd hc1
          simp only [Bool.and_self, if_true, Nat.zero_add, hc1]
          rw [tailF_cons, contAt_tail, contAt_tail, tailF_zero, getD_tail, getD_tail]
          cases hc2 : contAt r 2
          · simp [hbad]
          · have b3 := cont_bd hc2
            simp only [Bool.and_self, if_true, Nat.zero_add, Nat.reduceAdd, hc2]
            rw [one4 c.toNat (r.getD 0 0).toNat (r.getD 1 0).toNat (r.getD 2 0).toNat (by omega) b1 b2 b3]
            rw [g1, g2, g3]
            generalize hv : (c.toNat % 8) * 262144 + ((r.getD 0 0).toNat % 64) * 4096 + ((r.getD 1 0).toNat % 64) * 64 + (r.getD 2 0).toNat % 64 = v
            rw [valid_iff]
            by_cases hl : 65536 ≤ v ∧ ¬ (1114111 < v ∨ (55296 ≤ v ∧ v ≤ 57343))
            · have q : ¬ ((v : Int) < 65536 ∨ 1114111 < (v : Int) ∨ (55296 ≤ (v : Int) ∧ (v : Int) ≤ 57343)) := by omega
              have q2 : (decide (v ≥ 65536) && decide (¬ (1114111 < v ∨ (55296 ≤ v ∧ v ≤ 57343)))) = true := by simp only [Bool.and_eq_true, decide_eq_true_eq]; exact ⟨hl.1, hl.2⟩
              rw [if_pos q2, if_neg q]
              simp only [hgood v (by omega)]
            · have q : ((v : Int) < 65536 ∨ 1114111 < (v : Int) ∨ (55296 ≤ (v : Int) ∧ (v : Int) ≤ 57343)) := by omega
              have q2 : ¬ (decide (v ≥ 65536) && decide (¬ (1114111 < v ∨ (55296 ≤ v ∧ v ≤ 57343)))) = true := by simp only [Bool.and_eq_true, decide_eq_true_eq]; exact hl
              rw [if_neg q2, if_pos q]
              simp only [hbad]
    rw [if_neg k4]
    have t3 : (c.toNat / 8 == 30) = false := by simp; omega
    simp only [t1, t2, t3, Bool.false_and, Bool.false_eq_true, if_false, hbad]

/-- the units of a text, each with its width -/
def unitsN : Nat → List UInt8 → List (Int × Nat)
  | 0, _ => []
  | _ + 1, [] => []
  | n + 1, c :: r => oneF (c :: r) :: unitsN n ((c :: r).drop (oneF (c :: r)).2)
def units (l : List UInt8) : List (Int × Nat) := unitsN l.length l
theorem unitsN_nil (n : Nat) : unitsN n [] = [] := by cases n <;> rfl
theorem unitsN_eq (n : Nat) : ∀ l : List UInt8, l.length ≤ n → unitsN n l = unitsN l.length l := by
  induction n using Nat.strongRecOn with
  | _ n ih =>
    intro l hl
    cases l with
    | nil => simp [unitsN_nil]
    | cons c r =>
      have hb := oneF_bd (l := c :: r) (by simp)
      cases n with
      | zero => simp at hl
      | succ n =>
        simp only [List.length_cons, unitsN, List.cons.injEq, true_and] at hl hb ⊢
        have hd : ((c :: r).drop (oneF (c :: r)).2).length ≤ r.length := by simp only [List.length_drop, List.length_cons]; omega
        rw [ih n (by omega) _ (by omega)]
        by_cases hn : r.length < n + 1
        · rw [ih r.length hn _ hd]
        · omega
theorem units_nil : units [] = [] := rfl
theorem units_cons {l : List UInt8} (h : l ≠ []) : units l = oneF l :: units (l.drop (oneF l).2) := by
  cases l with
  | nil => exact absurd rfl h
  | cons c r =>
    have hb := oneF_bd (l := c :: r) (by simp)
    have hd : ((c :: r).drop (oneF (c :: r)).2).length ≤ r.length := by simp only [List.length_drop, List.length_cons]; omega
    show unitsN (r.length + 1) (c :: r) = _
    simp only [unitsN, units]
    rw [unitsN_eq r.length _ hd]
theorem units_len (l : List UInt8) : (units l).length ≤ l.length := by
  unfold units
  generalize hn : l.length = n
  induction n using Nat.strongRecOn generalizing l with
  | _ n ih =>
    cases l with
    | nil => subst hn; simp [unitsN]
    | cons c r =>
      have hb := oneF_bd (l := c :: r) (by simp)
      simp only [List.length_cons] at hn hb
      subst hn
      simp only [unitsN, List.length_cons]
      have hd : ((c :: r).drop (oneF (c :: r)).2).length ≤ r.length := by simp only [List.length_drop, List.length_cons]; omega
      rw [unitsN_eq r.length _ hd]
      have := ih _ (show ((c :: r).drop (oneF (c :: r)).2).length < r.length + 1 by omega) _ rfl
      omega

/-- the places at which units begin -/
def starts : Nat → List (Int × Nat) → List Nat
  | _, [] => []
  | p, u :: r => p :: starts (p + u.2) r
def sumW : List (Int × Nat) → Nat
  | [] => 0
  | u :: r => u.2 + sumW r
theorem sumW_append (a b : List (Int × Nat)) : sumW (a ++ b) = sumW a + sumW b := by
  induction a with
  | nil => simp [sumW]
  | cons u a ih => simp [sumW, ih, Nat.add_assoc]
/-- one unit on -/
theorem units_step {l : List UInt8} {done : List (Int × Nat)} {i : Nat} (h : units l = done ++ units (l.drop i)) (hi : i < l.length) :
    units l = (done ++ [oneF (l.drop i)]) ++ units (l.drop (i + (oneF (l.drop i)).2)) := by
  rw [h, units_cons (l := l.drop i) (by simp; omega), List.drop_drop]
  simp
theorem oneF_le {l : List UInt8} {i : Nat} (hi : i < l.length) : i + (oneF (l.drop i)).2 ≤ l.length ∧ 1 ≤ (oneF (l.drop i)).2 := by
  have := oneF_bd (l := l.drop i) (by simp; omega)
  simp only [List.length_drop] at this
  omega
theorem sumW_units (l : List UInt8) : sumW (units l) = l.length := by
  unfold units
  generalize hn : l.length = n
  induction n using Nat.strongRecOn generalizing l with
  | _ n ih =>
    cases l with
    | nil => subst hn; simp [unitsN, sumW]
    | cons c r =>
      have hb := oneF_bd (l := c :: r) (by simp)
      simp only [List.length_cons] at hn hb
      subst hn
      simp only [unitsN, sumW]
      have hd : ((c :: r).drop (oneF (c :: r)).2).length ≤ r.length := by simp only [List.length_drop, List.length_cons]; omega
      rw [unitsN_eq r.length _ hd]
      have := ih _ (show ((c :: r).drop (oneF (c :: r)).2).length < r.length + 1 by omega) _ rfl
      rw [this]
      simp only [List.length_drop, List.length_cons]; omega

theorem chkF_or (b : Int) (r : List UInt8) (v : Int) (n : Nat) (least : Int) : chkF b r v n least = (2097152 + b, 1) ∨
    ∃ u, tailF r n v = some u ∧ least ≤ u ∧ u ≤ 1114111 ∧ ¬ (55296 ≤ u ∧ u ≤ 57343) ∧ chkF b r v n least = (u, 1 + n) := by
  unfold chkF
  cases tailF r n v with
  | none => exact .inl rfl
  | some u =>
    by_cases h : u < least ∨ 1114111 < u ∨ (55296 ≤ u ∧ u ≤ 57343)
    · exact .inl (by simp only [if_pos h])
    · exact .inr ⟨u, rfl, by omega, by omega, by omega, by simp only [if_neg h]⟩
theorem tailF_lt : ∀ (n : Nat) (r : List UInt8) (v u M : Int), v < M → tailF r n v = some u → u < M * 64 ^ n := by
  intro n
  induction n with
  | zero => intro r v u M hv h; rw [tailF_zero] at h; cases h; simpa using hv
  | succ n ih =>
    intro r v u M hv h
    rw [tailF_cons] at h
    split at h
    · rename_i hc
      have hb := cont_bd hc
      have := ih _ _ u (M * 64) (by omega) h
      rw [Int.pow_succ]
      have e : M * (64 ^ n * 64) = M * 64 * 64 ^ n := by rw [Int.mul_assoc, Int.mul_comm 64]
      omega
    · cases h
theorem oneF_bad (c : UInt8) (r : List UInt8) (h : 2097152 ≤ (oneF (c :: r)).1) : (oneF (c :: r)).1 = 2097152 + c.toNat := by
  have hc := c.toNat_lt
  rw [oneF_cons] at h ⊢
  have key : ∀ v n least, 2097152 ≤ (chkF c.toNat r v n least).1 → (chkF c.toNat r v n least).1 = 2097152 + c.toNat := by
    intro v n least hh
    rcases chkF_or c.toNat r v n least with e | ⟨u, _, _, h3, _, e⟩
    · rw [e]
    · rw [e] at hh; simp only at hh; omega
  split at h
  · simp only at h; omega
  rename_i h1
  split at h
  · rename_i h2; rw [if_neg h1, if_pos h2]; exact key _ _ _ h
  rename_i h2
  split at h
  · rename_i h3; rw [if_neg h1, if_neg h2, if_pos h3]; exact key _ _ _ h
  rename_i h3
  split at h
  · rename_i h4; rw [if_neg h1, if_neg h2, if_neg h3, if_pos h4]; exact key _ _ _ h
  rename_i h4
  rw [if_neg h1, if_neg h2, if_neg h3, if_neg h4]
theorem oneF_fffd (d : List UInt8) (hd : d ≠ []) : (oneF d).1 = 65533 ↔ [239, 191, 189].isPrefixOf d = true := by
  constructor
  · intro h
    cases d with
    | nil => exact absurd rfl hd
    | cons c r =>
      have hc := c.toNat_lt
      rw [oneF_cons] at h
      split at h
      · simp only at h; omega
      split at h
      · rcases chkF_or c.toNat r (c.toNat - 192) 1 128 with e | ⟨u, h1, h2, h3, h4, e⟩
        · rw [e] at h; simp only at h; omega
        · have := tailF_lt 1 r _ u 32 (by omega) h1
          rw [e] at h; simp only at h; omega
      split at h
      · rcases chkF_or c.toNat r (c.toNat - 224) 2 2048 with e | ⟨u, h1, h2, h3, h4, e⟩
        · rw [e] at h; simp only at h; omega
        · rw [e] at h; simp only at h; subst h
          rw [tailF_cons] at h1
          split at h1
          · rename_i c0
            rw [tailF_cons, tailF_zero] at h1
            split at h1
            · rename_i c1
              have b0 := cont_bd c0
              have b1 := cont_bd c1
              simp only [Option.some.injEq] at h1
              cases r with
              | nil => simp [contAt] at c0
              | cons x r =>
                cases r with
                | nil => simp [contAt] at c1
                | cons y r =>
                  simp only [List.getD_cons_zero, List.tail_cons] at b0 b1 h1
                  have e1 : c.toNat = 239 ∧ x.toNat = 191 ∧ y.toNat = 189 := by omega
                  have f1 : c = 239 := UInt8.toNat_inj.1 e1.1
                  have f2 : x = 191 := UInt8.toNat_inj.1 e1.2.1
                  have f3 : y = 189 := UInt8.toNat_inj.1 e1.2.2
                  subst f1; subst f2; subst f3
                  simp
            · cases h1
          · cases h1
      split at h
      · rcases chkF_or c.toNat r (c.toNat - 240) 3 65536 with e | ⟨u, h1, h2, h3, h4, e⟩
        · rw [e] at h; simp only at h; omega
        · rw [e] at h; simp only at h; omega
      · simp only at h; omega
  · intro h
    rw [List.isPrefixOf_iff_prefix] at h
    obtain ⟨t, rfl⟩ := h
    show (oneF (239 :: 191 :: 189 :: t)).1 = 65533
    rw [oneF_cons]
    simp [chkF, tailF]
/-- what the decoder tells, and the bytes, give the unit -/
theorem unit_of {d : List UInt8} (hd : d ≠ []) : (if runeOf (oneF d).1 = 65533 ∧ [239, 191, 189].isPrefixOf d = false then 2097152 + ((d.headD 0).toNat : Int) else (runeOf (oneF d).1 : Int)) = (oneF d).1 := by
  have hb := oneF_bd hd
  by_cases h : 2097152 ≤ (oneF d).1
  · have hp : [239, 191, 189].isPrefixOf d = false := by
      cases hh : [239, 191, 189].isPrefixOf d with
      | false => rfl
      | true => have := (oneF_fffd d hd).2 hh; omega
    rw [if_pos ⟨by unfold runeOf; rw [if_pos h], hp⟩]
    cases d with
    | nil => exact absurd rfl hd
    | cons c r => rw [oneF_bad c r h]; rfl
  · have hr : (runeOf (oneF d).1 : Int) = (oneF d).1 := by unfold runeOf; rw [if_neg h]; omega
    rw [if_neg]
    · exact hr
    · rintro ⟨h1, h2⟩
      have : (oneF d).1 = 65533 := by omega
      rw [(oneF_fffd d hd).1 this] at h2
      cases h2
end Go.HL.Nm

namespace Go.HL.Nm
open Go.HL Go.Proofs
set_option maxRecDepth 4000
set_option linter.unusedSimpArgs false
set_option linter.unusedVariables false
noncomputable abbrev F0 : PF Tryz.prog := PF.none _
-- bazaar/bazaarref04.tail
def h167_0 : HC := (.seq (.reg (.done [(4, (.inp 3)), (5, (.cst (.bool true)))] none)) .ret)
@[simp] theorem h167_0_wp {P : Program} {F : PF P} {Q : EX → List Value → World → Prop} {env : List Value} {w : World} : h167_0.wp F Q env w = HC.wp F (.seq (.reg (.done [(4, (.inp 3)), (5, (.cst (.bool true)))] none)) .ret) Q env w := rfl
def h167_1 : HC := (.reg (.chk none (.bin .add) (.cons (.inp 6) (.cons (.cst (.int .i64 1)) .nil)) (.done [(6, (.op (.bin .add) (.cons (.inp 6) (.cons (.cst (.int .i64 1)) .nil))))] none)))
@[simp] theorem h167_1_wp {P : Program} {F : PF P} {Q : EX → List Value → World → Prop} {env : List Value} {w : World} : h167_1.wp F Q env w = HC.wp F (.reg (.chk none (.bin .add) (.cons (.inp 6) (.cons (.cst (.int .i64 1)) .nil)) (.done [(6, (.op (.bin .add) (.cons (.inp 6) (.cons (.cst (.int .i64 1)) .nil))))] none))) Q env w := rfl
def h167_2 : HC := (.reg (.chk none (.bin .mul) (.cons (.inp 3) (.cons (.cst (.int .i64 64)) .nil)) (.chk none (.bin .add) (.cons (.inp 1) (.cons (.inp 6) .nil)) (.chk none .chS (.cons (.inp 0) (.cons (.op (.bin .add) (.cons (.inp 1) (.cons (.inp 6) .nil))) .nil)) (.chk none (.convI .i64) (.cons (.op .chS (.cons (.inp 0) (.cons (.op (.bin .add) (.cons (.inp 1) (.cons (.inp 6) .nil))) .nil))) .nil) (.chk none (.bin .add) (.cons (.op (.bin .mul) (.cons (.inp 3) (.cons (.cst (.int .i64 64)) .nil))) (.cons (.op (.convI .i64) (.cons (.op .chS (.cons (.inp 0) (.cons (.op (.bin .add) (.cons (.inp 1) (.cons (.inp 6) .nil))) .nil))) .nil)) .nil)) (.chk none (.bin .sub) (.cons (.op (.bin .add) (.cons (.op (.bin .mul) (.cons (.inp 3) (.cons (.cst (.int .i64 64)) .nil))) (.cons (.op (.convI .i64) (.cons (.op .chS (.cons (.inp 0) (.cons (.op (.bin .add) (.cons (.inp 1) (.cons (.inp 6) .nil))) .nil))) .nil)) .nil))) (.cons (.cst (.int .i64 128)) .nil)) (.done [(3, (.op (.bin .sub) (.cons (.op (.bin .add) (.cons (.op (.bin .mul) (.cons (.inp 3) (.cons (.cst (.int .i64 64)) .nil))) (.cons (.op (.convI .i64) (.cons (.op .chS (.cons (.inp 0) (.cons (.op (.bin .add) (.cons (.inp 1) (.cons (.inp 6) .nil))) .nil))) .nil)) .nil))) (.cons (.cst (.int .i64 128)) .nil))))] none))))))))
@[simp] theorem h167_2_wp {P : Program} {F : PF P} {Q : EX → List Value → World → Prop} {env : List Value} {w : World} : h167_2.wp F Q env w = HC.wp F (.reg (.chk none (.bin .mul) (.cons (.inp 3) (.cons (.cst (.int .i64 64)) .nil)) (.chk none (.bin .add) (.cons (.inp 1) (.cons (.inp 6) .nil)) (.chk none .chS (.cons (.inp 0) (.cons (.op (.bin .add) (.cons (.inp 1) (.cons (.inp 6) .nil))) .nil)) (.chk none (.convI .i64) (.cons (.op .chS (.cons (.inp 0) (.cons (.op (.bin .add) (.cons (.inp 1) (.cons (.inp 6) .nil))) .nil))) .nil) (.chk none (.bin .add) (.cons (.op (.bin .mul) (.cons (.inp 3) (.cons (.cst (.int .i64 64)) .nil))) (.cons (.op (.convI .i64) (.cons (.op .chS (.cons (.inp 0) (.cons (.op (.bin .add) (.cons (.inp 1) (.cons (.inp 6) .nil))) .nil))) .nil)) .nil)) (.chk none (.bin .sub) (.cons (.op (.bin .add) (.cons (.op (.bin .mul) (.cons (.inp 3) (.cons (.cst (.int .i64 64)) .nil))) (.cons (.op (.convI .i64) (.cons (.op .chS (.cons (.inp 0) (.cons (.op (.bin .add) (.cons (.inp 1) (.cons (.inp 6) .nil))) .nil))) .nil)) .nil))) (.cons (.cst (.int .i64 128)) .nil)) (.done [(3, (.op (.bin .sub) (.cons (.op (.bin .add) (.cons (.op (.bin .mul) (.cons (.inp 3) (.cons (.cst (.int .i64 64)) .nil))) (.cons (.op (.convI .i64) (.cons (.op .chS (.cons (.inp 0) (.cons (.op (.bin .add) (.cons (.inp 1) (.cons (.inp 6) .nil))) .nil))) .nil)) .nil))) (.cons (.cst (.int .i64 128)) .nil))))] none)))))))) Q env w := rfl
def h167_3 : HC := (.seq (.reg (.done [(4, (.cst (.int .i64 0))), (5, (.cst (.bool false)))] none)) .ret)
@[simp] theorem h167_3_wp {P : Program} {F : PF P} {Q : EX → List Value → World → Prop} {env : List Value} {w : World} : h167_3.wp F Q env w = HC.wp F (.seq (.reg (.done [(4, (.cst (.int .i64 0))), (5, (.cst (.bool false)))] none)) .ret) Q env w := rfl
def h167_4 : HC := (.seq (.br (.chk none (.bin .add) (.cons (.inp 1) (.cons (.inp 6) .nil)) (.chk none .lenS (.cons (.inp 0) .nil) (.chk none (.bin .geq) (.cons (.op (.bin .add) (.cons (.inp 1) (.cons (.inp 6) .nil))) (.cons (.op .lenS (.cons (.inp 0) .nil)) .nil)) (.bnd (.op (.bin .geq) (.cons (.op (.bin .add) (.cons (.inp 1) (.cons (.inp 6) .nil))) (.cons (.op .lenS (.cons (.inp 0) .nil)) .nil))) (.chk (some ((.bv 0), false)) (.bin .add) (.cons (.inp 1) (.cons (.inp 6) .nil)) (.chk (some ((.bv 0), false)) .chS (.cons (.inp 0) (.cons (.op (.bin .add) (.cons (.inp 1) (.cons (.inp 6) .nil))) .nil)) (.chk (some ((.bv 0), false)) (.bin .lss) (.cons (.op .chS (.cons (.inp 0) (.cons (.op (.bin .add) (.cons (.inp 1) (.cons (.inp 6) .nil))) .nil))) (.cons (.cst (.int .u8 128)) .nil)) (.isb none (.bv 0) (.bnd (.ite (.bv 0) true (.cst (.bool true)) (.op (.bin .lss) (.cons (.op .chS (.cons (.inp 0) (.cons (.op (.bin .add) (.cons (.inp 1) (.cons (.inp 6) .nil))) .nil))) (.cons (.cst (.int .u8 128)) .nil)))) (.chk (some ((.bv 1), false)) (.bin .add) (.cons (.inp 1) (.cons (.inp 6) .nil)) (.chk (some ((.bv 1), false)) .chS (.cons (.inp 0) (.cons (.op (.bin .add) (.cons (.inp 1) (.cons (.inp 6) .nil))) .nil)) (.chk (some ((.bv 1), false)) (.bin .gtr) (.cons (.op .chS (.cons (.inp 0) (.cons (.op (.bin .add) (.cons (.inp 1) (.cons (.inp 6) .nil))) .nil))) (.cons (.cst (.int .u8 191)) .nil)) (.isb none (.bv 1) (.done [] (some (.ite (.bv 1) true (.cst (.bool true)) (.op (.bin .gtr) (.cons (.op .chS (.cons (.inp 0) (.cons (.op (.bin .add) (.cons (.inp 1) (.cons (.inp 6) .nil))) .nil))) (.cons (.cst (.int .u8 191)) .nil))))))))))))))))))) h167_3 .skip) h167_2)
@[simp] theorem h167_4_wp {P : Program} {F : PF P} {Q : EX → List Value → World → Prop} {env : List Value} {w : World} : h167_4.wp F Q env w = HC.wp F (.seq (.br (.chk none (.bin .add) (.cons (.inp 1) (.cons (.inp 6) .nil)) (.chk none .lenS (.cons (.inp 0) .nil) (.chk none (.bin .geq) (.cons (.op (.bin .add) (.cons (.inp 1) (.cons (.inp 6) .nil))) (.cons (.op .lenS (.cons (.inp 0) .nil)) .nil)) (.bnd (.op (.bin .geq) (.cons (.op (.bin .add) (.cons (.inp 1) (.cons (.inp 6) .nil))) (.cons (.op .lenS (.cons (.inp 0) .nil)) .nil))) (.chk (some ((.bv 0), false)) (.bin .add) (.cons (.inp 1) (.cons (.inp 6) .nil)) (.chk (some ((.bv 0), false)) .chS (.cons (.inp 0) (.cons (.op (.bin .add) (.cons (.inp 1) (.cons (.inp 6) .nil))) .nil)) (.chk (some ((.bv 0), false)) (.bin .lss) (.cons (.op .chS (.cons (.inp 0) (.cons (.op (.bin .add) (.cons (.inp 1) (.cons (.inp 6) .nil))) .nil))) (.cons (.cst (.int .u8 128)) .nil)) (.isb none (.bv 0) (.bnd (.ite (.bv 0) true (.cst (.bool true)) (.op (.bin .lss) (.cons (.op .chS (.cons (.inp 0) (.cons (.op (.bin .add) (.cons (.inp 1) (.cons (.inp 6) .nil))) .nil))) (.cons (.cst (.int .u8 128)) .nil)))) (.chk (some ((.bv 1), false)) (.bin .add) (.cons (.inp 1) (.cons (.inp 6) .nil)) (.chk (some ((.bv 1), false)) .chS (.cons (.inp 0) (.cons (.op (.bin .add) (.cons (.inp 1) (.cons (.inp 6) .nil))) .nil)) (.chk (some ((.bv 1), false)) (.bin .gtr) (.cons (.op .chS (.cons (.inp 0) (.cons (.op (.bin .add) (.cons (.inp 1) (.cons (.inp 6) .nil))) .nil))) (.cons (.cst (.int .u8 191)) .nil)) (.isb none (.bv 1) (.done [] (some (.ite (.bv 1) true (.cst (.bool true)) (.op (.bin .gtr) (.cons (.op .chS (.cons (.inp 0) (.cons (.op (.bin .add) (.cons (.inp 1) (.cons (.inp 6) .nil))) .nil))) (.cons (.cst (.int .u8 191)) .nil))))))))))))))))))) h167_3 .skip) h167_2) Q env w := rfl
def h167_5 : HC := (.seq (.block 1 h167_4) h167_1)
@[simp] theorem h167_5_wp {P : Program} {F : PF P} {Q : EX → List Value → World → Prop} {env : List Value} {w : World} : h167_5.wp F Q env w = HC.wp F (.seq (.block 1 h167_4) h167_1) Q env w := rfl
def h167_6 : HC := (.seq (.br (.chk none (.bin .leq) (.cons (.inp 6) (.cons (.inp 2) .nil)) (.done [] (some (.op (.bin .leq) (.cons (.inp 6) (.cons (.inp 2) .nil)))))) .skip (.exit 0)) h167_5)
@[simp] theorem h167_6_wp {P : Program} {F : PF P} {Q : EX → List Value → World → Prop} {env : List Value} {w : World} : h167_6.wp F Q env w = HC.wp F (.seq (.br (.chk none (.bin .leq) (.cons (.inp 6) (.cons (.inp 2) .nil)) (.done [] (some (.op (.bin .leq) (.cons (.inp 6) (.cons (.inp 2) .nil)))))) .skip (.exit 0)) h167_5) Q env w := rfl
def h167_7 : HC := (.loop h167_6)
@[simp] theorem h167_7_wp {P : Program} {F : PF P} {Q : EX → List Value → World → Prop} {env : List Value} {w : World} : h167_7.wp F Q env w = HC.wp F (.loop h167_6) Q env w := rfl
def h167_8 : HC := (.seq (.block 0 h167_7) h167_0)
@[simp] theorem h167_8_wp {P : Program} {F : PF P} {Q : EX → List Value → World → Prop} {env : List Value} {w : World} : h167_8.wp F Q env w = HC.wp F (.seq (.block 0 h167_7) h167_0) Q env w := rfl
def h167_9 : HC := (.seq (.reg (.done [(6, (.cst (.int .i64 1)))] none)) h167_8)
@[simp] theorem h167_9_wp {P : Program} {F : PF P} {Q : EX → List Value → World → Prop} {env : List Value} {w : World} : h167_9.wp F Q env w = HC.wp F (.seq (.reg (.done [(6, (.cst (.int .i64 1)))] none)) h167_8) Q env w := rfl
def l167 : Lifted := ⟨[0, 1, 2, 3, 8, 9, 10], 49, [.slot 4, .slot 5], (.seq (.reg (.done [(4, (.cst (.int .i64 0))), (5, (.cst (.bool false)))] none)) h167_9)⟩
theorem l167_ok : liftFn F0 167 400 = some l167 := by kernel_rfl

-- bazaar/bazaarref04.in
def h150_0 : HC := (.seq (.reg (.chk none (.bin .geq) (.cons (.inp 0) (.cons (.inp 1) .nil)) (.bnd (.op (.bin .geq) (.cons (.inp 0) (.cons (.inp 1) .nil))) (.chk (some ((.bv 0), true)) (.bin .leq) (.cons (.inp 0) (.cons (.inp 2) .nil)) (.isb none (.bv 0) (.done [(3, (.ite (.bv 0) true (.op (.bin .leq) (.cons (.inp 0) (.cons (.inp 2) .nil))) (.cst (.bool false))))] none)))))) .ret)
@[simp] theorem h150_0_wp {P : Program} {F : PF P} {Q : EX → List Value → World → Prop} {env : List Value} {w : World} : h150_0.wp F Q env w = HC.wp F (.seq (.reg (.chk none (.bin .geq) (.cons (.inp 0) (.cons (.inp 1) .nil)) (.bnd (.op (.bin .geq) (.cons (.inp 0) (.cons (.inp 1) .nil))) (.chk (some ((.bv 0), true)) (.bin .leq) (.cons (.inp 0) (.cons (.inp 2) .nil)) (.isb none (.bv 0) (.done [(3, (.ite (.bv 0) true (.op (.bin .leq) (.cons (.inp 0) (.cons (.inp 2) .nil))) (.cst (.bool false))))] none)))))) .ret) Q env w := rfl
def l150 : Lifted := ⟨[0, 1, 2, 6], 15, [.slot 3], (.seq (.reg (.done [(3, (.cst (.bool false)))] none)) h150_0)⟩
theorem l150_ok : liftFn F0 150 400 = some l150 := by kernel_rfl

-- bazaar/bazaarref04.Joiner
def h118_0 : HC := (.seq (.reg (.chk none (.bin .eql) (.cons (.inp 0) (.cons (.cst (.int .i64 32)) .nil)) (.bnd (.op (.bin .eql) (.cons (.inp 0) (.cons (.cst (.int .i64 32)) .nil))) (.chk (some ((.bv 0), false)) (.bin .eql) (.cons (.inp 0) (.cons (.cst (.int .i64 45)) .nil)) (.isb none (.bv 0) (.bnd (.ite (.bv 0) true (.cst (.bool true)) (.op (.bin .eql) (.cons (.inp 0) (.cons (.cst (.int .i64 45)) .nil)))) (.chk (some ((.bv 1), false)) (.bin .eql) (.cons (.inp 0) (.cons (.cst (.int .i64 95)) .nil)) (.isb none (.bv 1) (.done [(1, (.ite (.bv 1) true (.cst (.bool true)) (.op (.bin .eql) (.cons (.inp 0) (.cons (.cst (.int .i64 95)) .nil)))))] none))))))))) .ret)
@[simp] theorem h118_0_wp {P : Program} {F : PF P} {Q : EX → List Value → World → Prop} {env : List Value} {w : World} : h118_0.wp F Q env w = HC.wp F (.seq (.reg (.chk none (.bin .eql) (.cons (.inp 0) (.cons (.cst (.int .i64 32)) .nil)) (.bnd (.op (.bin .eql) (.cons (.inp 0) (.cons (.cst (.int .i64 32)) .nil))) (.chk (some ((.bv 0), false)) (.bin .eql) (.cons (.inp 0) (.cons (.cst (.int .i64 45)) .nil)) (.isb none (.bv 0) (.bnd (.ite (.bv 0) true (.cst (.bool true)) (.op (.bin .eql) (.cons (.inp 0) (.cons (.cst (.int .i64 45)) .nil)))) (.chk (some ((.bv 1), false)) (.bin .eql) (.cons (.inp 0) (.cons (.cst (.int .i64 95)) .nil)) (.isb none (.bv 1) (.done [(1, (.ite (.bv 1) true (.cst (.bool true)) (.op (.bin .eql) (.cons (.inp 0) (.cons (.cst (.int .i64 95)) .nil)))))] none))))))))) .ret) Q env w := rfl
def l118 : Lifted := ⟨[0, 2], 13, [.slot 1], (.seq (.reg (.done [(1, (.cst (.bool false)))] none)) h118_0)⟩
theorem l118_ok : liftFn F0 118 400 = some l118 := by kernel_rfl

-- bazaar/name.joiner
def h103_0 : HC := (.seq (.reg (.chk none (.bin .eql) (.cons (.inp 0) (.cons (.cst (.int .i32 32)) .nil)) (.bnd (.op (.bin .eql) (.cons (.inp 0) (.cons (.cst (.int .i32 32)) .nil))) (.chk (some ((.bv 0), false)) (.bin .eql) (.cons (.inp 0) (.cons (.cst (.int .i32 45)) .nil)) (.isb none (.bv 0) (.bnd (.ite (.bv 0) true (.cst (.bool true)) (.op (.bin .eql) (.cons (.inp 0) (.cons (.cst (.int .i32 45)) .nil)))) (.chk (some ((.bv 1), false)) (.bin .eql) (.cons (.inp 0) (.cons (.cst (.int .i32 95)) .nil)) (.isb none (.bv 1) (.done [(1, (.ite (.bv 1) true (.cst (.bool true)) (.op (.bin .eql) (.cons (.inp 0) (.cons (.cst (.int .i32 95)) .nil)))))] none))))))))) .ret)
@[simp] theorem h103_0_wp {P : Program} {F : PF P} {Q : EX → List Value → World → Prop} {env : List Value} {w : World} : h103_0.wp F Q env w = HC.wp F (.seq (.reg (.chk none (.bin .eql) (.cons (.inp 0) (.cons (.cst (.int .i32 32)) .nil)) (.bnd (.op (.bin .eql) (.cons (.inp 0) (.cons (.cst (.int .i32 32)) .nil))) (.chk (some ((.bv 0), false)) (.bin .eql) (.cons (.inp 0) (.cons (.cst (.int .i32 45)) .nil)) (.isb none (.bv 0) (.bnd (.ite (.bv 0) true (.cst (.bool true)) (.op (.bin .eql) (.cons (.inp 0) (.cons (.cst (.int .i32 45)) .nil)))) (.chk (some ((.bv 1), false)) (.bin .eql) (.cons (.inp 0) (.cons (.cst (.int .i32 95)) .nil)) (.isb none (.bv 1) (.done [(1, (.ite (.bv 1) true (.cst (.bool true)) (.op (.bin .eql) (.cons (.inp 0) (.cons (.cst (.int .i32 95)) .nil)))))] none))))))))) .ret) Q env w := rfl
def l103 : Lifted := ⟨[0, 2], 13, [.slot 1], (.seq (.reg (.done [(1, (.cst (.bool false)))] none)) h103_0)⟩
theorem l103_ok : liftFn F0 103 400 = some l103 := by kernel_rfl

-- bazaar/name.letter
def h102_0 : HC := (.seq (.reg (.chk none (.bin .geq) (.cons (.inp 0) (.cons (.cst (.int .i32 945)) .nil)) (.bnd (.op (.bin .geq) (.cons (.inp 0) (.cons (.cst (.int .i32 945)) .nil))) (.chk (some ((.bv 0), true)) (.bin .leq) (.cons (.inp 0) (.cons (.cst (.int .i32 969)) .nil)) (.isb none (.bv 0) (.bnd (.ite (.bv 0) true (.op (.bin .leq) (.cons (.inp 0) (.cons (.cst (.int .i32 969)) .nil))) (.cst (.bool false))) (.chk (some ((.bv 1), false)) (.bin .geq) (.cons (.inp 0) (.cons (.cst (.int .i32 1040)) .nil)) (.bnd (.ite (.bv 1) false (.op (.bin .geq) (.cons (.inp 0) (.cons (.cst (.int .i32 1040)) .nil))) (.cst (.tuple #[]))) (.chk (some ((.bv 2), true)) (.bin .leq) (.cons (.inp 0) (.cons (.cst (.int .i32 1103)) .nil)) (.isb (some ((.bv 1), false)) (.bv 2) (.isb none (.bv 1) (.bnd (.ite (.bv 1) true (.cst (.bool true)) (.ite (.bv 2) true (.op (.bin .leq) (.cons (.inp 0) (.cons (.cst (.int .i32 1103)) .nil))) (.cst (.bool false)))) (.chk (some ((.bv 3), false)) (.bin .eql) (.cons (.inp 0) (.cons (.cst (.int .i32 1025)) .nil)) (.isb none (.bv 3) (.bnd (.ite (.bv 3) true (.cst (.bool true)) (.op (.bin .eql) (.cons (.inp 0) (.cons (.cst (.int .i32 1025)) .nil)))) (.chk (some ((.bv 4), false)) (.bin .eql) (.cons (.inp 0) (.cons (.cst (.int .i32 1105)) .nil)) (.isb none (.bv 4) (.done [(1, (.ite (.bv 4) true (.cst (.bool true)) (.op (.bin .eql) (.cons (.inp 0) (.cons (.cst (.int .i32 1105)) .nil)))))] none)))))))))))))))))) .ret)
@[simp] theorem h102_0_wp {P : Program} {F : PF P} {Q : EX → List Value → World → Prop} {env : List Value} {w : World} : h102_0.wp F Q env w = HC.wp F (.seq (.reg (.chk none (.bin .geq) (.cons (.inp 0) (.cons (.cst (.int .i32 945)) .nil)) (.bnd (.op (.bin .geq) (.cons (.inp 0) (.cons (.cst (.int .i32 945)) .nil))) (.chk (some ((.bv 0), true)) (.bin .leq) (.cons (.inp 0) (.cons (.cst (.int .i32 969)) .nil)) (.isb none (.bv 0) (.bnd (.ite (.bv 0) true (.op (.bin .leq) (.cons (.inp 0) (.cons (.cst (.int .i32 969)) .nil))) (.cst (.bool false))) (.chk (some ((.bv 1), false)) (.bin .geq) (.cons (.inp 0) (.cons (.cst (.int .i32 1040)) .nil)) (.bnd (.ite (.bv 1) false (.op (.bin .geq) (.cons (.inp 0) (.cons (.cst (.int .i32 1040)) .nil))) (.cst (.tuple #[]))) (.chk (some ((.bv 2), true)) (.bin .leq) (.cons (.inp 0) (.cons (.cst (.int .i32 1103)) .nil)) (.isb (some ((.bv 1), false)) (.bv 2) (.isb none (.bv 1) (.bnd (.ite (.bv 1) true (.cst (.bool true)) (.ite (.bv 2) true (.op (.bin .leq) (.cons (.inp 0) (.cons (.cst (.int .i32 1103)) .nil))) (.cst (.bool false)))) (.chk (some ((.bv 3), false)) (.bin .eql) (.cons (.inp 0) (.cons (.cst (.int .i32 1025)) .nil)) (.isb none (.bv 3) (.bnd (.ite (.bv 3) true (.cst (.bool true)) (.op (.bin .eql) (.cons (.inp 0) (.cons (.cst (.int .i32 1025)) .nil)))) (.chk (some ((.bv 4), false)) (.bin .eql) (.cons (.inp 0) (.cons (.cst (.int .i32 1105)) .nil)) (.isb none (.bv 4) (.done [(1, (.ite (.bv 4) true (.cst (.bool true)) (.op (.bin .eql) (.cons (.inp 0) (.cons (.cst (.int .i32 1105)) .nil)))))] none)))))))))))))))))) .ret) Q env w := rfl
def h102_1 : HC := (.seq (.reg (.done [(1, (.cst (.bool true)))] none)) .ret)
@[simp] theorem h102_1_wp {P : Program} {F : PF P} {Q : EX → List Value → World → Prop} {env : List Value} {w : World} : h102_1.wp F Q env w = HC.wp F (.seq (.reg (.done [(1, (.cst (.bool true)))] none)) .ret) Q env w := rfl
def h102_2 : HC := (.seq (.reg (.chk none (.bin .neq) (.cons (.inp 0) (.cons (.cst (.int .i32 215)) .nil)) (.bnd (.op (.bin .neq) (.cons (.inp 0) (.cons (.cst (.int .i32 215)) .nil))) (.chk (some ((.bv 0), true)) (.bin .neq) (.cons (.inp 0) (.cons (.cst (.int .i32 247)) .nil)) (.isb none (.bv 0) (.done [(1, (.ite (.bv 0) true (.op (.bin .neq) (.cons (.inp 0) (.cons (.cst (.int .i32 247)) .nil))) (.cst (.bool false))))] none)))))) .ret)
@[simp] theorem h102_2_wp {P : Program} {F : PF P} {Q : EX → List Value → World → Prop} {env : List Value} {w : World} : h102_2.wp F Q env w = HC.wp F (.seq (.reg (.chk none (.bin .neq) (.cons (.inp 0) (.cons (.cst (.int .i32 215)) .nil)) (.bnd (.op (.bin .neq) (.cons (.inp 0) (.cons (.cst (.int .i32 215)) .nil))) (.chk (some ((.bv 0), true)) (.bin .neq) (.cons (.inp 0) (.cons (.cst (.int .i32 247)) .nil)) (.isb none (.bv 0) (.done [(1, (.ite (.bv 0) true (.op (.bin .neq) (.cons (.inp 0) (.cons (.cst (.int .i32 247)) .nil))) (.cst (.bool false))))] none)))))) .ret) Q env w := rfl
def h102_3 : HC := (.seq (.reg (.chk none (.bin .neq) (.cons (.inp 0) (.cons (.cst (.int .i32 930)) .nil)) (.done [(1, (.op (.bin .neq) (.cons (.inp 0) (.cons (.cst (.int .i32 930)) .nil))))] none))) .ret)
@[simp] theorem h102_3_wp {P : Program} {F : PF P} {Q : EX → List Value → World → Prop} {env : List Value} {w : World} : h102_3.wp F Q env w = HC.wp F (.seq (.reg (.chk none (.bin .neq) (.cons (.inp 0) (.cons (.cst (.int .i32 930)) .nil)) (.done [(1, (.op (.bin .neq) (.cons (.inp 0) (.cons (.cst (.int .i32 930)) .nil))))] none))) .ret) Q env w := rfl
def h102_4 : HC := (.br (.chk none (.bin .geq) (.cons (.inp 0) (.cons (.cst (.int .i32 913)) .nil)) (.bnd (.op (.bin .geq) (.cons (.inp 0) (.cons (.cst (.int .i32 913)) .nil))) (.chk (some ((.bv 0), true)) (.bin .leq) (.cons (.inp 0) (.cons (.cst (.int .i32 937)) .nil)) (.isb none (.bv 0) (.done [] (some (.ite (.bv 0) true (.op (.bin .leq) (.cons (.inp 0) (.cons (.cst (.int .i32 937)) .nil))) (.cst (.bool false))))))))) h102_3 .skip)
@[simp] theorem h102_4_wp {P : Program} {F : PF P} {Q : EX → List Value → World → Prop} {env : List Value} {w : World} : h102_4.wp F Q env w = HC.wp F (.br (.chk none (.bin .geq) (.cons (.inp 0) (.cons (.cst (.int .i32 913)) .nil)) (.bnd (.op (.bin .geq) (.cons (.inp 0) (.cons (.cst (.int .i32 913)) .nil))) (.chk (some ((.bv 0), true)) (.bin .leq) (.cons (.inp 0) (.cons (.cst (.int .i32 937)) .nil)) (.isb none (.bv 0) (.done [] (some (.ite (.bv 0) true (.op (.bin .leq) (.cons (.inp 0) (.cons (.cst (.int .i32 937)) .nil))) (.cst (.bool false))))))))) h102_3 .skip) Q env w := rfl
def h102_5 : HC := (.br (.chk none (.bin .geq) (.cons (.inp 0) (.cons (.cst (.int .i32 192)) .nil)) (.bnd (.op (.bin .geq) (.cons (.inp 0) (.cons (.cst (.int .i32 192)) .nil))) (.chk (some ((.bv 0), true)) (.bin .leq) (.cons (.inp 0) (.cons (.cst (.int .i32 255)) .nil)) (.isb none (.bv 0) (.done [] (some (.ite (.bv 0) true (.op (.bin .leq) (.cons (.inp 0) (.cons (.cst (.int .i32 255)) .nil))) (.cst (.bool false))))))))) h102_2 h102_4)
@[simp] theorem h102_5_wp {P : Program} {F : PF P} {Q : EX → List Value → World → Prop} {env : List Value} {w : World} : h102_5.wp F Q env w = HC.wp F (.br (.chk none (.bin .geq) (.cons (.inp 0) (.cons (.cst (.int .i32 192)) .nil)) (.bnd (.op (.bin .geq) (.cons (.inp 0) (.cons (.cst (.int .i32 192)) .nil))) (.chk (some ((.bv 0), true)) (.bin .leq) (.cons (.inp 0) (.cons (.cst (.int .i32 255)) .nil)) (.isb none (.bv 0) (.done [] (some (.ite (.bv 0) true (.op (.bin .leq) (.cons (.inp 0) (.cons (.cst (.int .i32 255)) .nil))) (.cst (.bool false))))))))) h102_2 h102_4) Q env w := rfl
def h102_6 : HC := (.cnd 2 h102_1 h102_5)
@[simp] theorem h102_6_wp {P : Program} {F : PF P} {Q : EX → List Value → World → Prop} {env : List Value} {w : World} : h102_6.wp F Q env w = HC.wp F (.cnd 2 h102_1 h102_5) Q env w := rfl
def h102_7 : HC := (.reg (.chk none (.bin .geq) (.cons (.inp 0) (.cons (.cst (.int .i32 97)) .nil)) (.bnd (.op (.bin .geq) (.cons (.inp 0) (.cons (.cst (.int .i32 97)) .nil))) (.chk (some ((.bv 0), true)) (.bin .leq) (.cons (.inp 0) (.cons (.cst (.int .i32 122)) .nil)) (.isb none (.bv 0) (.done [(2, (.ite (.bv 0) true (.op (.bin .leq) (.cons (.inp 0) (.cons (.cst (.int .i32 122)) .nil))) (.cst (.bool false))))] none))))))
@[simp] theorem h102_7_wp {P : Program} {F : PF P} {Q : EX → List Value → World → Prop} {env : List Value} {w : World} : h102_7.wp F Q env w = HC.wp F (.reg (.chk none (.bin .geq) (.cons (.inp 0) (.cons (.cst (.int .i32 97)) .nil)) (.bnd (.op (.bin .geq) (.cons (.inp 0) (.cons (.cst (.int .i32 97)) .nil))) (.chk (some ((.bv 0), true)) (.bin .leq) (.cons (.inp 0) (.cons (.cst (.int .i32 122)) .nil)) (.isb none (.bv 0) (.done [(2, (.ite (.bv 0) true (.op (.bin .leq) (.cons (.inp 0) (.cons (.cst (.int .i32 122)) .nil))) (.cst (.bool false))))] none)))))) Q env w := rfl
def h102_8 : HC := (.cnd 2 .skip h102_7)
@[simp] theorem h102_8_wp {P : Program} {F : PF P} {Q : EX → List Value → World → Prop} {env : List Value} {w : World} : h102_8.wp F Q env w = HC.wp F (.cnd 2 .skip h102_7) Q env w := rfl
def h102_9 : HC := (.seq (.reg (.chk none (.bin .geq) (.cons (.inp 0) (.cons (.cst (.int .i32 65)) .nil)) (.bnd (.op (.bin .geq) (.cons (.inp 0) (.cons (.cst (.int .i32 65)) .nil))) (.chk (some ((.bv 0), true)) (.bin .leq) (.cons (.inp 0) (.cons (.cst (.int .i32 90)) .nil)) (.isb none (.bv 0) (.done [(2, (.ite (.bv 0) true (.op (.bin .leq) (.cons (.inp 0) (.cons (.cst (.int .i32 90)) .nil))) (.cst (.bool false))))] none)))))) h102_8)
@[simp] theorem h102_9_wp {P : Program} {F : PF P} {Q : EX → List Value → World → Prop} {env : List Value} {w : World} : h102_9.wp F Q env w = HC.wp F (.seq (.reg (.chk none (.bin .geq) (.cons (.inp 0) (.cons (.cst (.int .i32 65)) .nil)) (.bnd (.op (.bin .geq) (.cons (.inp 0) (.cons (.cst (.int .i32 65)) .nil))) (.chk (some ((.bv 0), true)) (.bin .leq) (.cons (.inp 0) (.cons (.cst (.int .i32 90)) .nil)) (.isb none (.bv 0) (.done [(2, (.ite (.bv 0) true (.op (.bin .leq) (.cons (.inp 0) (.cons (.cst (.int .i32 90)) .nil))) (.cst (.bool false))))] none)))))) h102_8) Q env w := rfl
def h102_10 : HC := (.seq (.cnd 2 .skip h102_9) h102_6)
@[simp] theorem h102_10_wp {P : Program} {F : PF P} {Q : EX → List Value → World → Prop} {env : List Value} {w : World} : h102_10.wp F Q env w = HC.wp F (.seq (.cnd 2 .skip h102_9) h102_6) Q env w := rfl
def h102_11 : HC := (.seq (.reg (.chk none (.bin .geq) (.cons (.inp 0) (.cons (.cst (.int .i32 48)) .nil)) (.bnd (.op (.bin .geq) (.cons (.inp 0) (.cons (.cst (.int .i32 48)) .nil))) (.chk (some ((.bv 0), true)) (.bin .leq) (.cons (.inp 0) (.cons (.cst (.int .i32 57)) .nil)) (.isb none (.bv 0) (.done [(2, (.ite (.bv 0) true (.op (.bin .leq) (.cons (.inp 0) (.cons (.cst (.int .i32 57)) .nil))) (.cst (.bool false))))] none)))))) h102_10)
@[simp] theorem h102_11_wp {P : Program} {F : PF P} {Q : EX → List Value → World → Prop} {env : List Value} {w : World} : h102_11.wp F Q env w = HC.wp F (.seq (.reg (.chk none (.bin .geq) (.cons (.inp 0) (.cons (.cst (.int .i32 48)) .nil)) (.bnd (.op (.bin .geq) (.cons (.inp 0) (.cons (.cst (.int .i32 48)) .nil))) (.chk (some ((.bv 0), true)) (.bin .leq) (.cons (.inp 0) (.cons (.cst (.int .i32 57)) .nil)) (.isb none (.bv 0) (.done [(2, (.ite (.bv 0) true (.op (.bin .leq) (.cons (.inp 0) (.cons (.cst (.int .i32 57)) .nil))) (.cst (.bool false))))] none)))))) h102_10) Q env w := rfl
def h102_12 : HC := (.seq (.block 0 h102_11) h102_0)
@[simp] theorem h102_12_wp {P : Program} {F : PF P} {Q : EX → List Value → World → Prop} {env : List Value} {w : World} : h102_12.wp F Q env w = HC.wp F (.seq (.block 0 h102_11) h102_0) Q env w := rfl
def l102 : Lifted := ⟨[0, 2, 3], 66, [.slot 1], (.seq (.reg (.done [(1, (.cst (.bool false)))] none)) h102_12)⟩
theorem l102_ok : liftFn F0 102 400 = some l102 := by kernel_rfl

-- bazaar/name.fold
def h160_0 : HC := (.seq (.reg (.done [(1, (.inp 0))] none)) .ret)
@[simp] theorem h160_0_wp {P : Program} {F : PF P} {Q : EX → List Value → World → Prop} {env : List Value} {w : World} : h160_0.wp F Q env w = HC.wp F (.seq (.reg (.done [(1, (.inp 0))] none)) .ret) Q env w := rfl
def h160_1 : HC := (.seq (.reg (.chk none (.bin .add) (.cons (.inp 0) (.cons (.cst (.int .i32 32)) .nil)) (.done [(1, (.op (.bin .add) (.cons (.inp 0) (.cons (.cst (.int .i32 32)) .nil))))] none))) .ret)
@[simp] theorem h160_1_wp {P : Program} {F : PF P} {Q : EX → List Value → World → Prop} {env : List Value} {w : World} : h160_1.wp F Q env w = HC.wp F (.seq (.reg (.chk none (.bin .add) (.cons (.inp 0) (.cons (.cst (.int .i32 32)) .nil)) (.done [(1, (.op (.bin .add) (.cons (.inp 0) (.cons (.cst (.int .i32 32)) .nil))))] none))) .ret) Q env w := rfl
def h160_2 : HC := (.seq (.reg (.done [(1, (.cst (.int .i32 1105)))] none)) .ret)
@[simp] theorem h160_2_wp {P : Program} {F : PF P} {Q : EX → List Value → World → Prop} {env : List Value} {w : World} : h160_2.wp F Q env w = HC.wp F (.seq (.reg (.done [(1, (.cst (.int .i32 1105)))] none)) .ret) Q env w := rfl
def h160_3 : HC := (.seq (.reg (.done [(1, (.cst (.int .i32 963)))] none)) .ret)
@[simp] theorem h160_3_wp {P : Program} {F : PF P} {Q : EX → List Value → World → Prop} {env : List Value} {w : World} : h160_3.wp F Q env w = HC.wp F (.seq (.reg (.done [(1, (.cst (.int .i32 963)))] none)) .ret) Q env w := rfl
def h160_4 : HC := (.br (.chk none (.bin .eql) (.cons (.inp 0) (.cons (.cst (.int .i32 962)) .nil)) (.done [] (some (.op (.bin .eql) (.cons (.inp 0) (.cons (.cst (.int .i32 962)) .nil)))))) h160_3 .skip)
@[simp] theorem h160_4_wp {P : Program} {F : PF P} {Q : EX → List Value → World → Prop} {env : List Value} {w : World} : h160_4.wp F Q env w = HC.wp F (.br (.chk none (.bin .eql) (.cons (.inp 0) (.cons (.cst (.int .i32 962)) .nil)) (.done [] (some (.op (.bin .eql) (.cons (.inp 0) (.cons (.cst (.int .i32 962)) .nil)))))) h160_3 .skip) Q env w := rfl
def h160_5 : HC := (.br (.chk none (.bin .eql) (.cons (.inp 0) (.cons (.cst (.int .i32 1025)) .nil)) (.done [] (some (.op (.bin .eql) (.cons (.inp 0) (.cons (.cst (.int .i32 1025)) .nil)))))) h160_2 h160_4)
@[simp] theorem h160_5_wp {P : Program} {F : PF P} {Q : EX → List Value → World → Prop} {env : List Value} {w : World} : h160_5.wp F Q env w = HC.wp F (.br (.chk none (.bin .eql) (.cons (.inp 0) (.cons (.cst (.int .i32 1025)) .nil)) (.done [] (some (.op (.bin .eql) (.cons (.inp 0) (.cons (.cst (.int .i32 1025)) .nil)))))) h160_2 h160_4) Q env w := rfl
def h160_6 : HC := (.cnd 2 h160_1 h160_5)
@[simp] theorem h160_6_wp {P : Program} {F : PF P} {Q : EX → List Value → World → Prop} {env : List Value} {w : World} : h160_6.wp F Q env w = HC.wp F (.cnd 2 h160_1 h160_5) Q env w := rfl
def h160_7 : HC := (.reg (.chk none (.bin .geq) (.cons (.inp 0) (.cons (.cst (.int .i32 1040)) .nil)) (.bnd (.op (.bin .geq) (.cons (.inp 0) (.cons (.cst (.int .i32 1040)) .nil))) (.chk (some ((.bv 0), true)) (.bin .leq) (.cons (.inp 0) (.cons (.cst (.int .i32 1071)) .nil)) (.isb none (.bv 0) (.done [(2, (.ite (.bv 0) true (.op (.bin .leq) (.cons (.inp 0) (.cons (.cst (.int .i32 1071)) .nil))) (.cst (.bool false))))] none))))))
@[simp] theorem h160_7_wp {P : Program} {F : PF P} {Q : EX → List Value → World → Prop} {env : List Value} {w : World} : h160_7.wp F Q env w = HC.wp F (.reg (.chk none (.bin .geq) (.cons (.inp 0) (.cons (.cst (.int .i32 1040)) .nil)) (.bnd (.op (.bin .geq) (.cons (.inp 0) (.cons (.cst (.int .i32 1040)) .nil))) (.chk (some ((.bv 0), true)) (.bin .leq) (.cons (.inp 0) (.cons (.cst (.int .i32 1071)) .nil)) (.isb none (.bv 0) (.done [(2, (.ite (.bv 0) true (.op (.bin .leq) (.cons (.inp 0) (.cons (.cst (.int .i32 1071)) .nil))) (.cst (.bool false))))] none)))))) Q env w := rfl
def h160_8 : HC := (.cnd 2 .skip h160_7)
@[simp] theorem h160_8_wp {P : Program} {F : PF P} {Q : EX → List Value → World → Prop} {env : List Value} {w : World} : h160_8.wp F Q env w = HC.wp F (.cnd 2 .skip h160_7) Q env w := rfl
def h160_9 : HC := (.seq (.reg (.chk none (.bin .geq) (.cons (.inp 0) (.cons (.cst (.int .i32 913)) .nil)) (.bnd (.op (.bin .geq) (.cons (.inp 0) (.cons (.cst (.int .i32 913)) .nil))) (.chk (some ((.bv 0), true)) (.bin .leq) (.cons (.inp 0) (.cons (.cst (.int .i32 937)) .nil)) (.isb none (.bv 0) (.bnd (.ite (.bv 0) true (.op (.bin .leq) (.cons (.inp 0) (.cons (.cst (.int .i32 937)) .nil))) (.cst (.bool false))) (.chk (some ((.bv 1), true)) (.bin .neq) (.cons (.inp 0) (.cons (.cst (.int .i32 930)) .nil)) (.isb none (.bv 1) (.done [(2, (.ite (.bv 1) true (.op (.bin .neq) (.cons (.inp 0) (.cons (.cst (.int .i32 930)) .nil))) (.cst (.bool false))))] none))))))))) h160_8)
@[simp] theorem h160_9_wp {P : Program} {F : PF P} {Q : EX → List Value → World → Prop} {env : List Value} {w : World} : h160_9.wp F Q env w = HC.wp F (.seq (.reg (.chk none (.bin .geq) (.cons (.inp 0) (.cons (.cst (.int .i32 913)) .nil)) (.bnd (.op (.bin .geq) (.cons (.inp 0) (.cons (.cst (.int .i32 913)) .nil))) (.chk (some ((.bv 0), true)) (.bin .leq) (.cons (.inp 0) (.cons (.cst (.int .i32 937)) .nil)) (.isb none (.bv 0) (.bnd (.ite (.bv 0) true (.op (.bin .leq) (.cons (.inp 0) (.cons (.cst (.int .i32 937)) .nil))) (.cst (.bool false))) (.chk (some ((.bv 1), true)) (.bin .neq) (.cons (.inp 0) (.cons (.cst (.int .i32 930)) .nil)) (.isb none (.bv 1) (.done [(2, (.ite (.bv 1) true (.op (.bin .neq) (.cons (.inp 0) (.cons (.cst (.int .i32 930)) .nil))) (.cst (.bool false))))] none))))))))) h160_8) Q env w := rfl
def h160_10 : HC := (.cnd 2 .skip h160_9)
@[simp] theorem h160_10_wp {P : Program} {F : PF P} {Q : EX → List Value → World → Prop} {env : List Value} {w : World} : h160_10.wp F Q env w = HC.wp F (.cnd 2 .skip h160_9) Q env w := rfl
def h160_11 : HC := (.seq (.reg (.chk none (.bin .geq) (.cons (.inp 0) (.cons (.cst (.int .i32 192)) .nil)) (.bnd (.op (.bin .geq) (.cons (.inp 0) (.cons (.cst (.int .i32 192)) .nil))) (.chk (some ((.bv 0), true)) (.bin .leq) (.cons (.inp 0) (.cons (.cst (.int .i32 222)) .nil)) (.isb none (.bv 0) (.bnd (.ite (.bv 0) true (.op (.bin .leq) (.cons (.inp 0) (.cons (.cst (.int .i32 222)) .nil))) (.cst (.bool false))) (.chk (some ((.bv 1), true)) (.bin .neq) (.cons (.inp 0) (.cons (.cst (.int .i32 215)) .nil)) (.isb none (.bv 1) (.done [(2, (.ite (.bv 1) true (.op (.bin .neq) (.cons (.inp 0) (.cons (.cst (.int .i32 215)) .nil))) (.cst (.bool false))))] none))))))))) h160_10)
@[simp] theorem h160_11_wp {P : Program} {F : PF P} {Q : EX → List Value → World → Prop} {env : List Value} {w : World} : h160_11.wp F Q env w = HC.wp F (.seq (.reg (.chk none (.bin .geq) (.cons (.inp 0) (.cons (.cst (.int .i32 192)) .nil)) (.bnd (.op (.bin .geq) (.cons (.inp 0) (.cons (.cst (.int .i32 192)) .nil))) (.chk (some ((.bv 0), true)) (.bin .leq) (.cons (.inp 0) (.cons (.cst (.int .i32 222)) .nil)) (.isb none (.bv 0) (.bnd (.ite (.bv 0) true (.op (.bin .leq) (.cons (.inp 0) (.cons (.cst (.int .i32 222)) .nil))) (.cst (.bool false))) (.chk (some ((.bv 1), true)) (.bin .neq) (.cons (.inp 0) (.cons (.cst (.int .i32 215)) .nil)) (.isb none (.bv 1) (.done [(2, (.ite (.bv 1) true (.op (.bin .neq) (.cons (.inp 0) (.cons (.cst (.int .i32 215)) .nil))) (.cst (.bool false))))] none))))))))) h160_10) Q env w := rfl
def h160_12 : HC := (.seq (.cnd 2 .skip h160_11) h160_6)
@[simp] theorem h160_12_wp {P : Program} {F : PF P} {Q : EX → List Value → World → Prop} {env : List Value} {w : World} : h160_12.wp F Q env w = HC.wp F (.seq (.cnd 2 .skip h160_11) h160_6) Q env w := rfl
def h160_13 : HC := (.seq (.reg (.chk none (.bin .geq) (.cons (.inp 0) (.cons (.cst (.int .i32 65)) .nil)) (.bnd (.op (.bin .geq) (.cons (.inp 0) (.cons (.cst (.int .i32 65)) .nil))) (.chk (some ((.bv 0), true)) (.bin .leq) (.cons (.inp 0) (.cons (.cst (.int .i32 90)) .nil)) (.isb none (.bv 0) (.done [(2, (.ite (.bv 0) true (.op (.bin .leq) (.cons (.inp 0) (.cons (.cst (.int .i32 90)) .nil))) (.cst (.bool false))))] none)))))) h160_12)
@[simp] theorem h160_13_wp {P : Program} {F : PF P} {Q : EX → List Value → World → Prop} {env : List Value} {w : World} : h160_13.wp F Q env w = HC.wp F (.seq (.reg (.chk none (.bin .geq) (.cons (.inp 0) (.cons (.cst (.int .i32 65)) .nil)) (.bnd (.op (.bin .geq) (.cons (.inp 0) (.cons (.cst (.int .i32 65)) .nil))) (.chk (some ((.bv 0), true)) (.bin .leq) (.cons (.inp 0) (.cons (.cst (.int .i32 90)) .nil)) (.isb none (.bv 0) (.done [(2, (.ite (.bv 0) true (.op (.bin .leq) (.cons (.inp 0) (.cons (.cst (.int .i32 90)) .nil))) (.cst (.bool false))))] none)))))) h160_12) Q env w := rfl
def h160_14 : HC := (.seq (.block 0 h160_13) h160_0)
@[simp] theorem h160_14_wp {P : Program} {F : PF P} {Q : EX → List Value → World → Prop} {env : List Value} {w : World} : h160_14.wp F Q env w = HC.wp F (.seq (.block 0 h160_13) h160_0) Q env w := rfl
def l160 : Lifted := ⟨[0, 2, 3], 45, [.slot 1], (.seq (.reg (.done [(1, (.cst (.int .i32 0)))] none)) h160_14)⟩
theorem l160_ok : liftFn F0 160 400 = some l160 := by kernel_rfl

-- internal/stringslite.HasPrefix
def h158_0 : HC := (.seq (.reg (.chk none .lenS (.cons (.inp 0) .nil) (.chk none .lenS (.cons (.inp 1) .nil) (.chk none (.bin .geq) (.cons (.op .lenS (.cons (.inp 0) .nil)) (.cons (.op .lenS (.cons (.inp 1) .nil)) .nil)) (.bnd (.op (.bin .geq) (.cons (.op .lenS (.cons (.inp 0) .nil)) (.cons (.op .lenS (.cons (.inp 1) .nil)) .nil))) (.chk (some ((.bv 0), true)) .lenS (.cons (.inp 1) .nil) (.chk (some ((.bv 0), true)) (.slS false true) (.cons (.inp 0) (.cons (.op .lenS (.cons (.inp 1) .nil)) .nil)) (.chk (some ((.bv 0), true)) (.bin .eql) (.cons (.op (.slS false true) (.cons (.inp 0) (.cons (.op .lenS (.cons (.inp 1) .nil)) .nil))) (.cons (.inp 1) .nil)) (.isb none (.bv 0) (.done [(2, (.ite (.bv 0) true (.op (.bin .eql) (.cons (.op (.slS false true) (.cons (.inp 0) (.cons (.op .lenS (.cons (.inp 1) .nil)) .nil))) (.cons (.inp 1) .nil))) (.cst (.bool false))))] none)))))))))) .ret)
@[simp] theorem h158_0_wp {P : Program} {F : PF P} {Q : EX → List Value → World → Prop} {env : List Value} {w : World} : h158_0.wp F Q env w = HC.wp F (.seq (.reg (.chk none .lenS (.cons (.inp 0) .nil) (.chk none .lenS (.cons (.inp 1) .nil) (.chk none (.bin .geq) (.cons (.op .lenS (.cons (.inp 0) .nil)) (.cons (.op .lenS (.cons (.inp 1) .nil)) .nil)) (.bnd (.op (.bin .geq) (.cons (.op .lenS (.cons (.inp 0) .nil)) (.cons (.op .lenS (.cons (.inp 1) .nil)) .nil))) (.chk (some ((.bv 0), true)) .lenS (.cons (.inp 1) .nil) (.chk (some ((.bv 0), true)) (.slS false true) (.cons (.inp 0) (.cons (.op .lenS (.cons (.inp 1) .nil)) .nil)) (.chk (some ((.bv 0), true)) (.bin .eql) (.cons (.op (.slS false true) (.cons (.inp 0) (.cons (.op .lenS (.cons (.inp 1) .nil)) .nil))) (.cons (.inp 1) .nil)) (.isb none (.bv 0) (.done [(2, (.ite (.bv 0) true (.op (.bin .eql) (.cons (.op (.slS false true) (.cons (.inp 0) (.cons (.op .lenS (.cons (.inp 1) .nil)) .nil))) (.cons (.inp 1) .nil))) (.cst (.bool false))))] none)))))))))) .ret) Q env w := rfl
def l158 : Lifted := ⟨[0, 1, 4], 18, [.slot 2], (.seq (.reg (.done [(2, (.cst (.bool false)))] none)) h158_0)⟩
theorem l158_ok : liftFn F0 158 400 = some l158 := by kernel_rfl



theorem tail_spec (l : List UInt8) (i n : Nat) (v : Int) (w : World) (hi : i < l.length) (hn : n ≤ 3) (hv : 0 ≤ v) (hv2 : v < 32) (hl : l.length ≤ 1048576) :
    CallW Tryz.prog 167 [.string (mk l), .int .i64 i, .int .i64 n, .int .i64 v] (fun r w' =>
      r = (match tailF (l.drop (i + 1)) n v with | some u => .tuple #[.int .i64 u, .bool true] | none => .tuple #[.int .i64 0, .bool false]) ∧ w' = w) w := by
  refine callW_of_lift l167_ok (by simp [l167]) ?_
  simp [l167]
  refine loopI (fun env w' => ∃ (k : Nat) (x : Int), env = [.string (mk l), .int .i64 i, .int .i64 n, .int .i64 x, .int .i64 0, .bool false, .int .i64 (k + 1 : Nat)] ∧ w' = w ∧ k ≤ n ∧ 0 ≤ x ∧ x < 32 * 64 ^ k ∧
      tailF (l.drop (i + 1)) n v = tailF (l.drop (i + 1 + k)) (n - k) x) (fun env _ => 5 - slotN env 6) ⟨0, v, by simp, rfl, by omega, hv, by simpa using hv2, rfl⟩ ?_
  rintro LQ env w' ⟨k, x, rfl, rfl, hk, hx, hx2, ht⟩ hN hE hR
  have hx3 : x < 8388608 := by
    have : k = 0 ∨ k = 1 ∨ k = 2 ∨ k = 3 := by omega
    rcases this with rfl | rfl | rfl | rfl <;> omega
  simp
  refine cndI (fun h => ?_) (fun h => ?_)
  · simp at h
    have e0 : n - k = (n - (k + 1)) + 1 := by omega
    rw [e0, tailF_cons] at ht
    have hg : (l.drop (i + 1 + k)).getD 0 0 = l[i + (k + 1)]?.getD 0 := by simp [List.getElem?_drop, Nat.add_comm, Nat.add_left_comm]
    have hc : contAt (l.drop (i + 1 + k)) 0 = decide (i + (k + 1) < l.length ∧ 128 ≤ (l[i + (k + 1)]?.getD 0).toNat ∧ (l[i + (k + 1)]?.getD 0).toNat ≤ 191) := by
      simp only [contAt, hg, List.length_drop]
      rw [Bool.eq_iff_iff]
      simp
      omega
    have hb := (l[i + (k + 1)]?.getD 0).toNat_lt
    have ei : ((i : Int) + ((k : Int) + 1)).toNat = i + (k + 1) := by omega
    rw [hc, hg] at ht
    simp
    try simp (disch := omega) only [wrap64, ei]
    refine ⟨by omega, by omega, ?_⟩
    refine cndI (fun h2 => ?_) (fun h2 => ?_)
    · simp only [Bool.or_eq_true, decide_eq_true_eq] at h2
      simp
      refine hR _ _ ?_
      simp
      rw [ht, if_neg (by simp; omega)]
    · simp at h2
      rw [if_pos (by simp; omega)] at ht
      simp
      try simp (disch := omega) only [wrap64, ei]
      refine ⟨by omega, hN _ _ ⟨k + 1, x * 64 + (l[i + (k + 1)]?.getD 0).toNat - 128, by simp, rfl, by omega, by omega, by rw [Int.pow_succ]; omega, ?_⟩ (by simp [slotN]; omega)⟩
      rw [ht]
      simp [Nat.add_assoc]
  · simp at h
    simp
    refine hE _ _ _ ?_
    simp
    have : k = n := by omega
    subst this
    rw [ht]
    simp [tailF_zero]

def inF (u lo hi : Int) : Bool := decide (lo ≤ u) && decide (u ≤ hi)
theorem in_spec (u lo hi : Int) (w : World) : CallW Tryz.prog 150 [.int .i64 u, .int .i64 lo, .int .i64 hi] (fun r w' => r = .bool (inF u lo hi) ∧ w' = w) w := by
  refine callW_of_lift l150_ok (by simp [l150]) ?_
  simp [l150, inF]
def joinerF (u : Int) : Bool := decide (u = 32) || decide (u = 45) || decide (u = 95)
theorem rjoiner_spec (u : Int) (w : World) : CallW Tryz.prog 118 [.int .i64 u] (fun r w' => r = .bool (joinerF u) ∧ w' = w) w := by
  refine callW_of_lift l118_ok (by simp [l118]) ?_
  simp [l118, joinerF]
theorem joiner_spec (u : Int) (w : World) : CallW Tryz.prog 103 [.int .i32 u] (fun r w' => r = .bool (joinerF u) ∧ w' = w) w := by
  refine callW_of_lift l103_ok (by simp [l103]) ?_
  simp [l103, joinerF]
def letterF (u : Int) : Bool := !(decide (u = 215) || decide (u = 247) || decide (u = 930)) &&
  (inF u 48 57 || inF u 65 90 || inF u 97 122 || inF u 192 255 || inF u 913 937 || inF u 945 969 || decide (u = 1025) || inF u 1040 1103 || decide (u = 1105))
theorem letter_spec (u : Int) (w : World) : CallW Tryz.prog 102 [.int .i32 u] (fun r w' => r = .bool (letterF u) ∧ w' = w) w := by
  refine callW_of_lift l102_ok (by simp [l102]) ?_
  simp [l102, condC_ite, letterF, inF]
  repeat' split
  all_goals (try simp)
  all_goals (try (rw [Bool.eq_iff_iff]; simp))
  all_goals omega
def foldF (u : Int) : Int :=
  if (65 ≤ u ∧ u ≤ 90) ∨ (192 ≤ u ∧ u ≤ 222 ∧ u ≠ 215) ∨ (913 ≤ u ∧ u ≤ 937 ∧ u ≠ 930) ∨ (1040 ≤ u ∧ u ≤ 1071) then u + 32
  else if u = 1025 then 1105 else if u = 962 then 963 else u
theorem fold_spec (u : Int) (w : World) (h0 : 0 ≤ u) (h1 : u < 2097408) : CallW Tryz.prog 160 [.int .i32 u] (fun r w' => r = .int .i32 (foldF u) ∧ w' = w) w := by
  refine callW_of_lift l160_ok (by simp [l160]) ?_
  simp [l160, condC_ite, foldF]
  repeat' split
  all_goals (try simp (disch := omega) only [wrap32])
  all_goals (try (first | rfl | omega))
theorem slhp_spec (s p : List UInt8) (w : World) (hs : s.length ≤ 1048576) : CallW Tryz.prog 158 [.string (mk s), .string (mk p)] (fun r w' => r = .bool (p.isPrefixOf s) ∧ w' = w) w := by
  refine callW_of_lift l158_ok (by simp [l158]) ?_
  simp [l158]
  rw [Bool.eq_iff_iff]
  simp only [Bool.and_eq_true, decide_eq_true_eq, beq_iff_eq, List.isPrefixOf_iff_prefix]
  constructor
  · rintro ⟨h1, h2⟩
    exact List.prefix_iff_eq_take.2 h2.symm
  · intro h
    exact ⟨h.length_le, (List.prefix_iff_eq_take.1 h).symm⟩
end Go.HL.Nm

namespace Go.HL.Nm
open Go.HL Go.Proofs
set_option maxRecDepth 4000
set_option linter.unusedSimpArgs false
set_option linter.unusedVariables false
-- bazaar/bazaarref04.One
def h149_0 : HC := (.seq (.reg (.chk none (.bin .add) (.cons (.cst (.int .i64 1)) (.cons (.inp 6) .nil)) (.done [(2, (.inp 5)), (3, (.op (.bin .add) (.cons (.cst (.int .i64 1)) (.cons (.inp 6) .nil))))] none))) .ret)
@[simp] theorem h149_0_wp {P : Program} {F : PF P} {Q : EX → List Value → World → Prop} {env : List Value} {w : World} : h149_0.wp F Q env w = HC.wp F (.seq (.reg (.chk none (.bin .add) (.cons (.cst (.int .i64 1)) (.cons (.inp 6) .nil)) (.done [(2, (.inp 5)), (3, (.op (.bin .add) (.cons (.cst (.int .i64 1)) (.cons (.inp 6) .nil))))] none))) .ret) Q env w := rfl
def h149_1 : HC := (.seq (.reg (.chk none (.bin .add) (.cons (.cst (.int .i64 2097152)) (.cons (.inp 4) .nil)) (.done [(2, (.op (.bin .add) (.cons (.cst (.int .i64 2097152)) (.cons (.inp 4) .nil)))), (3, (.cst (.int .i64 1)))] none))) .ret)
@[simp] theorem h149_1_wp {P : Program} {F : PF P} {Q : EX → List Value → World → Prop} {env : List Value} {w : World} : h149_1.wp F Q env w = HC.wp F (.seq (.reg (.chk none (.bin .add) (.cons (.cst (.int .i64 2097152)) (.cons (.inp 4) .nil)) (.done [(2, (.op (.bin .add) (.cons (.cst (.int .i64 2097152)) (.cons (.inp 4) .nil)))), (3, (.cst (.int .i64 1)))] none))) .ret) Q env w := rfl
def h149_2 : HC := (.seq (.br (.chk none (.un .not) (.cons (.inp 8) .nil) (.bnd (.op (.un .not) (.cons (.inp 8) .nil)) (.chk (some ((.bv 0), false)) (.bin .lss) (.cons (.inp 5) (.cons (.inp 7) .nil)) (.isb none (.bv 0) (.bnd (.ite (.bv 0) true (.cst (.bool true)) (.op (.bin .lss) (.cons (.inp 5) (.cons (.inp 7) .nil)))) (.chk (some ((.bv 1), false)) (.bin .gtr) (.cons (.inp 5) (.cons (.cst (.int .i64 1114111)) .nil)) (.isb none (.bv 1) (.bnd (.ite (.bv 1) true (.cst (.bool true)) (.op (.bin .gtr) (.cons (.inp 5) (.cons (.cst (.int .i64 1114111)) .nil)))) (.chk (some ((.bv 2), false)) (.bin .geq) (.cons (.inp 5) (.cons (.cst (.int .i64 55296)) .nil)) (.bnd (.ite (.bv 2) false (.op (.bin .geq) (.cons (.inp 5) (.cons (.cst (.int .i64 55296)) .nil))) (.cst (.tuple #[]))) (.chk (some ((.bv 3), true)) (.bin .leq) (.cons (.inp 5) (.cons (.cst (.int .i64 57343)) .nil)) (.isb (some ((.bv 2), false)) (.bv 3) (.isb none (.bv 2) (.done [] (some (.ite (.bv 2) true (.cst (.bool true)) (.ite (.bv 3) true (.op (.bin .leq) (.cons (.inp 5) (.cons (.cst (.int .i64 57343)) .nil))) (.cst (.bool false))))))))))))))))))) h149_1 .skip) h149_0)
@[simp] theorem h149_2_wp {P : Program} {F : PF P} {Q : EX → List Value → World → Prop} {env : List Value} {w : World} : h149_2.wp F Q env w = HC.wp F (.seq (.br (.chk none (.un .not) (.cons (.inp 8) .nil) (.bnd (.op (.un .not) (.cons (.inp 8) .nil)) (.chk (some ((.bv 0), false)) (.bin .lss) (.cons (.inp 5) (.cons (.inp 7) .nil)) (.isb none (.bv 0) (.bnd (.ite (.bv 0) true (.cst (.bool true)) (.op (.bin .lss) (.cons (.inp 5) (.cons (.inp 7) .nil)))) (.chk (some ((.bv 1), false)) (.bin .gtr) (.cons (.inp 5) (.cons (.cst (.int .i64 1114111)) .nil)) (.isb none (.bv 1) (.bnd (.ite (.bv 1) true (.cst (.bool true)) (.op (.bin .gtr) (.cons (.inp 5) (.cons (.cst (.int .i64 1114111)) .nil)))) (.chk (some ((.bv 2), false)) (.bin .geq) (.cons (.inp 5) (.cons (.cst (.int .i64 55296)) .nil)) (.bnd (.ite (.bv 2) false (.op (.bin .geq) (.cons (.inp 5) (.cons (.cst (.int .i64 55296)) .nil))) (.cst (.tuple #[]))) (.chk (some ((.bv 3), true)) (.bin .leq) (.cons (.inp 5) (.cons (.cst (.int .i64 57343)) .nil)) (.isb (some ((.bv 2), false)) (.bv 3) (.isb none (.bv 2) (.done [] (some (.ite (.bv 2) true (.cst (.bool true)) (.ite (.bv 3) true (.op (.bin .leq) (.cons (.inp 5) (.cons (.cst (.int .i64 57343)) .nil))) (.cst (.bool false))))))))))))))))))) h149_1 .skip) h149_0) Q env w := rfl
def h149_3 : HC := (.seq (.reg (.eff (.call 167) (.cons (.inp 0) (.cons (.inp 1) (.cons (.inp 6) (.cons (.inp 5) .nil)))) (.chk none (.ext 0) (.cons (.bv 0) .nil) (.chk none (.ext 1) (.cons (.bv 0) .nil) (.done [(5, (.op (.ext 0) (.cons (.bv 0) .nil))), (8, (.op (.ext 1) (.cons (.bv 0) .nil)))] none))))) h149_2)
@[simp] theorem h149_3_wp {P : Program} {F : PF P} {Q : EX → List Value → World → Prop} {env : List Value} {w : World} : h149_3.wp F Q env w = HC.wp F (.seq (.reg (.eff (.call 167) (.cons (.inp 0) (.cons (.inp 1) (.cons (.inp 6) (.cons (.inp 5) .nil)))) (.chk none (.ext 0) (.cons (.bv 0) .nil) (.chk none (.ext 1) (.cons (.bv 0) .nil) (.done [(5, (.op (.ext 0) (.cons (.bv 0) .nil))), (8, (.op (.ext 1) (.cons (.bv 0) .nil)))] none))))) h149_2) Q env w := rfl
def h149_4 : HC := (.seq (.reg (.done [(2, (.inp 4)), (3, (.cst (.int .i64 1)))] none)) .ret)
@[simp] theorem h149_4_wp {P : Program} {F : PF P} {Q : EX → List Value → World → Prop} {env : List Value} {w : World} : h149_4.wp F Q env w = HC.wp F (.seq (.reg (.done [(2, (.inp 4)), (3, (.cst (.int .i64 1)))] none)) .ret) Q env w := rfl
def h149_5 : HC := (.reg (.chk none (.bin .sub) (.cons (.inp 4) (.cons (.cst (.int .i64 192)) .nil)) (.done [(5, (.op (.bin .sub) (.cons (.inp 4) (.cons (.cst (.int .i64 192)) .nil)))), (6, (.cst (.int .i64 1))), (7, (.cst (.int .i64 128)))] none)))
@[simp] theorem h149_5_wp {P : Program} {F : PF P} {Q : EX → List Value → World → Prop} {env : List Value} {w : World} : h149_5.wp F Q env w = HC.wp F (.reg (.chk none (.bin .sub) (.cons (.inp 4) (.cons (.cst (.int .i64 192)) .nil)) (.done [(5, (.op (.bin .sub) (.cons (.inp 4) (.cons (.cst (.int .i64 192)) .nil)))), (6, (.cst (.int .i64 1))), (7, (.cst (.int .i64 128)))] none))) Q env w := rfl
def h149_6 : HC := (.reg (.chk none (.bin .sub) (.cons (.inp 4) (.cons (.cst (.int .i64 224)) .nil)) (.done [(5, (.op (.bin .sub) (.cons (.inp 4) (.cons (.cst (.int .i64 224)) .nil)))), (6, (.cst (.int .i64 2))), (7, (.cst (.int .i64 2048)))] none)))
@[simp] theorem h149_6_wp {P : Program} {F : PF P} {Q : EX → List Value → World → Prop} {env : List Value} {w : World} : h149_6.wp F Q env w = HC.wp F (.reg (.chk none (.bin .sub) (.cons (.inp 4) (.cons (.cst (.int .i64 224)) .nil)) (.done [(5, (.op (.bin .sub) (.cons (.inp 4) (.cons (.cst (.int .i64 224)) .nil)))), (6, (.cst (.int .i64 2))), (7, (.cst (.int .i64 2048)))] none))) Q env w := rfl
def h149_7 : HC := (.reg (.chk none (.bin .sub) (.cons (.inp 4) (.cons (.cst (.int .i64 240)) .nil)) (.done [(5, (.op (.bin .sub) (.cons (.inp 4) (.cons (.cst (.int .i64 240)) .nil)))), (6, (.cst (.int .i64 3))), (7, (.cst (.int .i64 65536)))] none)))
@[simp] theorem h149_7_wp {P : Program} {F : PF P} {Q : EX → List Value → World → Prop} {env : List Value} {w : World} : h149_7.wp F Q env w = HC.wp F (.reg (.chk none (.bin .sub) (.cons (.inp 4) (.cons (.cst (.int .i64 240)) .nil)) (.done [(5, (.op (.bin .sub) (.cons (.inp 4) (.cons (.cst (.int .i64 240)) .nil)))), (6, (.cst (.int .i64 3))), (7, (.cst (.int .i64 65536)))] none))) Q env w := rfl
def h149_8 : HC := (.seq (.reg (.chk none (.bin .add) (.cons (.cst (.int .i64 2097152)) (.cons (.inp 4) .nil)) (.done [(2, (.op (.bin .add) (.cons (.cst (.int .i64 2097152)) (.cons (.inp 4) .nil)))), (3, (.cst (.int .i64 1)))] none))) .ret)
@[simp] theorem h149_8_wp {P : Program} {F : PF P} {Q : EX → List Value → World → Prop} {env : List Value} {w : World} : h149_8.wp F Q env w = HC.wp F (.seq (.reg (.chk none (.bin .add) (.cons (.cst (.int .i64 2097152)) (.cons (.inp 4) .nil)) (.done [(2, (.op (.bin .add) (.cons (.cst (.int .i64 2097152)) (.cons (.inp 4) .nil)))), (3, (.cst (.int .i64 1)))] none))) .ret) Q env w := rfl
def h149_9 : HC := (.br (.chk none (.bin .geq) (.cons (.inp 4) (.cons (.cst (.int .i64 240)) .nil)) (.bnd (.op (.bin .geq) (.cons (.inp 4) (.cons (.cst (.int .i64 240)) .nil))) (.chk (some ((.bv 0), true)) (.bin .lss) (.cons (.inp 4) (.cons (.cst (.int .i64 248)) .nil)) (.isb none (.bv 0) (.done [] (some (.ite (.bv 0) true (.op (.bin .lss) (.cons (.inp 4) (.cons (.cst (.int .i64 248)) .nil))) (.cst (.bool false))))))))) h149_7 h149_8)
@[simp] theorem h149_9_wp {P : Program} {F : PF P} {Q : EX → List Value → World → Prop} {env : List Value} {w : World} : h149_9.wp F Q env w = HC.wp F (.br (.chk none (.bin .geq) (.cons (.inp 4) (.cons (.cst (.int .i64 240)) .nil)) (.bnd (.op (.bin .geq) (.cons (.inp 4) (.cons (.cst (.int .i64 240)) .nil))) (.chk (some ((.bv 0), true)) (.bin .lss) (.cons (.inp 4) (.cons (.cst (.int .i64 248)) .nil)) (.isb none (.bv 0) (.done [] (some (.ite (.bv 0) true (.op (.bin .lss) (.cons (.inp 4) (.cons (.cst (.int .i64 248)) .nil))) (.cst (.bool false))))))))) h149_7 h149_8) Q env w := rfl
def h149_10 : HC := (.br (.chk none (.bin .geq) (.cons (.inp 4) (.cons (.cst (.int .i64 224)) .nil)) (.bnd (.op (.bin .geq) (.cons (.inp 4) (.cons (.cst (.int .i64 224)) .nil))) (.chk (some ((.bv 0), true)) (.bin .lss) (.cons (.inp 4) (.cons (.cst (.int .i64 240)) .nil)) (.isb none (.bv 0) (.done [] (some (.ite (.bv 0) true (.op (.bin .lss) (.cons (.inp 4) (.cons (.cst (.int .i64 240)) .nil))) (.cst (.bool false))))))))) h149_6 h149_9)
@[simp] theorem h149_10_wp {P : Program} {F : PF P} {Q : EX → List Value → World → Prop} {env : List Value} {w : World} : h149_10.wp F Q env w = HC.wp F (.br (.chk none (.bin .geq) (.cons (.inp 4) (.cons (.cst (.int .i64 224)) .nil)) (.bnd (.op (.bin .geq) (.cons (.inp 4) (.cons (.cst (.int .i64 224)) .nil))) (.chk (some ((.bv 0), true)) (.bin .lss) (.cons (.inp 4) (.cons (.cst (.int .i64 240)) .nil)) (.isb none (.bv 0) (.done [] (some (.ite (.bv 0) true (.op (.bin .lss) (.cons (.inp 4) (.cons (.cst (.int .i64 240)) .nil))) (.cst (.bool false))))))))) h149_6 h149_9) Q env w := rfl
def h149_11 : HC := (.br (.chk none (.bin .geq) (.cons (.inp 4) (.cons (.cst (.int .i64 192)) .nil)) (.bnd (.op (.bin .geq) (.cons (.inp 4) (.cons (.cst (.int .i64 192)) .nil))) (.chk (some ((.bv 0), true)) (.bin .lss) (.cons (.inp 4) (.cons (.cst (.int .i64 224)) .nil)) (.isb none (.bv 0) (.done [] (some (.ite (.bv 0) true (.op (.bin .lss) (.cons (.inp 4) (.cons (.cst (.int .i64 224)) .nil))) (.cst (.bool false))))))))) h149_5 h149_10)
@[simp] theorem h149_11_wp {P : Program} {F : PF P} {Q : EX → List Value → World → Prop} {env : List Value} {w : World} : h149_11.wp F Q env w = HC.wp F (.br (.chk none (.bin .geq) (.cons (.inp 4) (.cons (.cst (.int .i64 192)) .nil)) (.bnd (.op (.bin .geq) (.cons (.inp 4) (.cons (.cst (.int .i64 192)) .nil))) (.chk (some ((.bv 0), true)) (.bin .lss) (.cons (.inp 4) (.cons (.cst (.int .i64 224)) .nil)) (.isb none (.bv 0) (.done [] (some (.ite (.bv 0) true (.op (.bin .lss) (.cons (.inp 4) (.cons (.cst (.int .i64 224)) .nil))) (.cst (.bool false))))))))) h149_5 h149_10) Q env w := rfl
def h149_12 : HC := (.br (.chk none (.bin .lss) (.cons (.inp 4) (.cons (.cst (.int .i64 128)) .nil)) (.done [] (some (.op (.bin .lss) (.cons (.inp 4) (.cons (.cst (.int .i64 128)) .nil)))))) h149_4 h149_11)
@[simp] theorem h149_12_wp {P : Program} {F : PF P} {Q : EX → List Value → World → Prop} {env : List Value} {w : World} : h149_12.wp F Q env w = HC.wp F (.br (.chk none (.bin .lss) (.cons (.inp 4) (.cons (.cst (.int .i64 128)) .nil)) (.done [] (some (.op (.bin .lss) (.cons (.inp 4) (.cons (.cst (.int .i64 128)) .nil)))))) h149_4 h149_11) Q env w := rfl
def h149_13 : HC := (.seq (.block 0 h149_12) h149_3)
@[simp] theorem h149_13_wp {P : Program} {F : PF P} {Q : EX → List Value → World → Prop} {env : List Value} {w : World} : h149_13.wp F Q env w = HC.wp F (.seq (.block 0 h149_12) h149_3) Q env w := rfl
def h149_14 : HC := (.seq (.reg (.done [(5, (.inp 4)), (6, (.cst (.int .i64 0))), (7, (.cst (.int .i64 0)))] none)) h149_13)
@[simp] theorem h149_14_wp {P : Program} {F : PF P} {Q : EX → List Value → World → Prop} {env : List Value} {w : World} : h149_14.wp F Q env w = HC.wp F (.seq (.reg (.done [(5, (.inp 4)), (6, (.cst (.int .i64 0))), (7, (.cst (.int .i64 0)))] none)) h149_13) Q env w := rfl
def h149_15 : HC := (.seq (.reg (.chk none .chS (.cons (.inp 0) (.cons (.inp 1) .nil)) (.chk none (.convI .i64) (.cons (.op .chS (.cons (.inp 0) (.cons (.inp 1) .nil))) .nil) (.done [(4, (.op (.convI .i64) (.cons (.op .chS (.cons (.inp 0) (.cons (.inp 1) .nil))) .nil)))] none)))) h149_14)
@[simp] theorem h149_15_wp {P : Program} {F : PF P} {Q : EX → List Value → World → Prop} {env : List Value} {w : World} : h149_15.wp F Q env w = HC.wp F (.seq (.reg (.chk none .chS (.cons (.inp 0) (.cons (.inp 1) .nil)) (.chk none (.convI .i64) (.cons (.op .chS (.cons (.inp 0) (.cons (.inp 1) .nil))) .nil) (.done [(4, (.op (.convI .i64) (.cons (.op .chS (.cons (.inp 0) (.cons (.inp 1) .nil))) .nil)))] none)))) h149_14) Q env w := rfl
def l149 : Lifted := ⟨[0, 1, 4, 5, 6, 7, 8, 9, 10], 81, [.slot 2, .slot 3], (.seq (.reg (.done [(2, (.cst (.int .i64 0))), (3, (.cst (.int .i64 0)))] none)) h149_15)⟩
theorem l149_ok : liftFn F0 149 400 = some l149 := by kernel_rfl



theorem one_spec (l : List UInt8) (i : Nat) (w : World) (hi : i < l.length) (hl : l.length ≤ 1048576) :
    CallW Tryz.prog 149 [.string (mk l), .int .i64 i] (fun r w' => r = .tuple #[.int .i64 (oneF (l.drop i)).1, .int .i64 (oneF (l.drop i)).2] ∧ w' = w) w := by
  have hd : l.drop i = l[i] :: l.drop (i + 1) := by rw [List.drop_eq_getElem_cons hi]
  have hg : l[i]?.getD 0 = l[i] := by simp [hi]
  rw [hd]
  have hc := l[i].toNat_lt
  generalize l[i] = c at *
  refine callW_of_lift l149_ok (by simp [l149]) ?_
  simp [l149]
  simp only [hg]
  refine ⟨hi, ?_⟩
  try simp (disch := omega) only [wrap64]
  -- what follows the switch
  have rest : ∀ (v least : Int) (n : Nat) (Q : EX → List Value → World → Prop), n ≤ 3 → 0 ≤ v → v < 32 → (∀ env : List Value, env[2]?.getD undef = .int .i64 (chkF c.toNat (l.drop (i + 1)) v n least).1 → env[3]?.getD undef = .int .i64 (chkF c.toNat (l.drop (i + 1)) v n least).2 → Q .ret env w) →
      HC.wp F0 h149_3 Q [.string (mk l), .int .i64 i, .int .i64 0, .int .i64 0, .int .i64 c.toNat, .int .i64 v, .int .i64 n, .int .i64 least, undef] w := by
    intro v least n Q hn hv hv2 hQ
    simp
    refine eff_call ((tail_spec l i n v w hi hn hv hv2 hl).mono ?_)
    rintro r w' ⟨rfl, rfl⟩
    unfold chkF at hQ
    cases ht : tailF (l.drop (i + 1)) n v with
    | none =>
      simp only [ht] at hQ
      simp [condC_ite]
      try simp (disch := omega) only [wrap64]
      exact hQ _ rfl rfl
    | some u =>
      simp only [ht] at hQ
      by_cases q : least ≤ u ∧ u ≤ 1114111
      · simp [q.1, q.2, Int.not_lt.2 q.1, Int.not_lt.2 q.2]
        refine cndI (fun h => ?_) (fun h => ?_)
        · simp at h
          rw [if_pos (by omega)] at hQ
          simp
          try simp (disch := omega) only [wrap64]
          exact hQ _ rfl rfl
        · simp at h
          rw [if_neg (by omega)] at hQ
          simp
          try simp (disch := omega) only [wrap64]
          exact hQ _ rfl (by simp)
      · have q' : u < least ∨ 1114111 < u := by omega
        simp [q]
        refine cndI (fun h => ?_) (fun h => ?_)
        · rw [if_pos (by omega)] at hQ
          simp
          try simp (disch := omega) only [wrap64]
          exact hQ _ rfl rfl
        · exfalso; simp at h; omega
  rw [oneF_cons]
  refine cndI (fun h => ?_) (fun h => ?_)
  · simp at h
    rw [if_pos (by omega)]
    simp
  simp at h
  rw [if_neg (by omega)]
  simp
  refine cndI (fun h2 => ?_) (fun h2 => ?_)
  · simp at h2
    rw [if_pos (by omega)]
    simp
    try simp (disch := omega) only [wrap64]
    exact rest _ 128 1 _ (by omega) (by omega) (by omega) (fun env e1 e2 => by simp [e1, e2])
  simp at h2
  rw [if_neg (by omega)]
  simp
  refine cndI (fun h3 => ?_) (fun h3 => ?_)
  · simp at h3
    rw [if_pos (by omega)]
    simp
    try simp (disch := omega) only [wrap64]
    exact rest _ 2048 2 _ (by omega) (by omega) (by omega) (fun env e1 e2 => by simp [e1, e2])
  simp at h3
  rw [if_neg (by omega)]
  simp
  refine cndI (fun h4 => ?_) (fun h4 => ?_)
  · simp at h4
    rw [if_pos (by omega)]
    simp
    try simp (disch := omega) only [wrap64]
    exact rest _ 65536 3 _ (by omega) (by omega) (by omega) (fun env e1 e2 => by simp [e1, e2])
  simp at h4
  rw [if_neg (by omega)]
  simp
  try simp (disch := omega) only [wrap64]
  trace_state
end Go.HL.Nm

namespace Go.HL.Nm
open Go.HL Go.Proofs
set_option maxRecDepth 4000
set_option linter.unusedSimpArgs false
set_option linter.unusedVariables false
noncomputable def oneS : PS Tryz.prog where
  f := 149
  val args := match args with
    | [.string s, .int _ i] => .tuple #[.int .i64 (oneF (s.data.toList.drop i.toNat)).1, .int .i64 (oneF (s.data.toList.drop i.toNat)).2]
    | _ => undef
  ok args := match args with
    | [.string s, .int .i64 i] => s.data.toList.length ≤ 1048576 ∧ 0 ≤ i ∧ i < s.data.toList.length
    | _ => False
  sound args w h := by
    split at h
    · rename_i s i
      obtain ⟨h1, h2, h3⟩ := h
      obtain ⟨n, rfl⟩ := Int.eq_ofNat_of_zero_le h2
      have := one_spec s.data.toList n w (by omega) h1
      rw [← mk_eta] at this
      simpa using this
    · exact h.elim
noncomputable abbrev F1 : PF Tryz.prog := PF.of [oneS]
@[simp] theorem F1_one_val (args : List Value) : F1.val 149 args = oneS.val args := rfl
@[simp] theorem F1_one_ok (args : List Value) : F1.ok 149 args = oneS.ok args := rfl
-- bazaar/bazaarref04.Units
def ints (l : List Int) : List Value := l.map (Value.int .i64)
/-- the first n units' bytes -/
def cutF (l : List UInt8) (n : Int) : List UInt8 := l.take (sumW ((units l).take n.toNat))
end Go.HL.Nm

namespace Go.HL.Nm
open Go.HL Go.Proofs
set_option maxRecDepth 4000
set_option linter.unusedSimpArgs false
set_option linter.unusedVariables false
noncomputable def inS : PS Tryz.prog where
  f := 150
  val args := match args with
    | [.int _ u, .int _ lo, .int _ hi] => .bool (inF u lo hi)
    | _ => undef
  ok args := match args with
    | [.int k _, .int k' _, .int k'' _] => k = .i64 ∧ k' = .i64 ∧ k'' = .i64
    | _ => False
  sound args w h := by
    split at h
    · obtain ⟨rfl, rfl, rfl⟩ := h; exact in_spec _ _ _ w
    · exact h.elim
noncomputable def rjoinerS : PS Tryz.prog := PS.ib 118 .i64 joinerF rjoiner_spec
noncomputable def joinerS : PS Tryz.prog := PS.ib 103 .i32 joinerF joiner_spec
noncomputable def letterS : PS Tryz.prog := PS.ib 102 .i32 letterF letter_spec
noncomputable def slhpS : PS Tryz.prog where
  f := 158
  val args := match args with
    | [.string s, .string p] => .bool (p.data.toList.isPrefixOf s.data.toList)
    | _ => undef
  ok args := match args with
    | [.string s, .string _] => s.data.toList.length ≤ 1048576
    | _ => False
  sound args w h := by
    split at h
    · rename_i s p
      have := slhp_spec s.data.toList p.data.toList w h
      rw [← mk_eta, ← mk_eta] at this
      exact this
    · exact h.elim
noncomputable abbrev F2 : PF Tryz.prog := PF.of [oneS, inS, rjoinerS, joinerS, letterS, slhpS]
@[simp] theorem F2_in_val (args : List Value) : F2.val 150 args = inS.val args := rfl
@[simp] theorem F2_in_ok (args : List Value) : F2.ok 150 args = inS.ok args := rfl
@[simp] theorem F2_hp_val (args : List Value) : F2.val 158 args = slhpS.val args := rfl
@[simp] theorem F2_hp_ok (args : List Value) : F2.ok 158 args = slhpS.ok args := rfl
-- bazaar/bazaarref04.Letter
def h119_0 : HC := (.seq (.reg (.chk none (.cal 150) (.cons (.inp 0) (.cons (.cst (.int .i64 48)) (.cons (.cst (.int .i64 57)) .nil))) (.bnd (.op (.cal 150) (.cons (.inp 0) (.cons (.cst (.int .i64 48)) (.cons (.cst (.int .i64 57)) .nil)))) (.chk (some ((.bv 0), false)) (.cal 150) (.cons (.inp 0) (.cons (.cst (.int .i64 65)) (.cons (.cst (.int .i64 90)) .nil))) (.isb none (.bv 0) (.bnd (.ite (.bv 0) true (.cst (.bool true)) (.op (.cal 150) (.cons (.inp 0) (.cons (.cst (.int .i64 65)) (.cons (.cst (.int .i64 90)) .nil))))) (.chk (some ((.bv 1), false)) (.cal 150) (.cons (.inp 0) (.cons (.cst (.int .i64 97)) (.cons (.cst (.int .i64 122)) .nil))) (.isb none (.bv 1) (.bnd (.ite (.bv 1) true (.cst (.bool true)) (.op (.cal 150) (.cons (.inp 0) (.cons (.cst (.int .i64 97)) (.cons (.cst (.int .i64 122)) .nil))))) (.chk (some ((.bv 2), false)) (.cal 150) (.cons (.inp 0) (.cons (.cst (.int .i64 192)) (.cons (.cst (.int .i64 255)) .nil))) (.isb none (.bv 2) (.bnd (.ite (.bv 2) true (.cst (.bool true)) (.op (.cal 150) (.cons (.inp 0) (.cons (.cst (.int .i64 192)) (.cons (.cst (.int .i64 255)) .nil))))) (.chk (some ((.bv 3), false)) (.cal 150) (.cons (.inp 0) (.cons (.cst (.int .i64 913)) (.cons (.cst (.int .i64 937)) .nil))) (.isb none (.bv 3) (.bnd (.ite (.bv 3) true (.cst (.bool true)) (.op (.cal 150) (.cons (.inp 0) (.cons (.cst (.int .i64 913)) (.cons (.cst (.int .i64 937)) .nil))))) (.chk (some ((.bv 4), false)) (.cal 150) (.cons (.inp 0) (.cons (.cst (.int .i64 945)) (.cons (.cst (.int .i64 969)) .nil))) (.isb none (.bv 4) (.bnd (.ite (.bv 4) true (.cst (.bool true)) (.op (.cal 150) (.cons (.inp 0) (.cons (.cst (.int .i64 945)) (.cons (.cst (.int .i64 969)) .nil))))) (.chk (some ((.bv 5), false)) (.bin .eql) (.cons (.inp 0) (.cons (.cst (.int .i64 1025)) .nil)) (.isb none (.bv 5) (.bnd (.ite (.bv 5) true (.cst (.bool true)) (.op (.bin .eql) (.cons (.inp 0) (.cons (.cst (.int .i64 1025)) .nil)))) (.chk (some ((.bv 6), false)) (.cal 150) (.cons (.inp 0) (.cons (.cst (.int .i64 1040)) (.cons (.cst (.int .i64 1103)) .nil))) (.isb none (.bv 6) (.bnd (.ite (.bv 6) true (.cst (.bool true)) (.op (.cal 150) (.cons (.inp 0) (.cons (.cst (.int .i64 1040)) (.cons (.cst (.int .i64 1103)) .nil))))) (.chk (some ((.bv 7), false)) (.bin .eql) (.cons (.inp 0) (.cons (.cst (.int .i64 1105)) .nil)) (.isb none (.bv 7) (.done [(1, (.ite (.bv 7) true (.cst (.bool true)) (.op (.bin .eql) (.cons (.inp 0) (.cons (.cst (.int .i64 1105)) .nil)))))] none))))))))))))))))))))))))))) .ret)
@[simp] theorem h119_0_wp {P : Program} {F : PF P} {Q : EX → List Value → World → Prop} {env : List Value} {w : World} : h119_0.wp F Q env w = HC.wp F (.seq (.reg (.chk none (.cal 150) (.cons (.inp 0) (.cons (.cst (.int .i64 48)) (.cons (.cst (.int .i64 57)) .nil))) (.bnd (.op (.cal 150) (.cons (.inp 0) (.cons (.cst (.int .i64 48)) (.cons (.cst (.int .i64 57)) .nil)))) (.chk (some ((.bv 0), false)) (.cal 150) (.cons (.inp 0) (.cons (.cst (.int .i64 65)) (.cons (.cst (.int .i64 90)) .nil))) (.isb none (.bv 0) (.bnd (.ite (.bv 0) true (.cst (.bool true)) (.op (.cal 150) (.cons (.inp 0) (.cons (.cst (.int .i64 65)) (.cons (.cst (.int .i64 90)) .nil))))) (.chk (some ((.bv 1), false)) (.cal 150) (.cons (.inp 0) (.cons (.cst (.int .i64 97)) (.cons (.cst (.int .i64 122)) .nil))) (.isb none (.bv 1) (.bnd (.ite (.bv 1) true (.cst (.bool true)) (.op (.cal 150) (.cons (.inp 0) (.cons (.cst (.int .i64 97)) (.cons (.cst (.int .i64 122)) .nil))))) (.chk (some ((.bv 2), false)) (.cal 150) (.cons (.inp 0) (.cons (.cst (.int .i64 192)) (.cons (.cst (.int .i64 255)) .nil))) (.isb none (.bv 2) (.bnd (.ite (.bv 2) true (.cst (.bool true)) (.op (.cal 150) (.cons (.inp 0) (.cons (.cst (.int .i64 192)) (.cons (.cst (.int .i64 255)) .nil))))) (.chk (some ((.bv 3), false)) (.cal 150) (.cons (.inp 0) (.cons (.cst (.int .i64 913)) (.cons (.cst (.int .i64 937)) .nil))) (.isb none (.bv 3) (.bnd (.ite (.bv 3) true (.cst (.bool true)) (.op (.cal 150) (.cons (.inp 0) (.cons (.cst (.int .i64 913)) (.cons (.cst (.int .i64 937)) .nil))))) (.chk (some ((.bv 4), false)) (.cal 150) (.cons (.inp 0) (.cons (.cst (.int .i64 945)) (.cons (.cst (.int .i64 969)) .nil))) (.isb none (.bv 4) (.bnd (.ite (.bv 4) true (.cst (.bool true)) (.op (.cal 150) (.cons (.inp 0) (.cons (.cst (.int .i64 945)) (.cons (.cst (.int .i64 969)) .nil))))) (.chk (some ((.bv 5), false)) (.bin .eql) (.cons (.inp 0) (.cons (.cst (.int .i64 1025)) .nil)) (.isb none (.bv 5) (.bnd (.ite (.bv 5) true (.cst (.bool true)) (.op (.bin .eql) (.cons (.inp 0) (.cons (.cst (.int .i64 1025)) .nil)))) (.chk (some ((.bv 6), false)) (.cal 150) (.cons (.inp 0) (.cons (.cst (.int .i64 1040)) (.cons (.cst (.int .i64 1103)) .nil))) (.isb none (.bv 6) (.bnd (.ite (.bv 6) true (.cst (.bool true)) (.op (.cal 150) (.cons (.inp 0) (.cons (.cst (.int .i64 1040)) (.cons (.cst (.int .i64 1103)) .nil))))) (.chk (some ((.bv 7), false)) (.bin .eql) (.cons (.inp 0) (.cons (.cst (.int .i64 1105)) .nil)) (.isb none (.bv 7) (.done [(1, (.ite (.bv 7) true (.cst (.bool true)) (.op (.bin .eql) (.cons (.inp 0) (.cons (.cst (.int .i64 1105)) .nil)))))] none))))))))))))))))))))))))))) .ret) Q env w := rfl
def h119_1 : HC := (.seq (.reg (.done [(1, (.cst (.bool false)))] none)) .ret)
@[simp] theorem h119_1_wp {P : Program} {F : PF P} {Q : EX → List Value → World → Prop} {env : List Value} {w : World} : h119_1.wp F Q env w = HC.wp F (.seq (.reg (.done [(1, (.cst (.bool false)))] none)) .ret) Q env w := rfl
def h119_2 : HC := (.seq (.br (.chk none (.bin .eql) (.cons (.inp 0) (.cons (.cst (.int .i64 215)) .nil)) (.bnd (.op (.bin .eql) (.cons (.inp 0) (.cons (.cst (.int .i64 215)) .nil))) (.chk (some ((.bv 0), false)) (.bin .eql) (.cons (.inp 0) (.cons (.cst (.int .i64 247)) .nil)) (.isb none (.bv 0) (.bnd (.ite (.bv 0) true (.cst (.bool true)) (.op (.bin .eql) (.cons (.inp 0) (.cons (.cst (.int .i64 247)) .nil)))) (.chk (some ((.bv 1), false)) (.bin .eql) (.cons (.inp 0) (.cons (.cst (.int .i64 930)) .nil)) (.isb none (.bv 1) (.done [] (some (.ite (.bv 1) true (.cst (.bool true)) (.op (.bin .eql) (.cons (.inp 0) (.cons (.cst (.int .i64 930)) .nil))))))))))))) h119_1 .skip) h119_0)
@[simp] theorem h119_2_wp {P : Program} {F : PF P} {Q : EX → List Value → World → Prop} {env : List Value} {w : World} : h119_2.wp F Q env w = HC.wp F (.seq (.br (.chk none (.bin .eql) (.cons (.inp 0) (.cons (.cst (.int .i64 215)) .nil)) (.bnd (.op (.bin .eql) (.cons (.inp 0) (.cons (.cst (.int .i64 215)) .nil))) (.chk (some ((.bv 0), false)) (.bin .eql) (.cons (.inp 0) (.cons (.cst (.int .i64 247)) .nil)) (.isb none (.bv 0) (.bnd (.ite (.bv 0) true (.cst (.bool true)) (.op (.bin .eql) (.cons (.inp 0) (.cons (.cst (.int .i64 247)) .nil)))) (.chk (some ((.bv 1), false)) (.bin .eql) (.cons (.inp 0) (.cons (.cst (.int .i64 930)) .nil)) (.isb none (.bv 1) (.done [] (some (.ite (.bv 1) true (.cst (.bool true)) (.op (.bin .eql) (.cons (.inp 0) (.cons (.cst (.int .i64 930)) .nil))))))))))))) h119_1 .skip) h119_0) Q env w := rfl
def l119 : Lifted := ⟨[0, 2], 47, [.slot 1], (.seq (.reg (.done [(1, (.cst (.bool false)))] none)) h119_2)⟩
theorem l119_ok : liftFn F2 119 400 = some l119 := by kernel_rfl

-- strings.HasPrefix
def h129_0 : HC := (.seq (.reg (.chk none (.cal 158) (.cons (.inp 0) (.cons (.inp 1) .nil)) (.done [(2, (.op (.cal 158) (.cons (.inp 0) (.cons (.inp 1) .nil))))] none))) .ret)
@[simp] theorem h129_0_wp {P : Program} {F : PF P} {Q : EX → List Value → World → Prop} {env : List Value} {w : World} : h129_0.wp F Q env w = HC.wp F (.seq (.reg (.chk none (.cal 158) (.cons (.inp 0) (.cons (.inp 1) .nil)) (.done [(2, (.op (.cal 158) (.cons (.inp 0) (.cons (.inp 1) .nil))))] none))) .ret) Q env w := rfl
def l129 : Lifted := ⟨[0, 1, 4], 8, [.slot 2], (.seq (.reg (.done [(2, (.cst (.bool false)))] none)) h129_0)⟩
theorem l129_ok : liftFn F2 129 400 = some l129 := by kernel_rfl


theorem rletter_spec (u : Int) (w : World) : CallW Tryz.prog 119 [.int .i64 u] (fun r w' => r = .bool (letterF u) ∧ w' = w) w := by
  refine callW_of_lift l119_ok (by simp [l119]) ?_
  simp [l119, inS, condC_ite, letterF]
  grind
theorem hp_spec (s p : List UInt8) (w : World) (hs : s.length ≤ 1048576) : CallW Tryz.prog 129 [.string (mk s), .string (mk p)] (fun r w' => r = .bool (p.isPrefixOf s) ∧ w' = w) w := by
  refine callW_of_lift l129_ok (by simp [l129]) ?_
  simp [l129, slhpS]
  exact hs
/-- how a folded unit looks -/
def looksF (u : Int) : Int :=
  if u = 48 ∨ u = 959 ∨ u = 1086 ∨ (242 ≤ u ∧ u ≤ 246) ∨ u = 248 then 111
  else if u = 49 then 108
  else if (224 ≤ u ∧ u ≤ 229) ∨ u = 945 ∨ u = 1072 then 97
  else if u = 231 ∨ u = 1089 then 99
  else if (232 ≤ u ∧ u ≤ 235) ∨ u = 1077 ∨ u = 1105 then 101
  else if (236 ≤ u ∧ u ≤ 239) ∨ u = 953 then 105
  else if u = 954 ∨ u = 1082 then 107
  else if u = 241 then 110
  else if u = 961 ∨ u = 1088 then 112
  else if u = 964 ∨ u = 1090 then 116
  else if (249 ≤ u ∧ u ≤ 252) ∨ u = 965 then 117
  else if u = 957 then 118
  else if u = 967 ∨ u = 1093 then 120
  else if u = 253 ∨ u = 255 ∨ u = 947 ∨ u = 1091 then 121
  else if u = 32 ∨ u = 95 then 45
  else u
noncomputable def rletterS : PS Tryz.prog := PS.ib 119 .i64 letterF rletter_spec
noncomputable def hpS : PS Tryz.prog where
  f := 129
  val args := match args with
    | [.string s, .string p] => .bool (p.data.toList.isPrefixOf s.data.toList)
    | _ => undef
  ok args := match args with
    | [.string s, .string _] => s.data.toList.length ≤ 1048576
    | _ => False
  sound args w h := by
    split at h
    · rename_i s p
      have := hp_spec s.data.toList p.data.toList w h
      rw [← mk_eta, ← mk_eta] at this
      exact this
    · exact h.elim
noncomputable def foldS : PS Tryz.prog where
  f := 160
  val args := match args with
    | [.int _ u] => .int .i32 (foldF u)
    | _ => undef
  ok args := match args with
    | [.int k u] => k = .i32 ∧ 0 ≤ u ∧ u < 2097408
    | _ => False
  sound args w h := by
    split at h
    · obtain ⟨rfl, h1, h2⟩ := h; exact fold_spec _ w h1 h2
    · exact h.elim
noncomputable abbrev F3 : PF Tryz.prog := PF.of [oneS, inS, rjoinerS, joinerS, letterS, slhpS, rletterS, hpS, foldS]
@[simp] theorem F3_hp_val (args : List Value) : F3.val 129 args = hpS.val args := rfl
@[simp] theorem F3_hp_ok (args : List Value) : F3.ok 129 args = hpS.ok args := rfl
-- bazaar/name.at
def h101_0 : HC := (.seq (.reg (.done [(3, (.inp 2))] none)) .ret)
@[simp] theorem h101_0_wp {P : Program} {F : PF P} {Q : EX → List Value → World → Prop} {env : List Value} {w : World} : h101_0.wp F Q env w = HC.wp F (.seq (.reg (.done [(3, (.inp 2))] none)) .ret) Q env w := rfl
def h101_1 : HC := (.seq (.reg (.chk none .chS (.cons (.inp 0) (.cons (.inp 1) .nil)) (.chk none (.convI .i32) (.cons (.op .chS (.cons (.inp 0) (.cons (.inp 1) .nil))) .nil) (.chk none (.bin .add) (.cons (.cst (.int .i32 2097152)) (.cons (.op (.convI .i32) (.cons (.op .chS (.cons (.inp 0) (.cons (.inp 1) .nil))) .nil)) .nil)) (.done [(3, (.op (.bin .add) (.cons (.cst (.int .i32 2097152)) (.cons (.op (.convI .i32) (.cons (.op .chS (.cons (.inp 0) (.cons (.inp 1) .nil))) .nil)) .nil))))] none))))) .ret)
@[simp] theorem h101_1_wp {P : Program} {F : PF P} {Q : EX → List Value → World → Prop} {env : List Value} {w : World} : h101_1.wp F Q env w = HC.wp F (.seq (.reg (.chk none .chS (.cons (.inp 0) (.cons (.inp 1) .nil)) (.chk none (.convI .i32) (.cons (.op .chS (.cons (.inp 0) (.cons (.inp 1) .nil))) .nil) (.chk none (.bin .add) (.cons (.cst (.int .i32 2097152)) (.cons (.op (.convI .i32) (.cons (.op .chS (.cons (.inp 0) (.cons (.inp 1) .nil))) .nil)) .nil)) (.done [(3, (.op (.bin .add) (.cons (.cst (.int .i32 2097152)) (.cons (.op (.convI .i32) (.cons (.op .chS (.cons (.inp 0) (.cons (.inp 1) .nil))) .nil)) .nil))))] none))))) .ret) Q env w := rfl
def h101_2 : HC := (.seq (.br (.chk none (.bin .eql) (.cons (.inp 2) (.cons (.cst (.int .i32 65533)) .nil)) (.bnd (.op (.bin .eql) (.cons (.inp 2) (.cons (.cst (.int .i32 65533)) .nil))) (.chk (some ((.bv 0), true)) (.slS true false) (.cons (.inp 0) (.cons (.inp 1) .nil)) (.chk (some ((.bv 0), true)) (.cal 129) (.cons (.op (.slS true false) (.cons (.inp 0) (.cons (.inp 1) .nil))) (.cons (.cst (.string ⟨#[239, 191, 189]⟩)) .nil)) (.chk (some ((.bv 0), true)) (.un .not) (.cons (.op (.cal 129) (.cons (.op (.slS true false) (.cons (.inp 0) (.cons (.inp 1) .nil))) (.cons (.cst (.string ⟨#[239, 191, 189]⟩)) .nil))) .nil) (.isb none (.bv 0) (.done [] (some (.ite (.bv 0) true (.op (.un .not) (.cons (.op (.cal 129) (.cons (.op (.slS true false) (.cons (.inp 0) (.cons (.inp 1) .nil))) (.cons (.cst (.string ⟨#[239, 191, 189]⟩)) .nil))) .nil)) (.cst (.bool false))))))))))) h101_1 .skip) h101_0)
@[simp] theorem h101_2_wp {P : Program} {F : PF P} {Q : EX → List Value → World → Prop} {env : List Value} {w : World} : h101_2.wp F Q env w = HC.wp F (.seq (.br (.chk none (.bin .eql) (.cons (.inp 2) (.cons (.cst (.int .i32 65533)) .nil)) (.bnd (.op (.bin .eql) (.cons (.inp 2) (.cons (.cst (.int .i32 65533)) .nil))) (.chk (some ((.bv 0), true)) (.slS true false) (.cons (.inp 0) (.cons (.inp 1) .nil)) (.chk (some ((.bv 0), true)) (.cal 129) (.cons (.op (.slS true false) (.cons (.inp 0) (.cons (.inp 1) .nil))) (.cons (.cst (.string ⟨#[239, 191, 189]⟩)) .nil)) (.chk (some ((.bv 0), true)) (.un .not) (.cons (.op (.cal 129) (.cons (.op (.slS true false) (.cons (.inp 0) (.cons (.inp 1) .nil))) (.cons (.cst (.string ⟨#[239, 191, 189]⟩)) .nil))) .nil) (.isb none (.bv 0) (.done [] (some (.ite (.bv 0) true (.op (.un .not) (.cons (.op (.cal 129) (.cons (.op (.slS true false) (.cons (.inp 0) (.cons (.inp 1) .nil))) (.cons (.cst (.string ⟨#[239, 191, 189]⟩)) .nil))) .nil)) (.cst (.bool false))))))))))) h101_1 .skip) h101_0) Q env w := rfl
def l101 : Lifted := ⟨[0, 1, 2, 6], 22, [.slot 3], (.seq (.reg (.done [(3, (.cst (.int .i32 0)))] none)) h101_2)⟩
theorem l101_ok : liftFn F3 101 400 = some l101 := by kernel_rfl


theorem at_spec (l : List UInt8) (i : Nat) (w : World) (hi : i < l.length) (hl : l.length ≤ 1048576) :
    CallW Tryz.prog 101 [.string (mk l), .int .i64 i, .int .i32 (runeOf (oneF (l.drop i)).1)] (fun r w' => r = .int .i32 (oneF (l.drop i)).1 ∧ w' = w) w := by
  have hne : l.drop i ≠ [] := by simp; omega
  have hu := unit_of hne
  have hb := oneF_bd hne
  have hd : (l.drop i).headD 0 = l[i]?.getD 0 := by simp [List.headD_eq_head?_getD, List.head?_drop]
  have hc := (l[i]?.getD 0).toNat_lt
  rw [hd] at hu
  refine callW_of_lift l101_ok (by simp [l101]) ?_
  simp [l101, hpS]
  refine ⟨fun _ => by omega, fun _ => by omega, ?_⟩
  refine cndI (fun h => ?_) (fun h => ?_)
  · simp at h
    rw [if_pos ⟨by omega, h.2⟩] at hu
    simp
    try simp (disch := omega) only [wrap32]
    exact ⟨hi, hu⟩
  · simp at h
    rw [if_neg (by rintro ⟨h1, h2⟩; rw [List.isPrefixOf_iff_prefix.2 (h (by omega))] at h2; cases h2)] at hu
    simp
    exact hu
noncomputable def atS : PS Tryz.prog where
  f := 101
  val args := match args with
    | [.string s, .int _ i, .int _ _] => .int .i32 (oneF (s.data.toList.drop i.toNat)).1
    | _ => undef
  ok args := match args with
    | [.string s, .int k i, .int k' r] => k = .i64 ∧ k' = .i32 ∧ s.data.toList.length ≤ 1048576 ∧ 0 ≤ i ∧ i < s.data.toList.length ∧ r = runeOf (oneF (s.data.toList.drop i.toNat)).1
    | _ => False
  sound args w h := by
    split at h
    · rename_i s k i k' r
      obtain ⟨rfl, rfl, h1, h2, h3, rfl⟩ := h
      obtain ⟨n, rfl⟩ := Int.eq_ofNat_of_zero_le h2
      have := at_spec s.data.toList n w (by omega) h1
      rw [← mk_eta] at this
      simpa using this
    · exact h.elim
noncomputable abbrev F4 : PF Tryz.prog := PF.of [oneS, inS, rjoinerS, joinerS, letterS, slhpS, rletterS, hpS, foldS, atS]
@[simp] theorem F4_one_val (args : List Value) : F4.val 149 args = oneS.val args := rfl
@[simp] theorem F4_one_ok (args : List Value) : F4.ok 149 args = oneS.ok args := rfl
@[simp] theorem F4_rj_val (args : List Value) : F4.val 118 args = rjoinerS.val args := rfl
@[simp] theorem F4_rj_ok (args : List Value) : F4.ok 118 args = rjoinerS.ok args := rfl
@[simp] theorem F4_j_val (args : List Value) : F4.val 103 args = joinerS.val args := rfl
@[simp] theorem F4_j_ok (args : List Value) : F4.ok 103 args = joinerS.ok args := rfl
@[simp] theorem F4_l_val (args : List Value) : F4.val 102 args = letterS.val args := rfl
@[simp] theorem F4_l_ok (args : List Value) : F4.ok 102 args = letterS.ok args := rfl
@[simp] theorem F4_rl_val (args : List Value) : F4.val 119 args = rletterS.val args := rfl
@[simp] theorem F4_rl_ok (args : List Value) : F4.ok 119 args = rletterS.ok args := rfl
@[simp] theorem F4_f_val (args : List Value) : F4.val 160 args = foldS.val args := rfl
@[simp] theorem F4_f_ok (args : List Value) : F4.ok 160 args = foldS.ok args := rfl
@[simp] theorem F4_at_val (args : List Value) : F4.val 101 args = atS.val args := rfl
@[simp] theorem F4_at_ok (args : List Value) : F4.ok 101 args = atS.ok args := rfl
@[simp] theorem rj_val (u : Int) (k : IntKind) : rjoinerS.val [.int k u] = .bool (joinerF u) := rfl
@[simp] theorem rj_ok (u : Int) (k : IntKind) : rjoinerS.ok [.int k u] = (k = .i64) := rfl
@[simp] theorem j_val (u : Int) (k : IntKind) : joinerS.val [.int k u] = .bool (joinerF u) := rfl
@[simp] theorem j_ok (u : Int) (k : IntKind) : joinerS.ok [.int k u] = (k = .i32) := rfl
@[simp] theorem l_val (u : Int) (k : IntKind) : letterS.val [.int k u] = .bool (letterF u) := rfl
@[simp] theorem l_ok (u : Int) (k : IntKind) : letterS.ok [.int k u] = (k = .i32) := rfl
@[simp] theorem rl_val (u : Int) (k : IntKind) : rletterS.val [.int k u] = .bool (letterF u) := rfl
@[simp] theorem rl_ok (u : Int) (k : IntKind) : rletterS.ok [.int k u] = (k = .i64) := rfl
@[simp] theorem f_val (u : Int) (k : IntKind) : foldS.val [.int k u] = .int .i32 (foldF u) := rfl
@[simp] theorem f_ok (u : Int) (k : IntKind) : foldS.ok [.int k u] = (k = .i32 ∧ 0 ≤ u ∧ u < 2097408) := rfl
@[simp] theorem at_val (l : List UInt8) (i r : Int) (k k' : IntKind) : atS.val [.string (mk l), .int k i, .int k' r] = .int .i32 (oneF (l.drop i.toNat)).1 := by simp [atS]
@[simp] theorem at_ok (l : List UInt8) (i r : Int) (k k' : IntKind) : atS.ok [.string (mk l), .int k i, .int k' r] = (k = .i64 ∧ k' = .i32 ∧ l.length ≤ 1048576 ∧ 0 ≤ i ∧ i < l.length ∧ r = runeOf (oneF (l.drop i.toNat)).1) := by simp [atS]
end Go.HL.Nm

namespace Go.HL.Nm
open Go.HL Go.Proofs
set_option maxRecDepth 4000
set_option linter.unusedSimpArgs false
set_option linter.unusedVariables false
@[simp] theorem F4_in_val (args : List Value) : F4.val 150 args = inS.val args := rfl
@[simp] theorem F4_in_ok (args : List Value) : F4.ok 150 args = inS.ok args := rfl
@[simp] theorem in_val (u lo hi : Int) (k k' k'' : IntKind) : inS.val [.int k u, .int k' lo, .int k'' hi] = .bool (inF u lo hi) := rfl
@[simp] theorem in_ok (u lo hi : Int) (k k' k'' : IntKind) : inS.ok [.int k u, .int k' lo, .int k'' hi] = (k = .i64 ∧ k' = .i64 ∧ k'' = .i64) := rfl
/-- a unit, folded -/
def foldU (u : Int) : List Int := if u = 223 then [115, 115] else [foldF u]
/-- a text's units, folded -/
def foldAll (us : List (Int × Nat)) : List Int := us.flatMap fun u => foldU u.1
def foldedF (l : List UInt8) : List Int := foldAll (units l)
theorem foldU_len (u : Int) : (foldU u).length ≤ 2 ∧ 1 ≤ (foldU u).length := by unfold foldU; split <;> simp
theorem foldAll_len : ∀ us : List (Int × Nat), (foldAll us).length ≤ 2 * us.length
  | [] => by simp [foldAll]
  | u :: us => by
    have := foldAll_len us
    have h1 := (foldU_len u.1).1
    simp only [foldAll, List.flatMap_cons, List.length_append, List.length_cons] at this ⊢
    omega
theorem foldAll_snoc (us : List (Int × Nat)) (u : Int × Nat) : foldAll (us ++ [u]) = foldAll us ++ foldU u.1 := by simp [foldAll]
def ints32 (l : List Int) : List Value := l.map (Value.int .i32)
-- bazaar/bazaarref04.fold
-- bazaar/bazaarref04.Folded
-- bazaar/name.folded
def h131_0 : HC := (.seq (.reg (.done [(1, (.inp 2))] none)) .ret)
@[simp] theorem h131_0_wp {P : Program} {F : PF P} {Q : EX → List Value → World → Prop} {env : List Value} {w : World} : h131_0.wp F Q env w = HC.wp F (.seq (.reg (.done [(1, (.inp 2))] none)) .ret) Q env w := rfl
def h131_1 : HC := (.reg (.chk none (.cal 160) (.cons (.inp 5) .nil) (.eff (.bsl 21 1 1 #[(.int .i32 0)] [0]) (.cons (.op (.cal 160) (.cons (.inp 5) .nil)) .nil) (.eff (.app 193 193 21 1 4 (.int .i32 0)) (.cons (.inp 2) (.cons (.bv 0) .nil)) (.done [(2, (.bv 1))] none)))))
@[simp] theorem h131_1_wp {P : Program} {F : PF P} {Q : EX → List Value → World → Prop} {env : List Value} {w : World} : h131_1.wp F Q env w = HC.wp F (.reg (.chk none (.cal 160) (.cons (.inp 5) .nil) (.eff (.bsl 21 1 1 #[(.int .i32 0)] [0]) (.cons (.op (.cal 160) (.cons (.inp 5) .nil)) .nil) (.eff (.app 193 193 21 1 4 (.int .i32 0)) (.cons (.inp 2) (.cons (.bv 0) .nil)) (.done [(2, (.bv 1))] none))))) Q env w := rfl
def h131_2 : HC := (.seq (.reg (.eff (.bsl 21 2 1 #[(.int .i32 0)] [0, 1]) (.cons (.cst (.int .i32 115)) (.cons (.cst (.int .i32 115)) .nil)) (.eff (.app 193 193 21 1 4 (.int .i32 0)) (.cons (.inp 2) (.cons (.bv 0) .nil)) (.done [(2, (.bv 1))] none)))) (.exit 1))
@[simp] theorem h131_2_wp {P : Program} {F : PF P} {Q : EX → List Value → World → Prop} {env : List Value} {w : World} : h131_2.wp F Q env w = HC.wp F (.seq (.reg (.eff (.bsl 21 2 1 #[(.int .i32 0)] [0, 1]) (.cons (.cst (.int .i32 115)) (.cons (.cst (.int .i32 115)) .nil)) (.eff (.app 193 193 21 1 4 (.int .i32 0)) (.cons (.inp 2) (.cons (.bv 0) .nil)) (.done [(2, (.bv 1))] none)))) (.exit 1)) Q env w := rfl
def h131_3 : HC := (.seq (.br (.chk none (.bin .eql) (.cons (.inp 5) (.cons (.cst (.int .i32 223)) .nil)) (.done [] (some (.op (.bin .eql) (.cons (.inp 5) (.cons (.cst (.int .i32 223)) .nil)))))) h131_2 .skip) h131_1)
@[simp] theorem h131_3_wp {P : Program} {F : PF P} {Q : EX → List Value → World → Prop} {env : List Value} {w : World} : h131_3.wp F Q env w = HC.wp F (.seq (.br (.chk none (.bin .eql) (.cons (.inp 5) (.cons (.cst (.int .i32 223)) .nil)) (.done [] (some (.op (.bin .eql) (.cons (.inp 5) (.cons (.cst (.int .i32 223)) .nil)))))) h131_2 .skip) h131_1) Q env w := rfl
def h131_4 : HC := (.seq (.reg (.chk none (.cal 101) (.cons (.inp 0) (.cons (.inp 3) (.cons (.inp 4) .nil))) (.done [(5, (.op (.cal 101) (.cons (.inp 0) (.cons (.inp 3) (.cons (.inp 4) .nil)))))] none))) h131_3)
@[simp] theorem h131_4_wp {P : Program} {F : PF P} {Q : EX → List Value → World → Prop} {env : List Value} {w : World} : h131_4.wp F Q env w = HC.wp F (.seq (.reg (.chk none (.cal 101) (.cons (.inp 0) (.cons (.inp 3) (.cons (.inp 4) .nil))) (.done [(5, (.op (.cal 101) (.cons (.inp 0) (.cons (.inp 3) (.cons (.inp 4) .nil)))))] none))) h131_3) Q env w := rfl
def h131_5 : HC := (.seq (.reg (.chk none (.ext 1) (.cons (.inp 7) .nil) (.chk none (.ext 2) (.cons (.inp 7) .nil) (.done [(3, (.op (.ext 1) (.cons (.inp 7) .nil))), (4, (.op (.ext 2) (.cons (.inp 7) .nil)))] none)))) h131_4)
@[simp] theorem h131_5_wp {P : Program} {F : PF P} {Q : EX → List Value → World → Prop} {env : List Value} {w : World} : h131_5.wp F Q env w = HC.wp F (.seq (.reg (.chk none (.ext 1) (.cons (.inp 7) .nil) (.chk none (.ext 2) (.cons (.inp 7) .nil) (.done [(3, (.op (.ext 1) (.cons (.inp 7) .nil))), (4, (.op (.ext 2) (.cons (.inp 7) .nil)))] none)))) h131_4) Q env w := rfl
def h131_6 : HC := (.block 1 h131_5)
@[simp] theorem h131_6_wp {P : Program} {F : PF P} {Q : EX → List Value → World → Prop} {env : List Value} {w : World} : h131_6.wp F Q env w = HC.wp F (.block 1 h131_5) Q env w := rfl
def h131_7 : HC := (.seq (.br (.eff (.nxt true 0) (.cons (.inp 6) .nil) (.chk none (.ext 0) (.cons (.bv 0) .nil) (.done [(7, (.bv 0))] (some (.op (.ext 0) (.cons (.bv 0) .nil)))))) .skip (.exit 0)) h131_6)
@[simp] theorem h131_7_wp {P : Program} {F : PF P} {Q : EX → List Value → World → Prop} {env : List Value} {w : World} : h131_7.wp F Q env w = HC.wp F (.seq (.br (.eff (.nxt true 0) (.cons (.inp 6) .nil) (.chk none (.ext 0) (.cons (.bv 0) .nil) (.done [(7, (.bv 0))] (some (.op (.ext 0) (.cons (.bv 0) .nil)))))) .skip (.exit 0)) h131_6) Q env w := rfl
def h131_8 : HC := (.loop h131_7)
@[simp] theorem h131_8_wp {P : Program} {F : PF P} {Q : EX → List Value → World → Prop} {env : List Value} {w : World} : h131_8.wp F Q env w = HC.wp F (.loop h131_7) Q env w := rfl
def h131_9 : HC := (.seq (.block 0 h131_8) h131_0)
@[simp] theorem h131_9_wp {P : Program} {F : PF P} {Q : EX → List Value → World → Prop} {env : List Value} {w : World} : h131_9.wp F Q env w = HC.wp F (.seq (.block 0 h131_8) h131_0) Q env w := rfl
def h131_10 : HC := (.seq (.reg (.eff (.rngS 9) (.cons (.inp 0) .nil) (.done [(6, (.bv 0))] none))) h131_9)
@[simp] theorem h131_10_wp {P : Program} {F : PF P} {Q : EX → List Value → World → Prop} {env : List Value} {w : World} : h131_10.wp F Q env w = HC.wp F (.seq (.reg (.eff (.rngS 9) (.cons (.inp 0) .nil) (.done [(6, (.bv 0))] none))) h131_9) Q env w := rfl
def h131_11 : HC := (.seq (.reg (.chk none .lenS (.cons (.inp 0) .nil) (.eff (.mks 193 21 1 4 (.int .i32 0)) (.cons (.cst (.int .i64 0)) (.cons (.op .lenS (.cons (.inp 0) .nil)) .nil)) (.done [(2, (.bv 0))] none)))) h131_10)
@[simp] theorem h131_11_wp {P : Program} {F : PF P} {Q : EX → List Value → World → Prop} {env : List Value} {w : World} : h131_11.wp F Q env w = HC.wp F (.seq (.reg (.chk none .lenS (.cons (.inp 0) .nil) (.eff (.mks 193 21 1 4 (.int .i32 0)) (.cons (.cst (.int .i64 0)) (.cons (.op .lenS (.cons (.inp 0) .nil)) .nil)) (.done [(2, (.bv 0))] none)))) h131_10) Q env w := rfl
def l131 : Lifted := ⟨[0, 2, 3, 4, 5, 6, 11, 12], 31, [.slot 1], (.seq (.reg (.done [(1, (.cst (.slice none 0 0)))] none)) h131_11)⟩
theorem l131_ok : liftFn F4 131 400 = some l131 := by kernel_rfl


/-- how far a walk over a text has come -/
def iterN (w : World) (b : Nat) : Nat := match w.heap[b]? with
  | some (.stringIter _ p) => p
  | _ => 0
theorem iterN_eq {w0 w : World} {F : Asn} {b p : Nat} {x : ByteArray} (s : St w0 (F * pt b (.stringIter x p)) w) : iterN w b = p := by unfold iterN; rw [s.look]
theorem folded_spec (l : List UInt8) (w0 w : World) (A : Asn) (hl : l.length ≤ 1048576) (s : St w0 A w) :
    CallW Tryz.prog 131 [.string (mk l)] (fun r w' => St w0 (A * own 21 1 r (foldedF l).length (ints32 (foldedF l))) w') w := by
  have hul := units_len l
  refine callW_of_lift l131_ok (by simp [l131]) ?_
  simp [l131]
  refine eff_mks (l := 0) (c := l.length) s (by omega) (by unfold maxLen; omega) (by omega) rfl ?_
  intro v w1 s1
  simp
  refine eff_rngS s1 ?_
  intro b w2 s2
  simp
  refine loopI (fun env w' => ∃ (i : Nat) (done : List (Int × Nat)) (v x y z t : Value), env = [.string (mk l), .slice none 0 0, v, x, y, z, .pointer (some ⟨b, 0, none⟩), t] ∧
      i ≤ l.length ∧ units l = done ++ units (l.drop i) ∧ St w0 (A * own 21 1 v (foldAll done).length (ints32 (foldAll done)) * pt b (.stringIter (mk l) i)) w')
    (fun _ w => l.length - iterN w b) ⟨0, [], _, _, _, _, _, rfl, by omega, by simp, by simpa [foldAll, ints32] using s2⟩ ?_
  rintro LQ env w' ⟨i, done, v, x, y, z, t, rfl, hi, hu, s'⟩ hN hE hR
  simp
  refine eff_nxtS s' (fun h w2 s2 => ?_) (fun h => ?_)
  · simp at h
    have hle := oneF_le (l := l) (i := i) h
    have hob := oneF_bd (l := l.drop i) (by simp; omega)
    rw [decode_decL, decL_oneF _ (by simp; omega)] at s2
    have hstep := units_step hu h
    rw [decode_decL, decL_oneF _ (by simp; omega)]
    simp
    refine ⟨⟨hl, h⟩, ?_⟩
    have hdl : done.length + 1 ≤ l.length := by rw [hstep] at hul; simp at hul; omega
    have hfl := foldAll_len done
    refine cndI (fun h1 => ?_) (fun h1 => ?_)
    · simp at h1
      simp
      refine eff_bsl2 s2.swap rfl rfl ?_
      intro b2 w3 s3
      simp
      refine eff_app (n := (foldAll done).length) (m := 2) (news := [.int .i32 115, .int .i32 115]) s3.swap rfl s3.cells_look (by simp [Value.oneCell']) (by decide) rfl (by unfold maxLen; omega) (by omega) ?_
      intro v' w4 s4
      simp
      refine hN _ _ ⟨i + (oneF (l.drop i)).2, done ++ [oneF (l.drop i)], v', _, _, _, _, by simp; exact ⟨rfl, rfl, rfl, rfl⟩, hle.1, hstep, ?_⟩ ?_
      · rw [foldAll_snoc, foldU, if_pos h1]
        simpa [ints32] using s4.swap.drop.swap
      · rw [iterN_eq s', iterN_eq s4.swap.drop.swap]; omega
    · simp at h1
      simp
      refine ⟨by omega, ?_⟩
      refine eff_bsl1 s2.swap rfl ?_
      intro b2 w3 s3
      simp
      refine eff_app (n := (foldAll done).length) (m := 1) (news := [.int .i32 (foldF (oneF (l.drop i)).1)]) s3.swap rfl s3.cells_look (by simp [Value.oneCell']) (by decide) rfl (by unfold maxLen; omega) (by omega) ?_
      intro v' w4 s4
      simp
      refine hN _ _ ⟨i + (oneF (l.drop i)).2, done ++ [oneF (l.drop i)], v', _, _, _, _, by simp; exact ⟨rfl, rfl, rfl, rfl⟩, hle.1, hstep, ?_⟩ ?_
      · rw [foldAll_snoc, foldU, if_neg h1]
        simpa [ints32] using s4.swap.drop.swap
      · rw [iterN_eq s', iterN_eq s4.swap.drop.swap]; omega
  · simp at h
    simp
    refine hE _ _ _ ?_
    simp
    have : i = l.length := by omega
    subst this
    rw [List.drop_length, units_nil, List.append_nil] at hu
    rw [foldedF, hu]
    exact s'.drop
end Go.HL.Nm

namespace Go.HL.Nm
open Go.HL Go.Proofs
set_option maxRecDepth 4000
set_option linter.unusedSimpArgs false
set_option linter.unusedVariables false
/-- a rune or a bad byte -/
def okU (u : Int) : Prop := (0 ≤ u ∧ u < 55296) ∨ (57344 ≤ u ∧ u ≤ 1114111) ∨ (2097152 ≤ u ∧ u < 2097408)
/-- the bytes of a unit, as_ numbers -/
def encN (n : Nat) : List Nat :=
  if 2097152 ≤ n then [n - 2097152]
  else if n < 128 then [n]
  else if n < 2048 then [192 + n / 64, 128 + n % 64]
  else if n < 65536 then [224 + n / 4096, 128 + n / 64 % 64, 128 + n % 64]
  else [240 + n / 262144, 128 + n / 4096 % 64, 128 + n / 64 % 64, 128 + n % 64]
def encU (u : Int) : List UInt8 := (encN u.toNat).map UInt8.ofNat
def encAll (us : List Int) : List UInt8 := us.flatMap encU
theorem encN_len (n : Nat) : (encN n).length ≤ 4 := by unfold encN; (repeat' split) <;> simp
theorem encU_len (u : Int) : (encU u).length ≤ 4 := by simp only [encU, List.length_map]; exact encN_len _
theorem encAll_len : ∀ us : List Int, (encAll us).length ≤ 4 * us.length
  | [] => by simp [encAll]
  | u :: us => by
    have := encAll_len us
    have h1 := encU_len u
    simp only [encAll, List.flatMap_cons, List.length_append, List.length_cons] at this ⊢
    omega
theorem encAll_snoc (us : List Int) (u : Int) : encAll (us ++ [u]) = encAll us ++ encU u := by simp [encAll]
theorem bytesV_app (a b : List UInt8) : bytesV (a ++ b) = bytesV a ++ bytesV b := by simp [bytesV]
/-- the values of bytes that are numbers -/
theorem bytesV_nat (l : List Nat) (h : ∀ n ∈ l, n < 256) : bytesV (l.map UInt8.ofNat) = l.map fun n => .int .u8 (n : Int) := by
  simp only [bytesV, List.map_map]
  refine List.map_congr_left fun n hn => ?_
  have := h n hn
  simp
  omega
theorem encN_lt (n : Nat) (h : okU n) : ∀ b ∈ encN n, b < 256 := by
  have hn : n ≤ 1114111 ∨ (2097152 ≤ n ∧ n < 2097408) := by unfold okU at h; omega
  unfold encN
  repeat' split
  all_goals (intro b hb; simp at hb; omega)
theorem encV (n : Nat) (h : okU n) : bytesV (encU n) = (encN n).map fun b => .int .u8 (b : Int) := by
  have := bytesV_nat (encN n) (encN_lt n h)
  simpa [encU] using this
-- bazaar/bazaarref04.bytes
-- bazaar/bazaarref04.Text
end Go.HL.Nm

namespace Go.HL.Nm
open Go.HL Go.Proofs
set_option maxRecDepth 4000
set_option linter.unusedSimpArgs false
set_option linter.unusedVariables false
theorem fd (n : Nat) (k : Nat) (h : k ≤ 32) : (n : Int).fdiv (2 ^ min k IntKind.i32.bits) = (n : Int) / 2 ^ k := by
  have : min k IntKind.i32.bits = k := Nat.min_eq_left h
  rw [this, Int.fdiv_eq_ediv_of_nonneg]
  exact Int.le_of_lt (Int.pow_pos (by decide))
theorem fd6 (n : Nat) : (n : Int).fdiv (2 ^ min 6 IntKind.i32.bits) = (n : Int) / 64 := fd n 6 (by decide)
theorem fd12 (n : Nat) : (n : Int).fdiv (2 ^ min 12 IntKind.i32.bits) = (n : Int) / 4096 := fd n 12 (by decide)
theorem fd18 (n : Nat) : (n : Int).fdiv (2 ^ min 18 IntKind.i32.bits) = (n : Int) / 262144 := fd n 18 (by decide)
theorem or192' : ∀ m : Fin 32, IntKind.u8.wrap ((192 % 2 ^ IntKind.u8.bits ||| (((m.val : Nat) : Int) % 2 ^ IntKind.u8.bits).toNat : Nat) : Int) = 192 + ((m.val : Nat) : Int) := by decide +kernel
theorem or224' : ∀ m : Fin 16, IntKind.u8.wrap ((224 % 2 ^ IntKind.u8.bits ||| (((m.val : Nat) : Int) % 2 ^ IntKind.u8.bits).toNat : Nat) : Int) = 224 + ((m.val : Nat) : Int) := by decide +kernel
theorem or240' : ∀ m : Fin 8, IntKind.u8.wrap ((240 % 2 ^ IntKind.u8.bits ||| (((m.val : Nat) : Int) % 2 ^ IntKind.u8.bits).toNat : Nat) : Int) = 240 + ((m.val : Nat) : Int) := by decide +kernel
theorem or128' : ∀ m : Fin 64, IntKind.u8.wrap ((128 % 2 ^ IntKind.u8.bits ||| (((m.val : Nat) : Int) % 2 ^ IntKind.u8.bits).toNat : Nat) : Int) = 128 + ((m.val : Nat) : Int) := by decide +kernel
theorem or192 {x : Int} (h : 0 ≤ x) (h2 : x < 32) : IntKind.u8.wrap ((192 % 2 ^ IntKind.u8.bits ||| (x % 2 ^ IntKind.u8.bits).toNat : Nat) : Int) = 192 + x := by
  obtain ⟨m, rfl⟩ := Int.eq_ofNat_of_zero_le h
  exact or192' ⟨m, by omega⟩
theorem or224 {x : Int} (h : 0 ≤ x) (h2 : x < 16) : IntKind.u8.wrap ((224 % 2 ^ IntKind.u8.bits ||| (x % 2 ^ IntKind.u8.bits).toNat : Nat) : Int) = 224 + x := by
  obtain ⟨m, rfl⟩ := Int.eq_ofNat_of_zero_le h
  exact or224' ⟨m, by omega⟩
theorem or240 {x : Int} (h : 0 ≤ x) (h2 : x < 8) : IntKind.u8.wrap ((240 % 2 ^ IntKind.u8.bits ||| (x % 2 ^ IntKind.u8.bits).toNat : Nat) : Int) = 240 + x := by
  obtain ⟨m, rfl⟩ := Int.eq_ofNat_of_zero_le h
  exact or240' ⟨m, by omega⟩
theorem or128 {x : Int} (h : 0 ≤ x) (h2 : x < 64) : IntKind.u8.wrap ((128 % 2 ^ IntKind.u8.bits ||| (x % 2 ^ IntKind.u8.bits).toNat : Nat) : Int) = 128 + x := by
  obtain ⟨m, rfl⟩ := Int.eq_ofNat_of_zero_le h
  exact or128' ⟨m, by omega⟩
theorem and63 {x : Int} (h : 0 ≤ x) : IntKind.u8.wrap (((IntKind.u8.wrap x % 2 ^ IntKind.u8.bits).toNat &&& 63 % 2 ^ IntKind.u8.bits : Nat) : Int) = x % 64 := by
  have e : (63 % 2 ^ IntKind.u8.bits : Nat) = 2 ^ 6 - 1 := rfl
  rw [e, Nat.and_two_pow_sub_one_eq_mod, IntKind.wrap_u8, IntKind.wrap_u8]
  have e2 : (2 ^ IntKind.u8.bits : Int) = 256 := rfl
  rw [e2]
  omega
-- unicode/utf8.appendRuneNonASCII
def h172_0 : HC := (.seq (.reg (.chk none (.bin .shr) (.cons (.inp 1) (.cons (.cst (.int .u64 6)) .nil)) (.chk none (.convI .u8) (.cons (.op (.bin .shr) (.cons (.inp 1) (.cons (.cst (.int .u64 6)) .nil))) .nil) (.chk none (.bin .or) (.cons (.cst (.int .u8 192)) (.cons (.op (.convI .u8) (.cons (.op (.bin .shr) (.cons (.inp 1) (.cons (.cst (.int .u64 6)) .nil))) .nil)) .nil)) (.chk none (.convI .u8) (.cons (.inp 1) .nil) (.chk none (.bin .and) (.cons (.op (.convI .u8) (.cons (.inp 1) .nil)) (.cons (.cst (.int .u8 63)) .nil)) (.chk none (.bin .or) (.cons (.cst (.int .u8 128)) (.cons (.op (.bin .and) (.cons (.op (.convI .u8) (.cons (.inp 1) .nil)) (.cons (.cst (.int .u8 63)) .nil))) .nil)) (.eff (.bsl 5 2 1 #[(.int .u8 0)] [0, 1]) (.cons (.op (.bin .or) (.cons (.cst (.int .u8 192)) (.cons (.op (.convI .u8) (.cons (.op (.bin .shr) (.cons (.inp 1) (.cons (.cst (.int .u64 6)) .nil))) .nil)) .nil))) (.cons (.op (.bin .or) (.cons (.cst (.int .u8 128)) (.cons (.op (.bin .and) (.cons (.op (.convI .u8) (.cons (.inp 1) .nil)) (.cons (.cst (.int .u8 63)) .nil))) .nil))) .nil)) (.eff (.app 214 214 5 1 1 (.int .u8 0)) (.cons (.inp 0) (.cons (.bv 0) .nil)) (.done [(2, (.bv 1))] none)))))))))) .ret)
@[simp] theorem h172_0_wp {P : Program} {F : PF P} {Q : EX → List Value → World → Prop} {env : List Value} {w : World} : h172_0.wp F Q env w = HC.wp F (.seq (.reg (.chk none (.bin .shr) (.cons (.inp 1) (.cons (.cst (.int .u64 6)) .nil)) (.chk none (.convI .u8) (.cons (.op (.bin .shr) (.cons (.inp 1) (.cons (.cst (.int .u64 6)) .nil))) .nil) (.chk none (.bin .or) (.cons (.cst (.int .u8 192)) (.cons (.op (.convI .u8) (.cons (.op (.bin .shr) (.cons (.inp 1) (.cons (.cst (.int .u64 6)) .nil))) .nil)) .nil)) (.chk none (.convI .u8) (.cons (.inp 1) .nil) (.chk none (.bin .and) (.cons (.op (.convI .u8) (.cons (.inp 1) .nil)) (.cons (.cst (.int .u8 63)) .nil)) (.chk none (.bin .or) (.cons (.cst (.int .u8 128)) (.cons (.op (.bin .and) (.cons (.op (.convI .u8) (.cons (.inp 1) .nil)) (.cons (.cst (.int .u8 63)) .nil))) .nil)) (.eff (.bsl 5 2 1 #[(.int .u8 0)] [0, 1]) (.cons (.op (.bin .or) (.cons (.cst (.int .u8 192)) (.cons (.op (.convI .u8) (.cons (.op (.bin .shr) (.cons (.inp 1) (.cons (.cst (.int .u64 6)) .nil))) .nil)) .nil))) (.cons (.op (.bin .or) (.cons (.cst (.int .u8 128)) (.cons (.op (.bin .and) (.cons (.op (.convI .u8) (.cons (.inp 1) .nil)) (.cons (.cst (.int .u8 63)) .nil))) .nil))) .nil)) (.eff (.app 214 214 5 1 1 (.int .u8 0)) (.cons (.inp 0) (.cons (.bv 0) .nil)) (.done [(2, (.bv 1))] none)))))))))) .ret) Q env w := rfl
def h172_1 : HC := (.seq (.reg (.chk none (.bin .shr) (.cons (.inp 1) (.cons (.cst (.int .u64 12)) .nil)) (.chk none (.convI .u8) (.cons (.op (.bin .shr) (.cons (.inp 1) (.cons (.cst (.int .u64 12)) .nil))) .nil) (.chk none (.bin .or) (.cons (.cst (.int .u8 224)) (.cons (.op (.convI .u8) (.cons (.op (.bin .shr) (.cons (.inp 1) (.cons (.cst (.int .u64 12)) .nil))) .nil)) .nil)) (.chk none (.bin .shr) (.cons (.inp 1) (.cons (.cst (.int .u64 6)) .nil)) (.chk none (.convI .u8) (.cons (.op (.bin .shr) (.cons (.inp 1) (.cons (.cst (.int .u64 6)) .nil))) .nil) (.chk none (.bin .and) (.cons (.op (.convI .u8) (.cons (.op (.bin .shr) (.cons (.inp 1) (.cons (.cst (.int .u64 6)) .nil))) .nil)) (.cons (.cst (.int .u8 63)) .nil)) (.chk none (.bin .or) (.cons (.cst (.int .u8 128)) (.cons (.op (.bin .and) (.cons (.op (.convI .u8) (.cons (.op (.bin .shr) (.cons (.inp 1) (.cons (.cst (.int .u64 6)) .nil))) .nil)) (.cons (.cst (.int .u8 63)) .nil))) .nil)) (.chk none (.convI .u8) (.cons (.inp 1) .nil) (.chk none (.bin .and) (.cons (.op (.convI .u8) (.cons (.inp 1) .nil)) (.cons (.cst (.int .u8 63)) .nil)) (.chk none (.bin .or) (.cons (.cst (.int .u8 128)) (.cons (.op (.bin .and) (.cons (.op (.convI .u8) (.cons (.inp 1) .nil)) (.cons (.cst (.int .u8 63)) .nil))) .nil)) (.eff (.bsl 5 3 1 #[(.int .u8 0)] [0, 1, 2]) (.cons (.op (.bin .or) (.cons (.cst (.int .u8 224)) (.cons (.op (.convI .u8) (.cons (.op (.bin .shr) (.cons (.inp 1) (.cons (.cst (.int .u64 12)) .nil))) .nil)) .nil))) (.cons (.op (.bin .or) (.cons (.cst (.int .u8 128)) (.cons (.op (.bin .and) (.cons (.op (.convI .u8) (.cons (.op (.bin .shr) (.cons (.inp 1) (.cons (.cst (.int .u64 6)) .nil))) .nil)) (.cons (.cst (.int .u8 63)) .nil))) .nil))) (.cons (.op (.bin .or) (.cons (.cst (.int .u8 128)) (.cons (.op (.bin .and) (.cons (.op (.convI .u8) (.cons (.inp 1) .nil)) (.cons (.cst (.int .u8 63)) .nil))) .nil))) .nil))) (.eff (.app 214 214 5 1 1 (.int .u8 0)) (.cons (.inp 0) (.cons (.bv 0) .nil)) (.done [(2, (.bv 1))] none)))))))))))))) .ret)
@[simp] theorem h172_1_wp {P : Program} {F : PF P} {Q : EX → List Value → World → Prop} {env : List Value} {w : World} : h172_1.wp F Q env w = HC.wp F (.seq (.reg (.chk none (.bin .shr) (.cons (.inp 1) (.cons (.cst (.int .u64 12)) .nil)) (.chk none (.convI .u8) (.cons (.op (.bin .shr) (.cons (.inp 1) (.cons (.cst (.int .u64 12)) .nil))) .nil) (.chk none (.bin .or) (.cons (.cst (.int .u8 224)) (.cons (.op (.convI .u8) (.cons (.op (.bin .shr) (.cons (.inp 1) (.cons (.cst (.int .u64 12)) .nil))) .nil)) .nil)) (.chk none (.bin .shr) (.cons (.inp 1) (.cons (.cst (.int .u64 6)) .nil)) (.chk none (.convI .u8) (.cons (.op (.bin .shr) (.cons (.inp 1) (.cons (.cst (.int .u64 6)) .nil))) .nil) (.chk none (.bin .and) (.cons (.op (.convI .u8) (.cons (.op (.bin .shr) (.cons (.inp 1) (.cons (.cst (.int .u64 6)) .nil))) .nil)) (.cons (.cst (.int .u8 63)) .nil)) (.chk none (.bin .or) (.cons (.cst (.int .u8 128)) (.cons (.op (.bin .and) (.cons (.op (.convI .u8) (.cons (.op (.bin .shr) (.cons (.inp 1) (.cons (.cst (.int .u64 6)) .nil))) .nil)) (.cons (.cst (.int .u8 63)) .nil))) .nil)) (.chk none (.convI .u8) (.cons (.inp 1) .nil) (.chk none (.bin .and) (.cons (.op (.convI .u8) (.cons (.inp 1) .nil)) (.cons (.cst (.int .u8 63)) .nil)) (.chk none (.bin .or) (.cons (.cst (.int .u8 128)) (.cons (.op (.bin .and) (.cons (.op (.convI .u8) (.cons (.inp 1) .nil)) (.cons (.cst (.int .u8 63)) .nil))) .nil)) (.eff (.bsl 5 3 1 #[(.int .u8 0)] [0, 1, 2]) (.cons (.op (.bin .or) (.cons (.cst (.int .u8 224)) (.cons (.op (.convI .u8) (.cons (.op (.bin .shr) (.cons (.inp 1) (.cons (.cst (.int .u64 12)) .nil))) .nil)) .nil))) (.cons (.op (.bin .or) (.cons (.cst (.int .u8 128)) (.cons (.op (.bin .and) (.cons (.op (.convI .u8) (.cons (.op (.bin .shr) (.cons (.inp 1) (.cons (.cst (.int .u64 6)) .nil))) .nil)) (.cons (.cst (.int .u8 63)) .nil))) .nil))) (.cons (.op (.bin .or) (.cons (.cst (.int .u8 128)) (.cons (.op (.bin .and) (.cons (.op (.convI .u8) (.cons (.inp 1) .nil)) (.cons (.cst (.int .u8 63)) .nil))) .nil))) .nil))) (.eff (.app 214 214 5 1 1 (.int .u8 0)) (.cons (.inp 0) (.cons (.bv 0) .nil)) (.done [(2, (.bv 1))] none)))))))))))))) .ret) Q env w := rfl
def h172_2 : HC := (.seq (.reg (.chk none (.bin .shr) (.cons (.inp 1) (.cons (.cst (.int .u64 18)) .nil)) (.chk none (.convI .u8) (.cons (.op (.bin .shr) (.cons (.inp 1) (.cons (.cst (.int .u64 18)) .nil))) .nil) (.chk none (.bin .or) (.cons (.cst (.int .u8 240)) (.cons (.op (.convI .u8) (.cons (.op (.bin .shr) (.cons (.inp 1) (.cons (.cst (.int .u64 18)) .nil))) .nil)) .nil)) (.chk none (.bin .shr) (.cons (.inp 1) (.cons (.cst (.int .u64 12)) .nil)) (.chk none (.convI .u8) (.cons (.op (.bin .shr) (.cons (.inp 1) (.cons (.cst (.int .u64 12)) .nil))) .nil) (.chk none (.bin .and) (.cons (.op (.convI .u8) (.cons (.op (.bin .shr) (.cons (.inp 1) (.cons (.cst (.int .u64 12)) .nil))) .nil)) (.cons (.cst (.int .u8 63)) .nil)) (.chk none (.bin .or) (.cons (.cst (.int .u8 128)) (.cons (.op (.bin .and) (.cons (.op (.convI .u8) (.cons (.op (.bin .shr) (.cons (.inp 1) (.cons (.cst (.int .u64 12)) .nil))) .nil)) (.cons (.cst (.int .u8 63)) .nil))) .nil)) (.chk none (.bin .shr) (.cons (.inp 1) (.cons (.cst (.int .u64 6)) .nil)) (.chk none (.convI .u8) (.cons (.op (.bin .shr) (.cons (.inp 1) (.cons (.cst (.int .u64 6)) .nil))) .nil) (.chk none (.bin .and) (.cons (.op (.convI .u8) (.cons (.op (.bin .shr) (.cons (.inp 1) (.cons (.cst (.int .u64 6)) .nil))) .nil)) (.cons (.cst (.int .u8 63)) .nil)) (.chk none (.bin .or) (.cons (.cst (.int .u8 128)) (.cons (.op (.bin .and) (.cons (.op (.convI .u8) (.cons (.op (.bin .shr) (.cons (.inp 1) (.cons (.cst (.int .u64 6)) .nil))) .nil)) (.cons (.cst (.int .u8 63)) .nil))) .nil)) (.chk none (.convI .u8) (.cons (.inp 1) .nil) (.chk none (.bin .and) (.cons (.op (.convI .u8) (.cons (.inp 1) .nil)) (.cons (.cst (.int .u8 63)) .nil)) (.chk none (.bin .or) (.cons (.cst (.int .u8 128)) (.cons (.op (.bin .and) (.cons (.op (.convI .u8) (.cons (.inp 1) .nil)) (.cons (.cst (.int .u8 63)) .nil))) .nil)) (.eff (.bsl 5 4 1 #[(.int .u8 0)] [0, 1, 2, 3]) (.cons (.op (.bin .or) (.cons (.cst (.int .u8 240)) (.cons (.op (.convI .u8) (.cons (.op (.bin .shr) (.cons (.inp 1) (.cons (.cst (.int .u64 18)) .nil))) .nil)) .nil))) (.cons (.op (.bin .or) (.cons (.cst (.int .u8 128)) (.cons (.op (.bin .and) (.cons (.op (.convI .u8) (.cons (.op (.bin .shr) (.cons (.inp 1) (.cons (.cst (.int .u64 12)) .nil))) .nil)) (.cons (.cst (.int .u8 63)) .nil))) .nil))) (.cons (.op (.bin .or) (.cons (.cst (.int .u8 128)) (.cons (.op (.bin .and) (.cons (.op (.convI .u8) (.cons (.op (.bin .shr) (.cons (.inp 1) (.cons (.cst (.int .u64 6)) .nil))) .nil)) (.cons (.cst (.int .u8 63)) .nil))) .nil))) (.cons (.op (.bin .or) (.cons (.cst (.int .u8 128)) (.cons (.op (.bin .and) (.cons (.op (.convI .u8) (.cons (.inp 1) .nil)) (.cons (.cst (.int .u8 63)) .nil))) .nil))) .nil)))) (.eff (.app 214 214 5 1 1 (.int .u8 0)) (.cons (.inp 0) (.cons (.bv 0) .nil)) (.done [(2, (.bv 1))] none)))))))))))))))))) .ret)
@[simp] theorem h172_2_wp {P : Program} {F : PF P} {Q : EX → List Value → World → Prop} {env : List Value} {w : World} : h172_2.wp F Q env w = HC.wp F (.seq (.reg (.chk none (.bin .shr) (.cons (.inp 1) (.cons (.cst (.int .u64 18)) .nil)) (.chk none (.convI .u8) (.cons (.op (.bin .shr) (.cons (.inp 1) (.cons (.cst (.int .u64 18)) .nil))) .nil) (.chk none (.bin .or) (.cons (.cst (.int .u8 240)) (.cons (.op (.convI .u8) (.cons (.op (.bin .shr) (.cons (.inp 1) (.cons (.cst (.int .u64 18)) .nil))) .nil)) .nil)) (.chk none (.bin .shr) (.cons (.inp 1) (.cons (.cst (.int .u64 12)) .nil)) (.chk none (.convI .u8) (.cons (.op (.bin .shr) (.cons (.inp 1) (.cons (.cst (.int .u64 12)) .nil))) .nil) (.chk none (.bin .and) (.cons (.op (.convI .u8) (.cons (.op (.bin .shr) (.cons (.inp 1) (.cons (.cst (.int .u64 12)) .nil))) .nil)) (.cons (.cst (.int .u8 63)) .nil)) (.chk none (.bin .or) (.cons (.cst (.int .u8 128)) (.cons (.op (.bin .and) (.cons (.op (.convI .u8) (.cons (.op (.bin .shr) (.cons (.inp 1) (.cons (.cst (.int .u64 12)) .nil))) .nil)) (.cons (.cst (.int .u8 63)) .nil))) .nil)) (.chk none (.bin .shr) (.cons (.inp 1) (.cons (.cst (.int .u64 6)) .nil)) (.chk none (.convI .u8) (.cons (.op (.bin .shr) (.cons (.inp 1) (.cons (.cst (.int .u64 6)) .nil))) .nil) (.chk none (.bin .and) (.cons (.op (.convI .u8) (.cons (.op (.bin .shr) (.cons (.inp 1) (.cons (.cst (.int .u64 6)) .nil))) .nil)) (.cons (.cst (.int .u8 63)) .nil)) (.chk none (.bin .or) (.cons (.cst (.int .u8 128)) (.cons (.op (.bin .and) (.cons (.op (.convI .u8) (.cons (.op (.bin .shr) (.cons (.inp 1) (.cons (.cst (.int .u64 6)) .nil))) .nil)) (.cons (.cst (.int .u8 63)) .nil))) .nil)) (.chk none (.convI .u8) (.cons (.inp 1) .nil) (.chk none (.bin .and) (.cons (.op (.convI .u8) (.cons (.inp 1) .nil)) (.cons (.cst (.int .u8 63)) .nil)) (.chk none (.bin .or) (.cons (.cst (.int .u8 128)) (.cons (.op (.bin .and) (.cons (.op (.convI .u8) (.cons (.inp 1) .nil)) (.cons (.cst (.int .u8 63)) .nil))) .nil)) (.eff (.bsl 5 4 1 #[(.int .u8 0)] [0, 1, 2, 3]) (.cons (.op (.bin .or) (.cons (.cst (.int .u8 240)) (.cons (.op (.convI .u8) (.cons (.op (.bin .shr) (.cons (.inp 1) (.cons (.cst (.int .u64 18)) .nil))) .nil)) .nil))) (.cons (.op (.bin .or) (.cons (.cst (.int .u8 128)) (.cons (.op (.bin .and) (.cons (.op (.convI .u8) (.cons (.op (.bin .shr) (.cons (.inp 1) (.cons (.cst (.int .u64 12)) .nil))) .nil)) (.cons (.cst (.int .u8 63)) .nil))) .nil))) (.cons (.op (.bin .or) (.cons (.cst (.int .u8 128)) (.cons (.op (.bin .and) (.cons (.op (.convI .u8) (.cons (.op (.bin .shr) (.cons (.inp 1) (.cons (.cst (.int .u64 6)) .nil))) .nil)) (.cons (.cst (.int .u8 63)) .nil))) .nil))) (.cons (.op (.bin .or) (.cons (.cst (.int .u8 128)) (.cons (.op (.bin .and) (.cons (.op (.convI .u8) (.cons (.inp 1) .nil)) (.cons (.cst (.int .u8 63)) .nil))) .nil))) .nil)))) (.eff (.app 214 214 5 1 1 (.int .u8 0)) (.cons (.inp 0) (.cons (.bv 0) .nil)) (.done [(2, (.bv 1))] none)))))))))))))))))) .ret) Q env w := rfl
def h172_3 : HC := (.seq (.reg (.eff (.bsl 5 3 1 #[(.int .u8 0)] [0, 1, 2]) (.cons (.cst (.int .u8 239)) (.cons (.cst (.int .u8 191)) (.cons (.cst (.int .u8 189)) .nil))) (.eff (.app 214 214 5 1 1 (.int .u8 0)) (.cons (.inp 0) (.cons (.bv 0) .nil)) (.done [(2, (.bv 1))] none)))) .ret)
@[simp] theorem h172_3_wp {P : Program} {F : PF P} {Q : EX → List Value → World → Prop} {env : List Value} {w : World} : h172_3.wp F Q env w = HC.wp F (.seq (.reg (.eff (.bsl 5 3 1 #[(.int .u8 0)] [0, 1, 2]) (.cons (.cst (.int .u8 239)) (.cons (.cst (.int .u8 191)) (.cons (.cst (.int .u8 189)) .nil))) (.eff (.app 214 214 5 1 1 (.int .u8 0)) (.cons (.inp 0) (.cons (.bv 0) .nil)) (.done [(2, (.bv 1))] none)))) .ret) Q env w := rfl
def h172_4 : HC := (.br (.chk none (.bin .gtr) (.cons (.inp 3) (.cons (.cst (.int .u32 65535)) .nil)) (.bnd (.op (.bin .gtr) (.cons (.inp 3) (.cons (.cst (.int .u32 65535)) .nil))) (.chk (some ((.bv 0), true)) (.bin .leq) (.cons (.inp 3) (.cons (.cst (.int .u32 1114111)) .nil)) (.isb none (.bv 0) (.done [] (some (.ite (.bv 0) true (.op (.bin .leq) (.cons (.inp 3) (.cons (.cst (.int .u32 1114111)) .nil))) (.cst (.bool false))))))))) h172_2 h172_3)
@[simp] theorem h172_4_wp {P : Program} {F : PF P} {Q : EX → List Value → World → Prop} {env : List Value} {w : World} : h172_4.wp F Q env w = HC.wp F (.br (.chk none (.bin .gtr) (.cons (.inp 3) (.cons (.cst (.int .u32 65535)) .nil)) (.bnd (.op (.bin .gtr) (.cons (.inp 3) (.cons (.cst (.int .u32 65535)) .nil))) (.chk (some ((.bv 0), true)) (.bin .leq) (.cons (.inp 3) (.cons (.cst (.int .u32 1114111)) .nil)) (.isb none (.bv 0) (.done [] (some (.ite (.bv 0) true (.op (.bin .leq) (.cons (.inp 3) (.cons (.cst (.int .u32 1114111)) .nil))) (.cst (.bool false))))))))) h172_2 h172_3) Q env w := rfl
def h172_5 : HC := (.cnd 4 h172_1 h172_4)
@[simp] theorem h172_5_wp {P : Program} {F : PF P} {Q : EX → List Value → World → Prop} {env : List Value} {w : World} : h172_5.wp F Q env w = HC.wp F (.cnd 4 h172_1 h172_4) Q env w := rfl
def h172_6 : HC := (.reg (.chk none (.bin .lss) (.cons (.cst (.int .u32 57343)) (.cons (.inp 3) .nil)) (.bnd (.op (.bin .lss) (.cons (.cst (.int .u32 57343)) (.cons (.inp 3) .nil))) (.chk (some ((.bv 0), true)) (.bin .leq) (.cons (.inp 3) (.cons (.cst (.int .u32 65535)) .nil)) (.isb none (.bv 0) (.done [(4, (.ite (.bv 0) true (.op (.bin .leq) (.cons (.inp 3) (.cons (.cst (.int .u32 65535)) .nil))) (.cst (.bool false))))] none))))))
@[simp] theorem h172_6_wp {P : Program} {F : PF P} {Q : EX → List Value → World → Prop} {env : List Value} {w : World} : h172_6.wp F Q env w = HC.wp F (.reg (.chk none (.bin .lss) (.cons (.cst (.int .u32 57343)) (.cons (.inp 3) .nil)) (.bnd (.op (.bin .lss) (.cons (.cst (.int .u32 57343)) (.cons (.inp 3) .nil))) (.chk (some ((.bv 0), true)) (.bin .leq) (.cons (.inp 3) (.cons (.cst (.int .u32 65535)) .nil)) (.isb none (.bv 0) (.done [(4, (.ite (.bv 0) true (.op (.bin .leq) (.cons (.inp 3) (.cons (.cst (.int .u32 65535)) .nil))) (.cst (.bool false))))] none)))))) Q env w := rfl
def h172_7 : HC := (.seq (.cnd 4 .skip h172_6) h172_5)
@[simp] theorem h172_7_wp {P : Program} {F : PF P} {Q : EX → List Value → World → Prop} {env : List Value} {w : World} : h172_7.wp F Q env w = HC.wp F (.seq (.cnd 4 .skip h172_6) h172_5) Q env w := rfl
def h172_8 : HC := (.seq (.reg (.chk none (.bin .lss) (.cons (.inp 3) (.cons (.cst (.int .u32 55296)) .nil)) (.done [(4, (.op (.bin .lss) (.cons (.inp 3) (.cons (.cst (.int .u32 55296)) .nil))))] none))) h172_7)
@[simp] theorem h172_8_wp {P : Program} {F : PF P} {Q : EX → List Value → World → Prop} {env : List Value} {w : World} : h172_8.wp F Q env w = HC.wp F (.seq (.reg (.chk none (.bin .lss) (.cons (.inp 3) (.cons (.cst (.int .u32 55296)) .nil)) (.done [(4, (.op (.bin .lss) (.cons (.inp 3) (.cons (.cst (.int .u32 55296)) .nil))))] none))) h172_7) Q env w := rfl
def h172_9 : HC := (.br (.chk none (.bin .leq) (.cons (.inp 3) (.cons (.cst (.int .u32 2047)) .nil)) (.done [] (some (.op (.bin .leq) (.cons (.inp 3) (.cons (.cst (.int .u32 2047)) .nil)))))) h172_0 h172_8)
@[simp] theorem h172_9_wp {P : Program} {F : PF P} {Q : EX → List Value → World → Prop} {env : List Value} {w : World} : h172_9.wp F Q env w = HC.wp F (.br (.chk none (.bin .leq) (.cons (.inp 3) (.cons (.cst (.int .u32 2047)) .nil)) (.done [] (some (.op (.bin .leq) (.cons (.inp 3) (.cons (.cst (.int .u32 2047)) .nil)))))) h172_0 h172_8) Q env w := rfl
def h172_10 : HC := (.block 0 h172_9)
@[simp] theorem h172_10_wp {P : Program} {F : PF P} {Q : EX → List Value → World → Prop} {env : List Value} {w : World} : h172_10.wp F Q env w = HC.wp F (.block 0 h172_9) Q env w := rfl
def h172_11 : HC := (.seq (.reg (.chk none (.convI .u32) (.cons (.inp 1) .nil) (.done [(3, (.op (.convI .u32) (.cons (.inp 1) .nil)))] none))) h172_10)
@[simp] theorem h172_11_wp {P : Program} {F : PF P} {Q : EX → List Value → World → Prop} {env : List Value} {w : World} : h172_11.wp F Q env w = HC.wp F (.seq (.reg (.chk none (.convI .u32) (.cons (.inp 1) .nil) (.done [(3, (.op (.convI .u32) (.cons (.inp 1) .nil)))] none))) h172_10) Q env w := rfl
def l172 : Lifted := ⟨[0, 1, 4, 5, 25], 78, [.slot 2], (.seq (.reg (.done [(2, (.cst (.slice none 0 0)))] none)) h172_11)⟩
theorem l172_ok : liftFn F4 172 400 = some l172 := by kernel_rfl

-- unicode/utf8.AppendRune
def h170_0 : HC := (.seq (.reg (.eff (.call 172) (.cons (.inp 0) (.cons (.inp 1) .nil)) (.done [(2, (.bv 0))] none))) .ret)
@[simp] theorem h170_0_wp {P : Program} {F : PF P} {Q : EX → List Value → World → Prop} {env : List Value} {w : World} : h170_0.wp F Q env w = HC.wp F (.seq (.reg (.eff (.call 172) (.cons (.inp 0) (.cons (.inp 1) .nil)) (.done [(2, (.bv 0))] none))) .ret) Q env w := rfl
def h170_1 : HC := (.seq (.reg (.chk none (.convI .u8) (.cons (.inp 1) .nil) (.eff (.bsl 5 1 1 #[(.int .u8 0)] [0]) (.cons (.op (.convI .u8) (.cons (.inp 1) .nil)) .nil) (.eff (.app 214 214 5 1 1 (.int .u8 0)) (.cons (.inp 0) (.cons (.bv 0) .nil)) (.done [(2, (.bv 1))] none))))) .ret)
@[simp] theorem h170_1_wp {P : Program} {F : PF P} {Q : EX → List Value → World → Prop} {env : List Value} {w : World} : h170_1.wp F Q env w = HC.wp F (.seq (.reg (.chk none (.convI .u8) (.cons (.inp 1) .nil) (.eff (.bsl 5 1 1 #[(.int .u8 0)] [0]) (.cons (.op (.convI .u8) (.cons (.inp 1) .nil)) .nil) (.eff (.app 214 214 5 1 1 (.int .u8 0)) (.cons (.inp 0) (.cons (.bv 0) .nil)) (.done [(2, (.bv 1))] none))))) .ret) Q env w := rfl
def h170_2 : HC := (.seq (.br (.chk none (.convI .u32) (.cons (.inp 1) .nil) (.chk none (.bin .leq) (.cons (.op (.convI .u32) (.cons (.inp 1) .nil)) (.cons (.cst (.int .u32 127)) .nil)) (.done [] (some (.op (.bin .leq) (.cons (.op (.convI .u32) (.cons (.inp 1) .nil)) (.cons (.cst (.int .u32 127)) .nil))))))) h170_1 .skip) h170_0)
@[simp] theorem h170_2_wp {P : Program} {F : PF P} {Q : EX → List Value → World → Prop} {env : List Value} {w : World} : h170_2.wp F Q env w = HC.wp F (.seq (.br (.chk none (.convI .u32) (.cons (.inp 1) .nil) (.chk none (.bin .leq) (.cons (.op (.convI .u32) (.cons (.inp 1) .nil)) (.cons (.cst (.int .u32 127)) .nil)) (.done [] (some (.op (.bin .leq) (.cons (.op (.convI .u32) (.cons (.inp 1) .nil)) (.cons (.cst (.int .u32 127)) .nil))))))) h170_1 .skip) h170_0) Q env w := rfl
def l170 : Lifted := ⟨[0, 1, 4], 16, [.slot 2], (.seq (.reg (.done [(2, (.cst (.slice none 0 0)))] none)) h170_2)⟩
theorem l170_ok : liftFn F4 170 400 = some l170 := by kernel_rfl

-- bazaar/name.put
def h159_0 : HC := (.seq (.reg (.eff (.call 170) (.cons (.inp 0) (.cons (.inp 1) .nil)) (.done [(2, (.bv 0))] none))) .ret)
@[simp] theorem h159_0_wp {P : Program} {F : PF P} {Q : EX → List Value → World → Prop} {env : List Value} {w : World} : h159_0.wp F Q env w = HC.wp F (.seq (.reg (.eff (.call 170) (.cons (.inp 0) (.cons (.inp 1) .nil)) (.done [(2, (.bv 0))] none))) .ret) Q env w := rfl
def h159_1 : HC := (.seq (.reg (.chk none (.bin .sub) (.cons (.inp 1) (.cons (.cst (.int .i32 2097152)) .nil)) (.chk none (.convI .u8) (.cons (.op (.bin .sub) (.cons (.inp 1) (.cons (.cst (.int .i32 2097152)) .nil))) .nil) (.eff (.bsl 5 1 1 #[(.int .u8 0)] [0]) (.cons (.op (.convI .u8) (.cons (.op (.bin .sub) (.cons (.inp 1) (.cons (.cst (.int .i32 2097152)) .nil))) .nil)) .nil) (.eff (.app 214 214 5 1 1 (.int .u8 0)) (.cons (.inp 0) (.cons (.bv 0) .nil)) (.done [(2, (.bv 1))] none)))))) .ret)
@[simp] theorem h159_1_wp {P : Program} {F : PF P} {Q : EX → List Value → World → Prop} {env : List Value} {w : World} : h159_1.wp F Q env w = HC.wp F (.seq (.reg (.chk none (.bin .sub) (.cons (.inp 1) (.cons (.cst (.int .i32 2097152)) .nil)) (.chk none (.convI .u8) (.cons (.op (.bin .sub) (.cons (.inp 1) (.cons (.cst (.int .i32 2097152)) .nil))) .nil) (.eff (.bsl 5 1 1 #[(.int .u8 0)] [0]) (.cons (.op (.convI .u8) (.cons (.op (.bin .sub) (.cons (.inp 1) (.cons (.cst (.int .i32 2097152)) .nil))) .nil)) .nil) (.eff (.app 214 214 5 1 1 (.int .u8 0)) (.cons (.inp 0) (.cons (.bv 0) .nil)) (.done [(2, (.bv 1))] none)))))) .ret) Q env w := rfl
def h159_2 : HC := (.seq (.br (.chk none (.bin .geq) (.cons (.inp 1) (.cons (.cst (.int .i32 2097152)) .nil)) (.done [] (some (.op (.bin .geq) (.cons (.inp 1) (.cons (.cst (.int .i32 2097152)) .nil)))))) h159_1 .skip) h159_0)
@[simp] theorem h159_2_wp {P : Program} {F : PF P} {Q : EX → List Value → World → Prop} {env : List Value} {w : World} : h159_2.wp F Q env w = HC.wp F (.seq (.br (.chk none (.bin .geq) (.cons (.inp 1) (.cons (.cst (.int .i32 2097152)) .nil)) (.done [] (some (.op (.bin .geq) (.cons (.inp 1) (.cons (.cst (.int .i32 2097152)) .nil)))))) h159_1 .skip) h159_0) Q env w := rfl
def l159 : Lifted := ⟨[0, 1, 4], 16, [.slot 2], (.seq (.reg (.done [(2, (.cst (.slice none 0 0)))] none)) h159_2)⟩
theorem l159_ok : liftFn F4 159 400 = some l159 := by kernel_rfl

-- bazaar/name.text
def h130_0 : HC := (.seq (.reg (.eff (.b2s 214 9) (.cons (.inp 2) .nil) (.done [(1, (.bv 0))] none))) .ret)
@[simp] theorem h130_0_wp {P : Program} {F : PF P} {Q : EX → List Value → World → Prop} {env : List Value} {w : World} : h130_0.wp F Q env w = HC.wp F (.seq (.reg (.eff (.b2s 214 9) (.cons (.inp 2) .nil) (.done [(1, (.bv 0))] none))) .ret) Q env w := rfl
def h130_1 : HC := (.reg (.chk none (.bin .add) (.cons (.inp 6) (.cons (.cst (.int .i64 1)) .nil)) (.done [(6, (.op (.bin .add) (.cons (.inp 6) (.cons (.cst (.int .i64 1)) .nil))))] none)))
@[simp] theorem h130_1_wp {P : Program} {F : PF P} {Q : EX → List Value → World → Prop} {env : List Value} {w : World} : h130_1.wp F Q env w = HC.wp F (.reg (.chk none (.bin .add) (.cons (.inp 6) (.cons (.cst (.int .i64 1)) .nil)) (.done [(6, (.op (.bin .add) (.cons (.inp 6) (.cons (.cst (.int .i64 1)) .nil))))] none))) Q env w := rfl
def h130_2 : HC := (.reg (.eff (.call 159) (.cons (.inp 2) (.cons (.inp 3) .nil)) (.done [(2, (.bv 0))] none)))
@[simp] theorem h130_2_wp {P : Program} {F : PF P} {Q : EX → List Value → World → Prop} {env : List Value} {w : World} : h130_2.wp F Q env w = HC.wp F (.reg (.eff (.call 159) (.cons (.inp 2) (.cons (.inp 3) .nil)) (.done [(2, (.bv 0))] none))) Q env w := rfl
def h130_3 : HC := (.seq (.reg (.chk none (.idxL 1) (.cons (.inp 4) (.cons (.inp 6) .nil)) (.eff (.ld false 1) (.cons (.op (.idxL 1) (.cons (.inp 4) (.cons (.inp 6) .nil))) .nil) (.done [(3, (.bv 0))] none)))) h130_2)
@[simp] theorem h130_3_wp {P : Program} {F : PF P} {Q : EX → List Value → World → Prop} {env : List Value} {w : World} : h130_3.wp F Q env w = HC.wp F (.seq (.reg (.chk none (.idxL 1) (.cons (.inp 4) (.cons (.inp 6) .nil)) (.eff (.ld false 1) (.cons (.op (.idxL 1) (.cons (.inp 4) (.cons (.inp 6) .nil))) .nil) (.done [(3, (.bv 0))] none)))) h130_2) Q env w := rfl
def h130_4 : HC := (.seq (.block 1 h130_3) h130_1)
@[simp] theorem h130_4_wp {P : Program} {F : PF P} {Q : EX → List Value → World → Prop} {env : List Value} {w : World} : h130_4.wp F Q env w = HC.wp F (.seq (.block 1 h130_3) h130_1) Q env w := rfl
def h130_5 : HC := (.seq (.br (.chk none (.bin .lss) (.cons (.inp 6) (.cons (.inp 5) .nil)) (.done [] (some (.op (.bin .lss) (.cons (.inp 6) (.cons (.inp 5) .nil)))))) .skip (.exit 0)) h130_4)
@[simp] theorem h130_5_wp {P : Program} {F : PF P} {Q : EX → List Value → World → Prop} {env : List Value} {w : World} : h130_5.wp F Q env w = HC.wp F (.seq (.br (.chk none (.bin .lss) (.cons (.inp 6) (.cons (.inp 5) .nil)) (.done [] (some (.op (.bin .lss) (.cons (.inp 6) (.cons (.inp 5) .nil)))))) .skip (.exit 0)) h130_4) Q env w := rfl
def h130_6 : HC := (.loop h130_5)
@[simp] theorem h130_6_wp {P : Program} {F : PF P} {Q : EX → List Value → World → Prop} {env : List Value} {w : World} : h130_6.wp F Q env w = HC.wp F (.loop h130_5) Q env w := rfl
def h130_7 : HC := (.seq (.block 0 h130_6) h130_0)
@[simp] theorem h130_7_wp {P : Program} {F : PF P} {Q : EX → List Value → World → Prop} {env : List Value} {w : World} : h130_7.wp F Q env w = HC.wp F (.seq (.block 0 h130_6) h130_0) Q env w := rfl
def h130_8 : HC := (.seq (.reg (.chk none .lenL (.cons (.inp 0) .nil) (.done [(4, (.inp 0)), (5, (.op .lenL (.cons (.inp 0) .nil))), (6, (.cst (.int .i64 0)))] none))) h130_7)
@[simp] theorem h130_8_wp {P : Program} {F : PF P} {Q : EX → List Value → World → Prop} {env : List Value} {w : World} : h130_8.wp F Q env w = HC.wp F (.seq (.reg (.chk none .lenL (.cons (.inp 0) .nil) (.done [(4, (.inp 0)), (5, (.op .lenL (.cons (.inp 0) .nil))), (6, (.cst (.int .i64 0)))] none))) h130_7) Q env w := rfl
def h130_9 : HC := (.seq (.reg (.done [(2, (.cst (.slice none 0 0)))] none)) h130_8)
@[simp] theorem h130_9_wp {P : Program} {F : PF P} {Q : EX → List Value → World → Prop} {env : List Value} {w : World} : h130_9.wp F Q env w = HC.wp F (.seq (.reg (.done [(2, (.cst (.slice none 0 0)))] none)) h130_8) Q env w := rfl
def l130 : Lifted := ⟨[0, 2, 3, 5, 6, 7, 8], 18, [.slot 1], (.seq (.reg (.done [(1, (.cst (.string ⟨#[]⟩)))] none)) h130_9)⟩
theorem l130_ok : liftFn F4 130 400 = some l130 := by kernel_rfl


theorem nonascii_spec (n : Nat) (bs : List UInt8) (v : Value) (w0 w : World) (A : Asn) (hl : bs.length ≤ 16777216) (hu : okU n) (h128 : 128 ≤ n) (hbad : n < 2097152) (s : St w0 (A * own 5 1 v bs.length (bytesV bs)) w) :
    CallW Tryz.prog 172 [v, .int .i32 n] (fun r w' => St w0 (A * own 5 1 r (bs.length + (encU n).length) (bytesV (bs ++ encU n))) w') w := by
  have hn : n ≤ 1114111 ∧ ¬ (55296 ≤ n ∧ n < 57344) := by unfold okU at hu; omega
  have hlen : (encU n).length = (encN n).length := by simp [encU]
  rw [bytesV_app, encV n hu, hlen]
  refine callW_of_lift l172_ok (by simp [l172]) ?_
  simp [l172]
  try simp (disch := omega) only [wrapu32]
  refine cndI (fun h1 => ?_) (fun h1 => ?_)
  · simp at h1
    have e : encN n = [192 + n / 64, 128 + n % 64] := by unfold encN; rw [if_neg (by omega), if_neg (by omega), if_pos (by omega)]
    rw [e]
    simp
    try simp (disch := omega) only [fd6, and63, wrapu8, or192, or128]
    refine eff_bsl2 s rfl rfl ?_
    intro b w1 s1
    simp
    refine eff_app (n := bs.length) (m := 2) (news := [.int .u8 (192 + n / 64), .int .u8 (128 + n % 64)]) s1.swap rfl s1.cells_look (by simp [Value.oneCell']) (by decide) rfl (by unfold maxLen; omega) (by omega) ?_
    intro v' w2 s2
    simp
    exact s2.swap.drop
  simp at h1
  simp
  refine cndI (fun h2 => ?_) (fun h2 => ?_)
  · simp at h2
    simp [h2]
    have e : encN n = [224 + n / 4096, 128 + n / 64 % 64, 128 + n % 64] := by unfold encN; rw [if_neg (by omega), if_neg (by omega), if_neg (by omega), if_pos (by omega)]
    rw [e]
    simp
    try simp (disch := omega) only [fd12, fd6, and63, wrapu8, or224, or128]
    refine eff_bsl3 s rfl rfl rfl ?_
    intro b w1 s1
    simp
    refine eff_app (n := bs.length) (m := 3) (news := [.int .u8 (224 + n / 4096), .int .u8 (128 + n / 64 % 64), .int .u8 (128 + n % 64)]) s1.swap rfl s1.cells_look (by simp [Value.oneCell']) (by decide) rfl (by unfold maxLen; omega) (by omega) ?_
    intro v' w2 s2
    simp
    exact s2.swap.drop
  simp at h2
  have h2' : ¬ (n : Int) < 55296 := by omega
  have h57 : (57343 : Int) < n := by omega
  simp [h57]
  refine cndI (fun h3 => ?_) (fun h3 => ?_)
  · simp at h3
    have e : encN n = [224 + n / 4096, 128 + n / 64 % 64, 128 + n % 64] := by unfold encN; rw [if_neg (by omega), if_neg (by omega), if_neg (by omega), if_pos (by omega)]
    rw [e]
    simp
    try simp (disch := omega) only [fd12, fd6, and63, wrapu8, or224, or128]
    refine eff_bsl3 s rfl rfl rfl ?_
    intro b w1 s1
    simp
    refine eff_app (n := bs.length) (m := 3) (news := [.int .u8 (224 + n / 4096), .int .u8 (128 + n / 64 % 64), .int .u8 (128 + n % 64)]) s1.swap rfl s1.cells_look (by simp [Value.oneCell']) (by decide) rfl (by unfold maxLen; omega) (by omega) ?_
    intro v' w2 s2
    simp
    exact s2.swap.drop
  simp at h3
  have h4 : (65535 : Int) < n := by omega
  have h5 : (n : Int) ≤ 1114111 := by omega
  have e : encN n = [240 + n / 262144, 128 + n / 4096 % 64, 128 + n / 64 % 64, 128 + n % 64] := by unfold encN; rw [if_neg (by omega), if_neg (by omega), if_neg (by omega), if_neg (by omega)]
  rw [e]
  simp [h4, h5]
  try simp (disch := omega) only [fd18, fd12, fd6, and63, wrapu8, or240, or128]
  refine eff_bsl4 s rfl rfl rfl rfl ?_
  intro b w1 s1
  simp
  refine eff_app (n := bs.length) (m := 4) (news := [.int .u8 (240 + n / 262144), .int .u8 (128 + n / 4096 % 64), .int .u8 (128 + n / 64 % 64), .int .u8 (128 + n % 64)]) s1.swap rfl s1.cells_look (by simp [Value.oneCell']) (by decide) rfl (by unfold maxLen; omega) (by omega) ?_
  intro v' w2 s2
  simp
  exact s2.swap.drop
theorem apprune_spec (n : Nat) (bs : List UInt8) (v : Value) (w0 w : World) (A : Asn) (hl : bs.length ≤ 16777216) (hu : okU n) (hbad : n < 2097152) (s : St w0 (A * own 5 1 v bs.length (bytesV bs)) w) :
    CallW Tryz.prog 170 [v, .int .i32 n] (fun r w' => St w0 (A * own 5 1 r (bs.length + (encU n).length) (bytesV (bs ++ encU n))) w') w := by
  refine callW_of_lift l170_ok (by simp [l170]) ?_
  simp [l170]
  try simp (disch := omega) only [wrapu32]
  refine cndI (fun h1 => ?_) (fun h1 => ?_)
  · simp at h1
    have e : encN n = [n] := by unfold encN; rw [if_neg (by omega), if_pos (by omega)]
    have hlen : (encU n).length = 1 := by simp [encU, e]
    rw [bytesV_app, encV n hu, hlen, e]
    simp
    try simp (disch := omega) only [wrapu8]
    refine eff_bsl1 s rfl ?_
    intro b w1 s1
    simp
    refine eff_app (n := bs.length) (m := 1) (news := [.int .u8 n]) s1.swap rfl s1.cells_look (by simp [Value.oneCell']) (by decide) rfl (by unfold maxLen; omega) (by omega) ?_
    intro v' w2 s2
    simp
    exact s2.swap.drop
  simp at h1
  simp
  refine eff_call ((nonascii_spec n bs v w0 w A hl hu (by omega) hbad s).mono ?_)
  intro r w2 s2
  simp
  exact s2
theorem put_spec (n : Nat) (bs : List UInt8) (v : Value) (w0 w : World) (A : Asn) (hl : bs.length ≤ 16777216) (hu : okU n) (s : St w0 (A * own 5 1 v bs.length (bytesV bs)) w) :
    CallW Tryz.prog 159 [v, .int .i32 n] (fun r w' => St w0 (A * own 5 1 r (bs.length + (encU n).length) (bytesV (bs ++ encU n))) w') w := by
  refine callW_of_lift l159_ok (by simp [l159]) ?_
  simp [l159]
  refine cndI (fun h1 => ?_) (fun h1 => ?_)
  · simp at h1
    have hn : n < 2097408 := by unfold okU at hu; omega
    have e : encN n = [n - 2097152] := by unfold encN; rw [if_pos (by omega)]
    have hlen : (encU n).length = 1 := by simp [encU, e]
    have hsub : ((n - 2097152 : Nat) : Int) = (n : Int) - 2097152 := by omega
    rw [bytesV_app, encV n hu, hlen, e]
    simp
    try simp (disch := omega) only [wrapu8, wrap32]
    refine eff_bsl1 s rfl ?_
    intro b w1 s1
    simp
    refine eff_app (n := bs.length) (m := 1) (news := [.int .u8 (n - 2097152)]) s1.swap rfl s1.cells_look (by simp [Value.oneCell']) (by decide) rfl (by unfold maxLen; omega) (by omega) ?_
    intro v' w2 s2
    simp
    rw [hsub]
    exact s2.swap.drop
  simp at h1
  simp
  refine eff_call ((apprune_spec n bs v w0 w A hl hu (by omega) s).mono ?_)
  intro r w2 s2
  simp
  exact s2
theorem text_spec (us : List Int) (v : Value) (w0 w : World) (A : Asn) (hl : us.length ≤ 4194304) (hok : ∀ u ∈ us, okU u) (s : St w0 (A * own 21 1 v us.length (ints32 us)) w) :
    CallW Tryz.prog 130 [v] (fun r w' => r = .string (mk (encAll us)) ∧ St w0 (A * own 21 1 v us.length (ints32 us)) w') w := by
  obtain ⟨a1, c1, rfl, hc1, hn1⟩ := s.own_val
  refine callW_of_lift l130_ok (by simp [l130]) ?_
  simp [l130]
  refine loopI (fun env w' => ∃ (i : Nat) (v x : Value), env = [.slice a1 us.length c1, .string (mk []), v, x, .slice a1 us.length c1, .int .i64 us.length, .int .i64 i] ∧ i ≤ us.length ∧
      St w0 (A * own 21 1 (.slice a1 us.length c1) us.length (ints32 us) * own 5 1 v (encAll (us.take i)).length (bytesV (encAll (us.take i)))) w')
    (fun env _ => us.length - slotN env 6) ⟨0, _, _, rfl, by omega, by simpa [encAll, bytesV] using s.own_nil 5 1⟩ ?_
  rintro LQ env w' ⟨i, v, x, rfl, hi, s'⟩ hN hE hR
  simp
  refine cndI (fun h => ?_) (fun h => ?_)
  · simp at h
    obtain ⟨g1, c1', e1, _, hcell⟩ := s'.swap.own_at (by omega)
    cases e1
    have hui := hcell i (.int .i32 us[i]) (by simp [ints32, h])
    simp
    refine ⟨h, eff_ldc hui ?_⟩
    simp
    have hub := hok us[i] (List.getElem_mem h)
    obtain ⟨m, hm⟩ := Int.eq_ofNat_of_zero_le (show 0 ≤ us[i] by unfold okU at hub; omega)
    rw [hm] at hub
    rw [hm]
    have hfl := encAll_len (us.take i)
    rw [List.length_take] at hfl
    refine eff_call ((put_spec m _ v w0 _ _ (by omega) hub s').mono ?_)
    intro r w2 s2
    simp
    try simp (disch := omega) only [wrap64]
    refine hN _ _ ⟨i + 1, r, _, by simp; rfl, h, ?_⟩ (by simp [slotN]; omega)
    rw [List.take_succ_eq_append_getElem h, encAll_snoc, hm, List.length_append]
    exact s2
  · simp at h
    simp
    refine hE _ _ _ ?_
    simp
    have : i = us.length := by omega
    subst this
    rw [List.take_length] at s'
    refine eff_b2s s' ?_
    simp
    exact s'.drop
end Go.HL.Nm

namespace Go.HL.Nm
open Go.HL Go.Proofs
set_option maxRecDepth 4000
set_option linter.unusedSimpArgs false
set_option linter.unusedVariables false
def likeL : List UInt8 := [48, 206, 191, 208, 190, 49, 206, 177, 208, 176, 209, 129, 208, 181, 209, 145, 206, 185, 206, 186, 208, 186, 207, 129, 209, 128, 207, 132, 209, 130, 207, 133, 206, 189, 207, 135, 209, 133, 206, 179, 209, 131, 32, 95]
def lookL : List UInt8 := [111, 111, 111, 108, 97, 97, 99, 101, 101, 105, 107, 107, 112, 112, 116, 116, 117, 118, 120, 120, 121, 121, 45, 45]
def tabL : List UInt8 := [97, 97, 97, 97, 97, 97, 230, 99, 101, 101, 101, 101, 105, 105, 105, 105, 240, 110, 111, 111, 111, 111, 111, 247, 111, 117, 117, 117, 117, 121, 254, 121]
def likeU : List (Int × Nat) := [(48, 1), (959, 2), (1086, 2), (49, 1), (945, 2), (1072, 2), (1089, 2), (1077, 2), (1105, 2), (953, 2), (954, 2), (1082, 2), (961, 2), (1088, 2), (964, 2), (1090, 2), (965, 2), (957, 2), (967, 2), (1093, 2), (947, 2), (1091, 2), (32, 1), (95, 1)]
end Go.HL.Nm

namespace Go.HL.Nm
open Go.HL Go.Proofs
set_option maxRecDepth 4000
set_option linter.unusedSimpArgs false
set_option linter.unusedVariables false
theorem chkF_ok (b : Int) (r : List UInt8) (v : Int) (n : Nat) (least : Int) (hb : 0 ≤ b ∧ b < 256) (hv : 0 ≤ v) : okU (chkF b r v n least).1 := by
  unfold chkF okU
  split
  · rename_i u hu
    have := tailF_bd n r v u hv hu
    split
    · simp only; omega
    · simp only; omega
  · simp only; omega
theorem oneF_okU {l : List UInt8} (h : l ≠ []) : okU (oneF l).1 := by
  cases l with
  | nil => exact absurd rfl h
  | cons c r =>
    have hc := c.toNat_lt
    rw [oneF_cons]
    split
    · unfold okU; simp only; omega
    split
    · exact chkF_ok c.toNat r (c.toNat - 192) 1 128 (by omega) (by omega)
    split
    · exact chkF_ok c.toNat r (c.toNat - 224) 2 2048 (by omega) (by omega)
    split
    · exact chkF_ok c.toNat r (c.toNat - 240) 3 65536 (by omega) (by omega)
    · unfold okU; simp only; omega
theorem okU_foldF {u : Int} (h : okU u) : okU (foldF u) := by unfold okU at h ⊢; unfold foldF; repeat' split
                                                              all_goals omega
/-- two that look like one -/
def pairF : List Int → List Int
  | 114 :: 110 :: r => 109 :: pairF r
  | 118 :: 118 :: r => 119 :: pairF r
  | u :: r => u :: pairF r
  | [] => []
def lookF (l : List UInt8) : List Int := pairF ((foldedF l).map looksF)
theorem units_ok : ∀ (n : Nat) (l : List UInt8), l.length ≤ n → ∀ u ∈ units l, okU u.1
  | 0, l, h => by
    have : l = [] := List.eq_nil_of_length_eq_zero (by omega)
    subst this
    simp [units_nil]
  | n + 1, l, h => by
    by_cases he : l = []
    · subst he; simp [units_nil]
    · have hb := oneF_bd he
      rw [units_cons he]
      intro u hu
      rcases List.mem_cons.1 hu with rfl | hu
      · exact oneF_okU he
      · exact units_ok n _ (by simp; omega) u hu
theorem folded_ok (l : List UInt8) : ∀ u ∈ foldedF l, okU u := by
  intro u hu
  simp only [foldedF, foldAll, List.mem_flatMap] at hu
  obtain ⟨x, hx, hu⟩ := hu
  have hk := units_ok _ l (Nat.le_refl _) x hx
  unfold foldU at hu
  split at hu
  · have : u = 115 := by simpa using hu
    subst this
    exact .inl (by omega)
  · have : u = foldF x.1 := by simpa using hu
    subst this
    exact okU_foldF hk
theorem folded_len (l : List UInt8) : (foldedF l).length ≤ 2 * l.length := by
  have h1 := foldAll_len (units l)
  have h2 := units_len l
  unfold foldedF
  omega
-- bazaar/bazaarref04.Fold
-- bazaar/name.Fold
def h104_0 : HC := (.seq (.reg (.eff (.call 131) (.cons (.inp 0) .nil) (.eff (.call 130) (.cons (.bv 0) .nil) (.done [(1, (.bv 1))] none)))) .ret)
@[simp] theorem h104_0_wp {P : Program} {F : PF P} {Q : EX → List Value → World → Prop} {env : List Value} {w : World} : h104_0.wp F Q env w = HC.wp F (.seq (.reg (.eff (.call 131) (.cons (.inp 0) .nil) (.eff (.call 130) (.cons (.bv 0) .nil) (.done [(1, (.bv 1))] none)))) .ret) Q env w := rfl
def l104 : Lifted := ⟨[0, 2], 6, [.slot 1], (.seq (.reg (.done [(1, (.cst (.string ⟨#[]⟩)))] none)) h104_0)⟩
theorem l104_ok : liftFn F4 104 400 = some l104 := by kernel_rfl


theorem Fold_spec (l : List UInt8) (w0 w : World) (A : Asn) (hl : l.length ≤ 1048576) (s : St w0 A w) :
    CallW Tryz.prog 104 [.string (mk l)] (fun r w' => r = .string (mk (encAll (foldedF l))) ∧ St w0 A w') w := by
  have hfl := folded_len l
  refine callW_of_lift l104_ok (by simp [l104]) ?_
  simp [l104]
  refine eff_call ((folded_spec l w0 w A hl s).mono ?_)
  intro v w1 s1
  simp
  refine eff_call ((text_spec _ v w0 w1 A (by omega) (folded_ok l) s1).mono ?_)
  rintro r w2 ⟨rfl, s2⟩
  simp
  exact s2.drop
end Go.HL.Nm

namespace Go.HL.Nm
open Go.HL Go.Proofs
set_option maxRecDepth 4000
set_option linter.unusedSimpArgs false
set_option linter.unusedVariables false
/-- the first i turned -/
def half (f : Int → Int) : Nat → List Int → List Int
  | _, [] => []
  | 0, a :: l => a :: l
  | i + 1, a :: l => f a :: half f i l
theorem ints_at {l : List Int} {i : Nat} {x : Int} (h : l[i]? = some x) : (ints l)[i]? = some (.int .i64 x) := by simp [ints, h]
end Go.HL.Nm

namespace Go.HL.Nm
open Go.HL Go.Proofs
set_option maxRecDepth 4000
set_option linter.unusedSimpArgs false
set_option linter.unusedVariables false
/-- a slice of numbers, as_ it is seen while A holds -/
def View (w0 : World) (A : Asn) (k : IntKind) (v : Value) (xs : List Int) : Prop :=
  ∃ a cap, v = .slice a xs.length cap ∧ xs.length ≤ cap ∧ (0 < xs.length → ∃ g o, a = some ⟨g, o, none⟩ ∧ ∀ w, St w0 A w → ∀ j u, xs[j]? = some u → w.cell? ⟨g, o + j, none⟩ = some (.int k u))
theorem View.mono {w0 : World} {A B : Asn} {k : IntKind} {v : Value} {xs : List Int} (h : View w0 A k v xs) (hs : ∀ w, St w0 B w → St w0 A w) : View w0 B k v xs := by
  obtain ⟨a, cap, hv, hc, h⟩ := h
  refine ⟨a, cap, hv, hc, fun h0 => ?_⟩
  obtain ⟨g, o, ha, h⟩ := h h0
  exact ⟨g, o, ha, fun w s => h w (hs w s)⟩
end Go.HL.Nm

namespace Go.HL.Nm
open Go.HL Go.Proofs
set_option maxRecDepth 4000
set_option linter.unusedSimpArgs false
set_option linter.unusedVariables false
/-- may this unit not stand here? (j: a joiner may not) -/
def badAt (j : Bool) (u : Int) : Bool := !letterF u && (j || !joinerF u)
/-- the first place at fault; the last unit may be no joiner -/
def faultF : Bool → Nat → List (Int × Nat) → Option Nat
  | _, _, [] => none
  | j, p, u :: r => if badAt (j || r.isEmpty) u.1 then some p else faultF (joinerF u.1) (p + u.2) r
/-- the same, but for the last unit -/
def faultP : Bool → Nat → List (Int × Nat) → Option Nat
  | _, _, [] => none
  | j, p, u :: r => if badAt j u.1 then some p else faultP (joinerF u.1) (p + u.2) r
def lastJ : Bool → List (Int × Nat) → Bool
  | j, [] => j
  | _, u :: r => lastJ (joinerF u.1) r
def lastP : Nat → Nat → List (Int × Nat) → Nat
  | d, _, [] => d
  | _, p, u :: r => lastP p (p + u.2) r
theorem joiner_letter {u : Int} (h : joinerF u = true) : letterF u = false := by
  simp only [joinerF, Bool.or_eq_true, decide_eq_true_eq] at h
  rcases h with (h | h) | h <;> subst h <;> decide
theorem fault_eq : ∀ (r : List (Int × Nat)) (j : Bool) (p d : Nat), r ≠ [] → faultF j p r = (match faultP j p r with | some q => some q | none => if lastJ j r then some (lastP d p r) else none)
  | [], _, _, _, h => absurd rfl h
  | [u], j, p, d, _ => by
    cases hj : joinerF u.1 <;> cases hl : letterF u.1 <;> cases j <;> (first | (simp [faultF, faultP, lastJ, lastP, badAt, hj, hl]; done) | (have := joiner_letter hj; rw [hl] at this; cases this))
  | u :: v :: r, j, p, d, _ => by
    have ih := fault_eq (v :: r) (joinerF u.1) (p + u.2) p (by simp)
    rw [faultF, faultP]
    simp only [List.isEmpty_cons, Bool.or_false]
    cases badAt j u.1
    · simp only [Bool.false_eq_true, if_false]; rw [ih]; rfl
    · rfl
theorem faultP_snoc : ∀ (r : List (Int × Nat)) (u : Int × Nat) (j : Bool) (p : Nat), faultP j p (r ++ [u]) = (match faultP j p r with | some q => some q | none => if badAt (lastJ j r) u.1 then some (p + sumW r) else none)
  | [], u, j, p => by cases h : badAt j u.1 <;> simp [faultP, lastJ, sumW, h]
  | v :: r, u, j, p => by
    have ih := faultP_snoc r u (joinerF v.1) (p + v.2)
    cases h : badAt j v.1
    · simp only [List.cons_append, faultP, lastJ, sumW, h, Bool.false_eq_true, if_false]
      rw [ih, Nat.add_assoc]
      rfl
    · simp [faultP, h]
theorem lastJ_snoc : ∀ (r : List (Int × Nat)) (u : Int × Nat) (j : Bool), lastJ j (r ++ [u]) = joinerF u.1
  | [], u, j => rfl
  | v :: r, u, j => by simp only [List.cons_append, lastJ]; exact lastJ_snoc r u _
theorem lastP_snoc : ∀ (r : List (Int × Nat)) (u : Int × Nat) (d p : Nat), lastP d p (r ++ [u]) = p + sumW r
  | [], u, d, p => by simp [lastP, sumW]
  | v :: r, u, d, p => by simp only [List.cons_append, lastP, sumW]; rw [lastP_snoc r u]; omega
def optI : Option Nat → Int
  | some q => q
  | none => -1
/-- the answer: a place, an error's number -/
def checkF (l : List UInt8) : Int × Int :=
  if l = [] then (0, 41)
  else if 24 < (units l).length then (sumW ((units l).take 24), 42)
  else match faultF true 0 (units l) with
    | some p => (p, 40)
    | none => (0, 0)
-- bazaar/name.Check
def h75_0 : HC := (.seq (.reg (.done [(1, (.cst (.int .i64 0))), (2, (.cst (.int .i64 0)))] none)) .ret)
@[simp] theorem h75_0_wp {P : Program} {F : PF P} {Q : EX → List Value → World → Prop} {env : List Value} {w : World} : h75_0.wp F Q env w = HC.wp F (.seq (.reg (.done [(1, (.cst (.int .i64 0))), (2, (.cst (.int .i64 0)))] none)) .ret) Q env w := rfl
def h75_1 : HC := (.seq (.reg (.done [(1, (.inp 4)), (2, (.cst (.int .i64 40)))] none)) .ret)
@[simp] theorem h75_1_wp {P : Program} {F : PF P} {Q : EX → List Value → World → Prop} {env : List Value} {w : World} : h75_1.wp F Q env w = HC.wp F (.seq (.reg (.done [(1, (.inp 4)), (2, (.cst (.int .i64 40)))] none)) .ret) Q env w := rfl
def h75_2 : HC := (.seq (.br (.chk none (.bin .geq) (.cons (.inp 4) (.cons (.cst (.int .i64 0)) .nil)) (.done [] (some (.op (.bin .geq) (.cons (.inp 4) (.cons (.cst (.int .i64 0)) .nil)))))) h75_1 .skip) h75_0)
@[simp] theorem h75_2_wp {P : Program} {F : PF P} {Q : EX → List Value → World → Prop} {env : List Value} {w : World} : h75_2.wp F Q env w = HC.wp F (.seq (.br (.chk none (.bin .geq) (.cons (.inp 4) (.cons (.cst (.int .i64 0)) .nil)) (.done [] (some (.op (.bin .geq) (.cons (.inp 4) (.cons (.cst (.int .i64 0)) .nil)))))) h75_1 .skip) h75_0) Q env w := rfl
def h75_3 : HC := (.reg (.done [(4, (.inp 5))] none))
@[simp] theorem h75_3_wp {P : Program} {F : PF P} {Q : EX → List Value → World → Prop} {env : List Value} {w : World} : h75_3.wp F Q env w = HC.wp F (.reg (.done [(4, (.inp 5))] none)) Q env w := rfl
def h75_4 : HC := (.seq (.br (.chk none (.bin .lss) (.cons (.inp 4) (.cons (.cst (.int .i64 0)) .nil)) (.bnd (.op (.bin .lss) (.cons (.inp 4) (.cons (.cst (.int .i64 0)) .nil))) (.isb none (.bv 0) (.done [] (some (.ite (.bv 0) true (.inp 6) (.cst (.bool false)))))))) h75_3 .skip) h75_2)
@[simp] theorem h75_4_wp {P : Program} {F : PF P} {Q : EX → List Value → World → Prop} {env : List Value} {w : World} : h75_4.wp F Q env w = HC.wp F (.seq (.br (.chk none (.bin .lss) (.cons (.inp 4) (.cons (.cst (.int .i64 0)) .nil)) (.bnd (.op (.bin .lss) (.cons (.inp 4) (.cons (.cst (.int .i64 0)) .nil))) (.isb none (.bv 0) (.done [] (some (.ite (.bv 0) true (.inp 6) (.cst (.bool false)))))))) h75_3 .skip) h75_2) Q env w := rfl
def h75_5 : HC := (.reg (.done [(5, (.inp 7))] none))
@[simp] theorem h75_5_wp {P : Program} {F : PF P} {Q : EX → List Value → World → Prop} {env : List Value} {w : World} : h75_5.wp F Q env w = HC.wp F (.reg (.done [(5, (.inp 7))] none)) Q env w := rfl
def h75_6 : HC := (.seq (.reg (.chk none (.cal 103) (.cons (.inp 9) .nil) (.done [(6, (.op (.cal 103) (.cons (.inp 9) .nil)))] none))) h75_5)
@[simp] theorem h75_6_wp {P : Program} {F : PF P} {Q : EX → List Value → World → Prop} {env : List Value} {w : World} : h75_6.wp F Q env w = HC.wp F (.seq (.reg (.chk none (.cal 103) (.cons (.inp 9) .nil) (.done [(6, (.op (.cal 103) (.cons (.inp 9) .nil)))] none))) h75_5) Q env w := rfl
def h75_7 : HC := (.reg (.done [(4, (.inp 7))] none))
@[simp] theorem h75_7_wp {P : Program} {F : PF P} {Q : EX → List Value → World → Prop} {env : List Value} {w : World} : h75_7.wp F Q env w = HC.wp F (.reg (.done [(4, (.inp 7))] none)) Q env w := rfl
def h75_8 : HC := (.seq (.br (.chk none (.bin .lss) (.cons (.inp 4) (.cons (.cst (.int .i64 0)) .nil)) (.bnd (.op (.bin .lss) (.cons (.inp 4) (.cons (.cst (.int .i64 0)) .nil))) (.chk (some ((.bv 0), true)) (.cal 102) (.cons (.inp 9) .nil) (.chk (some ((.bv 0), true)) (.un .not) (.cons (.op (.cal 102) (.cons (.inp 9) .nil)) .nil) (.isb none (.bv 0) (.bnd (.ite (.bv 0) true (.op (.un .not) (.cons (.op (.cal 102) (.cons (.inp 9) .nil)) .nil)) (.cst (.bool false))) (.bnd (.ite (.bv 1) true (.inp 6) (.cst (.tuple #[]))) (.chk (some ((.bv 2), false)) (.cal 103) (.cons (.inp 9) .nil) (.chk (some ((.bv 2), false)) (.un .not) (.cons (.op (.cal 103) (.cons (.inp 9) .nil)) .nil) (.isb (some ((.bv 1), true)) (.bv 2) (.isb none (.bv 1) (.done [] (some (.ite (.bv 1) true (.ite (.bv 2) true (.cst (.bool true)) (.op (.un .not) (.cons (.op (.cal 103) (.cons (.inp 9) .nil)) .nil))) (.cst (.bool false)))))))))))))))) h75_7 .skip) h75_6)
@[simp] theorem h75_8_wp {P : Program} {F : PF P} {Q : EX → List Value → World → Prop} {env : List Value} {w : World} : h75_8.wp F Q env w = HC.wp F (.seq (.br (.chk none (.bin .lss) (.cons (.inp 4) (.cons (.cst (.int .i64 0)) .nil)) (.bnd (.op (.bin .lss) (.cons (.inp 4) (.cons (.cst (.int .i64 0)) .nil))) (.chk (some ((.bv 0), true)) (.cal 102) (.cons (.inp 9) .nil) (.chk (some ((.bv 0), true)) (.un .not) (.cons (.op (.cal 102) (.cons (.inp 9) .nil)) .nil) (.isb none (.bv 0) (.bnd (.ite (.bv 0) true (.op (.un .not) (.cons (.op (.cal 102) (.cons (.inp 9) .nil)) .nil)) (.cst (.bool false))) (.bnd (.ite (.bv 1) true (.inp 6) (.cst (.tuple #[]))) (.chk (some ((.bv 2), false)) (.cal 103) (.cons (.inp 9) .nil) (.chk (some ((.bv 2), false)) (.un .not) (.cons (.op (.cal 103) (.cons (.inp 9) .nil)) .nil) (.isb (some ((.bv 1), true)) (.bv 2) (.isb none (.bv 1) (.done [] (some (.ite (.bv 1) true (.ite (.bv 2) true (.cst (.bool true)) (.op (.un .not) (.cons (.op (.cal 103) (.cons (.inp 9) .nil)) .nil))) (.cst (.bool false)))))))))))))))) h75_7 .skip) h75_6) Q env w := rfl
def h75_9 : HC := (.seq (.reg (.chk none (.cal 101) (.cons (.inp 0) (.cons (.inp 7) (.cons (.inp 8) .nil))) (.done [(9, (.op (.cal 101) (.cons (.inp 0) (.cons (.inp 7) (.cons (.inp 8) .nil)))))] none))) h75_8)
@[simp] theorem h75_9_wp {P : Program} {F : PF P} {Q : EX → List Value → World → Prop} {env : List Value} {w : World} : h75_9.wp F Q env w = HC.wp F (.seq (.reg (.chk none (.cal 101) (.cons (.inp 0) (.cons (.inp 7) (.cons (.inp 8) .nil))) (.done [(9, (.op (.cal 101) (.cons (.inp 0) (.cons (.inp 7) (.cons (.inp 8) .nil)))))] none))) h75_8) Q env w := rfl
def h75_10 : HC := (.seq (.reg (.chk none (.bin .add) (.cons (.inp 3) (.cons (.cst (.int .i64 1)) .nil)) (.done [(3, (.op (.bin .add) (.cons (.inp 3) (.cons (.cst (.int .i64 1)) .nil))))] none))) h75_9)
@[simp] theorem h75_10_wp {P : Program} {F : PF P} {Q : EX → List Value → World → Prop} {env : List Value} {w : World} : h75_10.wp F Q env w = HC.wp F (.seq (.reg (.chk none (.bin .add) (.cons (.inp 3) (.cons (.cst (.int .i64 1)) .nil)) (.done [(3, (.op (.bin .add) (.cons (.inp 3) (.cons (.cst (.int .i64 1)) .nil))))] none))) h75_9) Q env w := rfl
def h75_11 : HC := (.seq (.reg (.done [(1, (.inp 7)), (2, (.cst (.int .i64 42)))] none)) .ret)
@[simp] theorem h75_11_wp {P : Program} {F : PF P} {Q : EX → List Value → World → Prop} {env : List Value} {w : World} : h75_11.wp F Q env w = HC.wp F (.seq (.reg (.done [(1, (.inp 7)), (2, (.cst (.int .i64 42)))] none)) .ret) Q env w := rfl
def h75_12 : HC := (.seq (.br (.chk none (.bin .eql) (.cons (.inp 3) (.cons (.cst (.int .i64 24)) .nil)) (.done [] (some (.op (.bin .eql) (.cons (.inp 3) (.cons (.cst (.int .i64 24)) .nil)))))) h75_11 .skip) h75_10)
@[simp] theorem h75_12_wp {P : Program} {F : PF P} {Q : EX → List Value → World → Prop} {env : List Value} {w : World} : h75_12.wp F Q env w = HC.wp F (.seq (.br (.chk none (.bin .eql) (.cons (.inp 3) (.cons (.cst (.int .i64 24)) .nil)) (.done [] (some (.op (.bin .eql) (.cons (.inp 3) (.cons (.cst (.int .i64 24)) .nil)))))) h75_11 .skip) h75_10) Q env w := rfl
def h75_13 : HC := (.seq (.reg (.chk none (.ext 1) (.cons (.inp 11) .nil) (.chk none (.ext 2) (.cons (.inp 11) .nil) (.done [(7, (.op (.ext 1) (.cons (.inp 11) .nil))), (8, (.op (.ext 2) (.cons (.inp 11) .nil)))] none)))) h75_12)
@[simp] theorem h75_13_wp {P : Program} {F : PF P} {Q : EX → List Value → World → Prop} {env : List Value} {w : World} : h75_13.wp F Q env w = HC.wp F (.seq (.reg (.chk none (.ext 1) (.cons (.inp 11) .nil) (.chk none (.ext 2) (.cons (.inp 11) .nil) (.done [(7, (.op (.ext 1) (.cons (.inp 11) .nil))), (8, (.op (.ext 2) (.cons (.inp 11) .nil)))] none)))) h75_12) Q env w := rfl
def h75_14 : HC := (.block 1 h75_13)
@[simp] theorem h75_14_wp {P : Program} {F : PF P} {Q : EX → List Value → World → Prop} {env : List Value} {w : World} : h75_14.wp F Q env w = HC.wp F (.block 1 h75_13) Q env w := rfl
def h75_15 : HC := (.seq (.br (.eff (.nxt true 0) (.cons (.inp 10) .nil) (.chk none (.ext 0) (.cons (.bv 0) .nil) (.done [(11, (.bv 0))] (some (.op (.ext 0) (.cons (.bv 0) .nil)))))) .skip (.exit 0)) h75_14)
@[simp] theorem h75_15_wp {P : Program} {F : PF P} {Q : EX → List Value → World → Prop} {env : List Value} {w : World} : h75_15.wp F Q env w = HC.wp F (.seq (.br (.eff (.nxt true 0) (.cons (.inp 10) .nil) (.chk none (.ext 0) (.cons (.bv 0) .nil) (.done [(11, (.bv 0))] (some (.op (.ext 0) (.cons (.bv 0) .nil)))))) .skip (.exit 0)) h75_14) Q env w := rfl
def h75_16 : HC := (.loop h75_15)
@[simp] theorem h75_16_wp {P : Program} {F : PF P} {Q : EX → List Value → World → Prop} {env : List Value} {w : World} : h75_16.wp F Q env w = HC.wp F (.loop h75_15) Q env w := rfl
def h75_17 : HC := (.seq (.block 0 h75_16) h75_4)
@[simp] theorem h75_17_wp {P : Program} {F : PF P} {Q : EX → List Value → World → Prop} {env : List Value} {w : World} : h75_17.wp F Q env w = HC.wp F (.seq (.block 0 h75_16) h75_4) Q env w := rfl
def h75_18 : HC := (.seq (.reg (.eff (.rngS 9) (.cons (.inp 0) .nil) (.done [(10, (.bv 0))] none))) h75_17)
@[simp] theorem h75_18_wp {P : Program} {F : PF P} {Q : EX → List Value → World → Prop} {env : List Value} {w : World} : h75_18.wp F Q env w = HC.wp F (.seq (.reg (.eff (.rngS 9) (.cons (.inp 0) .nil) (.done [(10, (.bv 0))] none))) h75_17) Q env w := rfl
def h75_19 : HC := (.seq (.reg (.done [(6, (.cst (.bool true)))] none)) h75_18)
@[simp] theorem h75_19_wp {P : Program} {F : PF P} {Q : EX → List Value → World → Prop} {env : List Value} {w : World} : h75_19.wp F Q env w = HC.wp F (.seq (.reg (.done [(6, (.cst (.bool true)))] none)) h75_18) Q env w := rfl
def h75_20 : HC := (.seq (.reg (.done [(3, (.cst (.int .i64 0))), (4, (.cst (.int .i64 (-1)))), (5, (.cst (.int .i64 0)))] none)) h75_19)
@[simp] theorem h75_20_wp {P : Program} {F : PF P} {Q : EX → List Value → World → Prop} {env : List Value} {w : World} : h75_20.wp F Q env w = HC.wp F (.seq (.reg (.done [(3, (.cst (.int .i64 0))), (4, (.cst (.int .i64 (-1)))), (5, (.cst (.int .i64 0)))] none)) h75_19) Q env w := rfl
def h75_21 : HC := (.seq (.reg (.done [(1, (.cst (.int .i64 0))), (2, (.cst (.int .i64 41)))] none)) .ret)
@[simp] theorem h75_21_wp {P : Program} {F : PF P} {Q : EX → List Value → World → Prop} {env : List Value} {w : World} : h75_21.wp F Q env w = HC.wp F (.seq (.reg (.done [(1, (.cst (.int .i64 0))), (2, (.cst (.int .i64 41)))] none)) .ret) Q env w := rfl
def h75_22 : HC := (.seq (.br (.chk none (.bin .eql) (.cons (.inp 0) (.cons (.cst (.string ⟨#[]⟩)) .nil)) (.done [] (some (.op (.bin .eql) (.cons (.inp 0) (.cons (.cst (.string ⟨#[]⟩)) .nil)))))) h75_21 .skip) h75_20)
@[simp] theorem h75_22_wp {P : Program} {F : PF P} {Q : EX → List Value → World → Prop} {env : List Value} {w : World} : h75_22.wp F Q env w = HC.wp F (.seq (.br (.chk none (.bin .eql) (.cons (.inp 0) (.cons (.cst (.string ⟨#[]⟩)) .nil)) (.done [] (some (.op (.bin .eql) (.cons (.inp 0) (.cons (.cst (.string ⟨#[]⟩)) .nil)))))) h75_21 .skip) h75_20) Q env w := rfl
def l75 : Lifted := ⟨[0, 2, 3, 4, 5, 6, 7, 8, 9, 10, 14, 15], 56, [.slot 1, .slot 2], (.seq (.reg (.done [(1, (.cst (.int .i64 0))), (2, (.cst (.int .i64 0)))] none)) h75_22)⟩
theorem l75_ok : liftFn F4 75 400 = some l75 := by kernel_rfl

-- bazaar/bazaarref04.Check
theorem check_spec (l : List UInt8) (w0 w : World) (A : Asn) (hl : l.length ≤ 1048576) (s : St w0 A w) :
    CallW Tryz.prog 75 [.string (mk l)] (fun r w' => r = .tuple #[.int .i64 (checkF l).1, .int .i64 (checkF l).2] ∧ St w0 A w') w := by
  refine callW_of_lift l75_ok (by simp [l75]) ?_
  simp [l75]
  refine cndI (fun h => ?_) (fun h => ?_)
  · simp at h
    subst h
    simp [checkF]
    exact s
  simp at h
  simp
  refine eff_rngS s ?_
  intro b w1 s1
  simp
  refine loopI (fun env w' => ∃ (i : Nat) (done : List (Int × Nat)) (x y z t : Value), env = [.string (mk l), .int .i64 0, .int .i64 0, .int .i64 done.length, .int .i64 (optI (faultP true 0 done)), .int .i64 (lastP 0 0 done), .bool (lastJ true done), x, y, z, .pointer (some ⟨b, 0, none⟩), t] ∧
      i ≤ l.length ∧ units l = done ++ units (l.drop i) ∧ i = sumW done ∧ done.length ≤ 24 ∧ St w0 (A * pt b (.stringIter (mk l) i)) w')
    (fun env _ => 25 - slotN env 3) ⟨0, [], _, _, _, _, by simp [optI, faultP, lastP, lastJ]; exact ⟨rfl, rfl, rfl, rfl⟩, by omega, by simp, rfl, by simp, s1⟩ ?_
  rintro LQ env w' ⟨i, done, x, y, z, t, rfl, hi, hu, hsum, hd24, s'⟩ hN hE hR
  simp
  refine eff_nxtS s' (fun h w2 s2 => ?_) (fun h => ?_)
  · simp at h
    have hle := oneF_le (l := l) (i := i) h
    have hob := oneF_bd (l := l.drop i) (by simp; omega)
    rw [decode_decL, decL_oneF _ (by simp; omega)] at s2
    have hstep := units_step hu h
    rw [decode_decL, decL_oneF _ (by simp; omega)]
    simp
    refine cndI (fun h2 => ?_) (fun h2 => ?_)
    · simp at h2
      simp
      refine hR _ _ ?_
      simp
      refine ⟨?_, s2.drop⟩
      have hlen : 24 < (units l).length := by rw [hstep]; simp; omega
      unfold checkF
      rw [if_neg (by assumption), if_pos hlen, hu, show (24 : Nat) = done.length by omega, List.take_left, ← hsum]
      simp
    · simp at h2
      simp
      try simp (disch := omega) only [wrap64]
      refine ⟨⟨hl, h⟩, ?_⟩
      have hsn := faultP_snoc done (oneF (l.drop i)) true 0
      -- how the round ends
      have fin : ∀ fv : Int, fv = optI (faultP true 0 (done ++ [oneF (l.drop i)])) → LQ .nrm [.string (mk l), .int .i64 0, .int .i64 0, .int .i64 (done.length + 1), .int .i64 fv, .int .i64 i, .bool (joinerF (oneF (l.drop i)).1), .int .i64 i, .int .i32 (runeOf (oneF (l.drop i)).1), .int .i32 (oneF (l.drop i)).1, .pointer (some ⟨b, 0, none⟩), .tuple #[.bool true, .int .i64 i, .int .i32 (runeOf (oneF (l.drop i)).1)]] w2 := by
        intro fv hfv
        refine hN _ _ ⟨i + (oneF (l.drop i)).2, done ++ [oneF (l.drop i)], .int .i64 i, .int .i32 (runeOf (oneF (l.drop i)).1), .int .i32 (oneF (l.drop i)).1, .tuple #[.bool true, .int .i64 i, .int .i32 (runeOf (oneF (l.drop i)).1)], ?_, hle.1, hstep, by simp [sumW_append, sumW, hsum], by simp; omega, s2⟩ (by simp [slotN]; omega)
        rw [hfv, lastP_snoc, lastJ_snoc, Nat.zero_add, ← hsum]
        simp
      cases hf : faultP true 0 done with
      | some q =>
        have e0 : optI (some q) = (q : Int) := rfl
        rw [hf] at hsn
        have e1 : ¬ ((q : Int) < 0) := by omega
        rw [e0]
        simp [e1]
        exact fin _ (by rw [hsn]; rfl)
      | none =>
        have e0 : optI none = -1 := rfl
        rw [hf] at hsn
        simp only at hsn
        rw [e0]
        cases hlt : letterF (oneF (l.drop i)).1
        · simp
          refine cndI (fun h3 => ?_) (fun h3 => ?_)
          · simp
            refine fin _ ?_
            rw [hsn, badAt, hlt, h3]
            simp [optI, hsum]
          · simp
            refine fin _ ?_
            rw [hsn, badAt, hlt, h3]
            rfl
        · simp
          refine fin _ ?_
          rw [hsn, badAt, hlt]
          rfl
  · simp at h
    simp
    refine hE _ _ _ ?_
    simp
    have : i = l.length := by omega
    subst this
    rw [List.drop_length, units_nil, List.append_nil] at hu
    have hne : units l ≠ [] := by intro e; have := sumW_units l; rw [e] at this; simp [sumW] at this; exact absurd (List.eq_nil_of_length_eq_zero this.symm) (by assumption)
    have hck : checkF l = (match faultF true 0 (units l) with | some p => ((p : Int), 40) | none => (0, 0)) := by
      unfold checkF
      rw [if_neg (by assumption), if_neg (by rw [hu]; omega)]
    rw [fault_eq _ _ _ 0 hne, hu] at hck
    cases hf : faultP true 0 done with
    | some q =>
      rw [hf] at hck
      simp only at hck
      have e0 : optI (some q) = (q : Int) := rfl
      rw [e0, hck]
      have e1 : decide ((q : Int) < 0) = false := by simp
      simp [e1]
      exact s'.drop
    | none =>
      rw [hf] at hck
      simp only at hck
      have e0 : optI none = -1 := rfl
      rw [e0, hck]
      cases hj : lastJ true done
      · simp
        exact s'.drop
      · simp
        exact s'.drop

end Go.HL.Nm

namespace Go.HL
set_option maxRecDepth 4000
set_option linter.unusedSimpArgs false
set_option linter.unusedVariables false
section
variable {P : Program} {F0 : PF P} {F : Asn} {K : Value → World → Prop} {w w0 : World}
def entF : List (List UInt8) → Nat → List MapEntry
  | [], _ => []
  | x :: r, i => ⟨.string (mk x), .int .i64 (i : Int), i⟩ :: entF r (i + 1)
def mapE (ks : List (List UInt8)) : Array MapEntry := (entF ks 0).toArray
def lookK (k : List UInt8) : List (List UInt8) → Nat → Option Nat
  | [], _ => none
  | x :: r, i => if k = x then some i else lookK k r (i + 1)
theorem entF_snoc (k : List UInt8) : ∀ (ks : List (List UInt8)) (i : Nat), entF (ks ++ [k]) i = entF ks i ++ [⟨.string (mk k), .int .i64 ((i + ks.length : Nat) : Int), i + ks.length⟩]
  | [], i => by simp [entF]
  | x :: r, i => by
    simp only [List.cons_append, entF, entF_snoc k r (i + 1), List.length_cons]
    have : i + 1 + r.length = i + (r.length + 1) := by omega
    rw [this]
theorem mapE_snoc (k : List UInt8) (ks : List (List UInt8)) : (mapE ks).push ⟨.string (mk k), .int .i64 (ks.length : Int), ks.length⟩ = mapE (ks ++ [k]) := by
  apply Array.ext'
  simp [mapE, entF_snoc]
theorem mk_inj {a b : List UInt8} (h : mk a = mk b) : a = b := by
  have h2 : (mk a).data.toList = (mk b).data.toList := by rw [h]
  exact h2
theorem mk_eq_iff (a b : List UInt8) : (mk a == mk b) = decide (a = b) := by
  rw [Bool.eq_iff_iff, MapKept.bytes_beq]
  exact ⟨fun h => decide_eq_true (mk_inj h), fun h => by rw [of_decide_eq_true h]⟩
theorem find_keys (k : List UInt8) : ∀ (ks : List (List UInt8)) (i j : Nat), Instr.findNow .string (.string (mk k)) (entF ks j) i = some ((lookK k ks j).map fun n => (i + (n - j), .int .i64 (n : Int)))
  | [], _, _ => rfl
  | x :: r, i, j => by
    simp only [entF, Instr.findNow, Instr.sameNow, mk_eq_iff, lookK]
    by_cases h : k = x
    · simp [h]
    · simp only [h, decide_false, if_false]
      rw [find_keys k r (i + 1) (j + 1)]
      cases hl : lookK k r (j + 1) with
      | none => rfl
      | some n =>
        have : j + 1 ≤ n := by
          have key : ∀ (l : List (List UInt8)) (j n : Nat), lookK k l j = some n → j ≤ n := by
            intro l
            induction l with
            | nil => intro j n h; cases h
            | cons y t ih =>
              intro j n h
              simp only [lookK] at h
              split at h
              · cases h; exact Nat.le_refl _
              · have := ih _ _ h; omega
          exact key r _ _ hl
        simp only [Option.map_some, Option.some.injEq, Prod.mk.injEq, and_true]
        omega
/-- a new map -/
theorem eff_mkm {t : TypeId} (s : St w0 F w) (hk : ∀ b w', St w0 (F * pt b (.map (mapE []) 0)) w' → K (.map (some b)) w') : EffW P (.mkm t false) [] K w := by
  intro _
  refine upon_val (s := Instr.makeMap t none) (v := .map (some w.heap.size)) (w' := w.alloc (.map (mapE []) 0)) ?_ (hk _ _ (s.alloc trivial))
  simp [Instr.makeMap, newObj, Sem.run, mapE, entF, Sem.bind]
/-- what a map with texts for keys answers -/
def askN (k : List UInt8) (ks : List (List UInt8)) : Int := ((lookK k ks 0).getD 0 : Nat)
def askB (k : List UInt8) (ks : List (List UInt8)) : Bool := (lookK k ks 0).isSome
abbrev askK (k : List UInt8) (ks : List (List UInt8)) : Value := .tuple #[.int .i64 (askN k ks), .bool (askB k ks)]
structure MapT (P : Program) (t kt ke : TypeId) : Prop where
  ty : P.underlying t = some (.map kt ke)
  key : P.underlying kt = some .string
  zero : (P.info? ke).bind (·.zero) = some (.int .i64 0)
theorem look_run {t kt ke : TypeId} (T : MapT P t kt ke) {m : Nat} {ks : List (List UInt8)} {c : Nat} (hb : w.heap[m]? = some (.map (mapE ks) c)) (k : List UInt8) :
    (Instr.lookup t (.map (some m)) (.string (mk k)) true).run P w = .ok (askK k ks) w := by
  obtain ⟨i, hi, hz⟩ := Option.bind_eq_some_iff.1 T.zero
  have hf := find_keys k ks 0 0
  have he : (mapE ks).toList = entF ks 0 := by simp [mapE]
  have hck := fun e => MapKept.run_checkKey (P := P) (w := w) T.key (show MapKept.IsKey .string (.string (mk k)) from trivial) e 9999
  have hfk := MapKept.run_findKey (P := P) (w := w) T.key hf
  rw [← he] at hfk
  simp only [Instr.lookup, Sem.run_bind, run_underlying T.ty, MapKept.run_getObj_map hb, Result.andThen_ok, Sem.run_pure, hck, hfk]
  unfold askK askN askB
  cases hl : lookK k ks 0 with
  | none => simp [zeroValue, typeInfo, hi, hz]
  | some n => simp
theorem effm_look {C : List Value → World → Prop} {q : Nat → List Value → Value} {n : Nat} {vs : List Value} {t kt ke : TypeId} (T : MapT P t kt ke) {m : Nat} {ks : List (List UInt8)} {c : Nat} {k : List UInt8} {K : Value → List Value → Prop}
    (hb : ∀ vs' w, era n vs' = era n vs → C vs' w → w.heap[m]? = some (.map (mapE ks) c)) (hk : K (askK k ks) vs) : EffM F0 C q n (.look t true) [.map (some m), .string (mk k)] vs K :=
  effm_val (s := Instr.lookup t (.map (some m)) (.string (mk k)) true) rfl (fun vs' w he hw => look_run T (hb vs' w he hw) k) hk
/-- a new key is entered -/
theorem eff_upd {t kt ke : TypeId} (T : MapT P t kt ke) {m : Nat} {ks : List (List UInt8)} {k : List UInt8} (s : St w0 (F * pt m (.map (mapE ks) ks.length)) w) (hn : lookK k ks 0 = none)
    (hk : ∀ w', St w0 (F * pt m (.map (mapE (ks ++ [k])) (ks ++ [k]).length)) w' → K undef w') : EffW P (.upd t) [.map (some m), .string (mk k), .int .i64 (ks.length : Int)] K w := by
  have hb := s.look
  have hf := find_keys k ks 0 0
  rw [hn] at hf
  have he : (mapE ks).toList = entF ks 0 := by simp [mapE]
  have hck := fun e => MapKept.run_checkKey (P := P) (w := w) T.key (show MapKept.IsKey .string (.string (mk k)) from trivial) e 9999
  have hfk := MapKept.run_findKey (P := P) (w := w) T.key hf
  rw [← he] at hfk
  have hs := MapKept.heap_set (o' := .map (mapE (ks ++ [k])) (ks ++ [k]).length) hb
  intro _
  refine upon_unit (s := Instr.mapUpdate t (.map (some m)) (.string (mk k)) (.int .i64 (ks.length : Int))) (w' := { w with heap := w.heap.setIfInBounds m (.map (mapE (ks ++ [k])) (ks ++ [k]).length) }) ?_ (hk _ (s.turn (o' := .map (mapE (ks ++ [k])) (ks ++ [k]).length) hs.1 hs.2 (by simp) rfl rfl (fun _ _ _ h => by cases h)))
  simp only [Instr.mapUpdate, Sem.run_bind, run_underlying T.ty, MapKept.run_getObj_map hb, Result.andThen_ok, hck, hfk, Option.map_none, mapE_snoc]
  rw [MapKept.run_setObj_map _ hb]
  simp
end
end Go.HL

namespace Go.HL
set_option maxRecDepth 4000
set_option linter.unusedSimpArgs false
set_option linter.unusedVariables false
section
variable {P : Program}
inductive PV where
  | int (k : IntKind) (a : Int)
  | str (b : List UInt8)
  | bool (b : Bool)
deriving DecidableEq
inductive PK where
  | int (k : IntKind)
  | str
  | bool
deriving DecidableEq
def PV.val : PV → Value
  | .int k a => .int k a
  | .str b => .string (mk b)
  | .bool b => .bool b
def PV.kind : PV → PK
  | .int k _ => .int k
  | .str _ => .str
  | .bool _ => .bool
def PK.of : PK → TypeDesc → Bool
  | .int _, .int _ => true
  | .str, .string => true
  | .bool, .bool => true
  | _, _ => false
def primFields (P : Program) : List Field → List PK → Nat → Bool
  | [], [], _ => true
  | f :: fs, k :: ks, o => (f.name != "_") && (f.offset == o) && (match P.underlying f.type with | some d => k.of d | none => false) && primFields P fs ks (o + 1)
  | _, _, _ => false
def holdsP (xs : Array Value) (o : Nat) (as_ : List PV) : Prop := ∀ j u, as_[j]? = some u → xs[o + j]? = some u.val
theorem holdsP_tail {xs : Array Value} {o : Nat} {a : PV} {as_ : List PV} (h : holdsP xs o (a :: as_)) : holdsP xs (o + 1) as_ := by
  intro j u hu
  have := h (j + 1) u (by simpa using hu)
  rw [Nat.add_assoc, Nat.add_comm 1]
  exact this
theorem holdsP_list (as_ : List PV) : holdsP (as_.map PV.val).toArray 0 as_ := by
  intro j u hu
  simp [hu]
theorem part_prim {t : TypeId} {d : TypeDesc} {a : PV} {xs : Array Value} {o : Nat} (ht : P.underlying t = some d) (hk : a.kind.of d = true) (h : xs[o]? = some a.val) (w : World) : (part t xs o).run P w = .ok a.val w := by
  simp only [part, Sem.run_bind, isAgg_run ht, Result.andThen_ok]
  have : isAggD d = false := by
    cases a <;> cases d <;> first | rfl | (simp [PV.kind, PK.of] at hk)
  rw [this]
  simp [h]
theorem equal_prim {t : TypeId} {d : TypeDesc} {a b : PV} (ht : P.underlying t = some d) (hk : a.kind.of d = true) (hab : a.kind = b.kind) (n : Nat) (w : World) : (Op.equalIn (n + 1) t a.val b.val).run P w = .ok (decide (a = b)) w := by
  simp only [Op.equalIn, Sem.run_bind, und_run ht, Result.andThen_ok]
  cases a <;> cases b <;> simp only [PV.kind, PK.int.injEq, reduceCtorEq] at hab
  · subst hab
    cases d <;> simp [PV.kind, PK.of] at hk
    simp [PV.val]
    rw [Bool.eq_iff_iff]; simp
  · cases d <;> simp [PV.kind, PK.of] at hk
    simp only [PV.val, Sem.run_pure, mk_eq_iff, PV.str.injEq]
  · cases d <;> simp [PV.kind, PK.of] at hk
    simp [PV.val]
    rw [Bool.eq_iff_iff]; simp
theorem eqFields_prims (d : Nat) (w : World) (xs ys : Array Value) : ∀ (as_ bs : List PV) (fs : List Field) (o : Nat), primFields P fs (as_.map PV.kind) o = true → as_.map PV.kind = bs.map PV.kind → holdsP xs o as_ → holdsP ys o bs →
    (Op.eqFields (d + 1) xs ys fs).run P w = .ok (decide (as_ = bs)) w
  | [], [], [], o, _, _, _, _ => by simp [Op.eqFields]
  | a :: as_, b :: bs, f :: fs, o, h, hk, h1, h2 => by
    simp only [List.map_cons, primFields, Bool.and_eq_true, bne_iff_ne, beq_iff_eq] at h
    obtain ⟨⟨⟨hn, ho⟩, ht⟩, hr⟩ := h
    simp only [List.map_cons, List.cons.injEq] at hk
    have ih := eqFields_prims d w xs ys as_ bs fs (o + 1) hr hk.2 (holdsP_tail h1) (holdsP_tail h2)
    split at ht
    · rename_i k hku
      have p1 := part_prim (P := P) hku ht (h1 0 a rfl) w
      have p2 := part_prim (P := P) hku (hk.1 ▸ ht) (h2 0 b rfl) w
      rw [Nat.add_zero] at p1 p2
      simp only [Op.eqFields, ne_eq, hn, not_false_eq_true, if_true, ho, Sem.run_bind, p1, p2, Result.andThen_ok, equal_prim hku ht hk.1]
      by_cases e : a = b
      · simp [e, ih]
      · simp [e]
    · cases ht
  | [], _ :: _, _, _, _, hk, _, _ => by simp at hk
  | _ :: _, [], _, _, _, hk, _, _ => by simp at hk
  | [], [], _ :: _, _, h, _, _, _ => by simp [primFields] at h
  | _ :: _, _ :: _, [], _, h, _, _, _ => by simp [primFields] at h
/-- what is known of a struct of such -/
structure PrimStruct (P : Program) (t : TypeId) (ks : List PK) : Prop where
  und : P.underlying t = some (.struct (P.fieldsOf t))
  stood : P.stoodInHeld t = false
  guard : P.eqGuardType P.depth t = false
  prims : primFields P (P.fieldsOf t).toList ks 0 = true
theorem primEq_run {t : TypeId} {ks : List PK} (T : PrimStruct P t ks) (neg : Bool) (x y : Operand) (xs ys : Array Value) (as_ bs : List PV) (l1 : as_.map PV.kind = ks) (l2 : bs.map PV.kind = ks) (h1 : holdsP xs 0 as_) (h2 : holdsP ys 0 bs) (w : World) :
    (do eqGuard (if neg then .neq else .eql) t x y (.agg xs) (.agg ys); binOp (if neg then .neq else .eql) t (.agg xs) (.agg ys) : Sem Value).run P w = .ok (.bool (if neg then !(decide (as_ = bs)) else decide (as_ = bs))) w := by
  have hg : ∀ op, (eqGuard op t x y (.agg xs) (.agg ys)).run P w = .ok () w := by
    intro op
    unfold eqGuard
    cases op <;> simp [T.guard]
  have he : (Op.equal t (.agg xs) (.agg ys)).run P w = .ok (decide (as_ = bs)) w := by
    rw [equal_succ, run_equalIn_struct w 9999 t xs ys T.und T.stood]
    exact eqFields_prims 9998 w xs ys as_ bs _ 0 (by rw [l1]; exact T.prims) (by rw [l1, l2]) h1 h2
  cases neg
  · show (do eqGuard .eql t x y (.agg xs) (.agg ys); (do pure (.bool (← Op.equal t (.agg xs) (.agg ys)))) : Sem Value).run P w = _
    simp only [Sem.run_bind, hg, Result.andThen_ok, he, Sem.run_pure]; rfl
  · show (do eqGuard .neq t x y (.agg xs) (.agg ys); (do pure (.bool (!(← Op.equal t (.agg xs) (.agg ys))))) : Sem Value).run P w = _
    simp only [Sem.run_bind, hg, Result.andThen_ok, he, Sem.run_pure]; rfl
variable {K : Value → World → Prop} {w w0 : World} {A : Asn} {C : World → Prop}
theorem effq_neqP {t : TypeId} {ks : List PK} (T : PrimStruct P t ks) {x y : Operand} (as_ bs : List PV) (l1 : as_.map PV.kind = ks) (l2 : bs.map PV.kind = ks) {K : Value → Prop} (hk : K (.bool (!decide (as_ = bs)))) :
    EffQ P C (.bin .neq t x y) [.agg (as_.map PV.val).toArray, .agg (bs.map PV.val).toArray] K :=
  ⟨_, fun w _ => quiet_val rfl (primEq_run T true x y _ _ as_ bs l1 l2 (holdsP_list as_) (holdsP_list bs) w), hk⟩
end
end Go.HL

namespace Go.HL.Pu
open Go.HL Go.HL.Nm Go.Proofs
set_option maxRecDepth 4000
set_option linter.unusedSimpArgs false
set_option linter.unusedVariables false
/-- an account -/
structure Ac where
  name : List UInt8
  coins : Int
deriving DecidableEq
def Ac.cs (x : Ac) : List Value := [.string (HL.mk x.name), .int .u64 x.coins]
def flat (l : List Ac) : List Value := l.flatMap Ac.cs
theorem cs_len (x : Ac) : x.cs.length = 2 := rfl
theorem flat_len (l : List Ac) : (flat l).length = l.length * 2 := flat_length Ac.cs 2 cs_len l
theorem cs_one (x : Ac) : ∀ u ∈ x.cs, u.oneCell' = true := by
  intro u hu
  simp only [Ac.cs, List.mem_cons, List.not_mem_nil, or_false] at hu
  rcases hu with rfl | rfl <;> rfl
theorem flat_one (l : List Ac) : ∀ u ∈ flat l, u.oneCell' = true := by
  intro u hu
  obtain ⟨x, _, hx⟩ := List.mem_flatMap.1 hu
  exact cs_one x u hx
theorem flat_at {its : List Ac} {i : Nat} (h : i < its.length) : ∀ j u, (its[i].cs)[j]? = some u → (flat its)[i * 2 + j]? = some u := by
  intro j u hu
  have hj : j < 2 := (List.getElem?_eq_some_iff.1 hu).1
  rw [← hu]
  exact flat_get Ac.cs 2 cs_len its i j h hj
theorem flat_name {its : List Ac} {i : Nat} (h : i < its.length) : (flat its)[i * 2]? = some (.string (mk its[i].name)) := flat_at h 0 _ rfl
theorem flat_coins {its : List Ac} {i : Nat} (h : i < its.length) : (flat its)[i * 2 + 1]? = some (.int .u64 its[i].coins) := flat_at h 1 _ rfl
theorem flat_set1 {its : List Ac} {i : Nat} (h : i < its.length) (c : Int) : (flat its).set (i * 2 + 1) (.int .u64 c) = flat (its.set i ⟨its[i].name, c⟩) := by
  have e := flat_set Ac.cs 2 cs_len (⟨its[i].name, c⟩ : Ac) its i h
  show _ = List.flatMap Ac.cs _
  rw [← e]
  have hl := flat_len its
  have hf : flat its = its.flatMap Ac.cs := rfl
  apply List.ext_getElem?
  intro k
  have hlen : i * 2 + 2 ≤ (its.flatMap Ac.cs).length := by rw [← hf]; omega
  have tl : ((its.flatMap Ac.cs).take (i * 2)).length = i * 2 := by rw [List.length_take]; omega
  rw [hf]
  have c4 : (⟨its[i].name, c⟩ : Ac).cs.length = 2 := rfl
  by_cases k1 : k < i * 2
  · rw [List.getElem?_set_ne (by omega), List.append_assoc, List.getElem?_append_left (by omega), List.getElem?_take, if_pos k1]
  by_cases k2 : k < i * 2 + 2
  · rw [List.append_assoc, List.getElem?_append_right (by omega), tl, List.getElem?_append_left (by rw [c4]; omega)]
    obtain ⟨j, rfl⟩ : ∃ j, k = i * 2 + j := ⟨k - i * 2, by omega⟩
    have hj : j < 2 := by omega
    rw [Nat.add_sub_cancel_left]
    have : j = 0 ∨ j = 1 := by omega
    rcases this with rfl | rfl
    · rw [List.getElem?_set_ne (by omega), flat_get Ac.cs 2 cs_len its i 0 h (by omega)]; rfl
    · rw [List.getElem?_set_self (by omega)]; rfl
  · rw [List.getElem?_set_ne (by omega), List.append_assoc, List.getElem?_append_right (by omega), tl, List.getElem?_append_right (by rw [c4]; omega), List.getElem?_drop, c4]
    congr 1
    omega
def keyF (l : List UInt8) : List UInt8 := encAll (foldedF l)
def seemF (l : List UInt8) : List UInt8 := encAll (lookF l)
def keys (l : List Ac) : List (List UInt8) := l.map fun x => keyF x.name
/-- a purse's numbers -/
structure Ps where
  lim : Int
  rows : List Ac
  sup : Int
  held : Int
deriving DecidableEq
/-- a purse at p -/
abbrev pt4 (p : Nat) (P : Ps) (m : Nat) (v : Value) : Asn := pt p (.cells #[.map (some m), .int .i64 P.lim, v, .int .u64 P.sup, .int .u64 P.held] 81 (0, 0))
abbrev mpt (m : Nat) (l : List Ac) : Asn := pt m (.map (mapE (keys l)) (keys l).length)
def pur (p : Nat) (P : Ps) : Asn := fun h => ∃ m v, (pt4 p P m v * mpt m P.rows * own 58 2 v P.rows.length (flat P.rows)) h
theorem popen {w0 w : World} {A : Asn} {p : Nat} {P : Ps} (s : St w0 (A * pur p P) w) :
    ∃ m v, St w0 (A * pt4 p P m v * mpt m P.rows * own 58 2 v P.rows.length (flat P.rows)) w := by
  obtain ⟨g, h1, h2, h3, d, e, a, m, v, b⟩ := s.holds
  refine ⟨m, v, ?_⟩
  rw [sep_assoc, sep_assoc, ← sep_assoc (pt4 p P m v)]
  exact s.of ⟨g, h1, h2, h3, d, e, a, b⟩
theorem pclose {w0 w : World} {A : Asn} {p : Nat} {P : Ps} {m : Nat} {v : Value}
    (s : St w0 (A * pt4 p P m v * mpt m P.rows * own 58 2 v P.rows.length (flat P.rows)) w) : St w0 (A * pur p P) w := by
  rw [sep_assoc, sep_assoc, ← sep_assoc (pt4 p P m v)] at s
  obtain ⟨g, h1, h2, h3, d, e, a, b⟩ := s.holds
  exact s.of ⟨g, h1, h2, h3, d, e, a, m, v, b⟩
theorem regT : MapT Tryz.prog 77 9 3 := ⟨by kernel_rfl, by kernel_rfl, by kernel_rfl⟩
noncomputable abbrev U0 : PF Tryz.prog := PF.none _
-- (*bazaar/purse.register).known
def h76_0 : HC := (.seq (.reg (.done [(2, (.inp 4)), (3, (.inp 5))] none)) .ret)
@[simp] theorem h76_0_wp {P : Program} {F : PF P} {Q : EX → List Value → World → Prop} {env : List Value} {w : World} : h76_0.wp F Q env w = HC.wp F (.seq (.reg (.done [(2, (.inp 4)), (3, (.inp 5))] none)) .ret) Q env w := rfl
def h76_1 : HC := (.seq (.regq (some 2) (.chk none .chkp (.cons (.inp 0) .nil) (.chk none (.fld 0) (.cons (.op .chkp (.cons (.inp 0) .nil)) .nil) (.eff (.ld false 1) (.cons (.op (.fld 0) (.cons (.op .chkp (.cons (.inp 0) .nil)) .nil)) .nil) (.eff (.call 104) (.cons (.inp 1) .nil) (.eff (.look 77 true) (.cons (.bv 0) (.cons (.bv 1) .nil)) (.chk none (.ext 0) (.cons (.bv 2) .nil) (.chk none (.ext 1) (.cons (.bv 2) .nil) (.done [(4, (.op (.ext 0) (.cons (.bv 2) .nil))), (5, (.op (.ext 1) (.cons (.bv 2) .nil)))] none))))))))) h76_0)
@[simp] theorem h76_1_wp {P : Program} {F : PF P} {Q : EX → List Value → World → Prop} {env : List Value} {w : World} : h76_1.wp F Q env w = HC.wp F (.seq (.regq (some 2) (.chk none .chkp (.cons (.inp 0) .nil) (.chk none (.fld 0) (.cons (.op .chkp (.cons (.inp 0) .nil)) .nil) (.eff (.ld false 1) (.cons (.op (.fld 0) (.cons (.op .chkp (.cons (.inp 0) .nil)) .nil)) .nil) (.eff (.call 104) (.cons (.inp 1) .nil) (.eff (.look 77 true) (.cons (.bv 0) (.cons (.bv 1) .nil)) (.chk none (.ext 0) (.cons (.bv 2) .nil) (.chk none (.ext 1) (.cons (.bv 2) .nil) (.done [(4, (.op (.ext 0) (.cons (.bv 2) .nil))), (5, (.op (.ext 1) (.cons (.bv 2) .nil)))] none))))))))) h76_0) Q env w := rfl
def l76 : Lifted := ⟨[0, 1, 4, 5, 6, 7], 20, [.slot 2, .slot 3], (.seq (.reg (.done [(2, (.cst (.int .i64 0))), (3, (.cst (.bool false)))] none)) h76_1)⟩
theorem l76_ok : liftFn U0 76 400 = some l76 := by kernel_rfl

-- (*bazaar/purse.register).enter

def l77 : Lifted := ⟨[0, 1, 2], 13, [], (.regq (some 2) (.chk none .chkp (.cons (.inp 0) .nil) (.chk none (.fld 0) (.cons (.op .chkp (.cons (.inp 0) .nil)) .nil) (.eff (.ld false 1) (.cons (.op (.fld 0) (.cons (.op .chkp (.cons (.inp 0) .nil)) .nil)) .nil) (.eff (.call 104) (.cons (.inp 1) .nil) (.eff (.upd 77) (.cons (.bv 0) (.cons (.bv 1) (.cons (.inp 2) .nil))) (.done [] none)))))))⟩
theorem l77_ok : liftFn U0 77 400 = some l77 := by kernel_rfl

-- maps.Clone[map[string]int,string,int]
-- slices.Clip[[]bazaar/api.Account,bazaar/api.Account]
def h38_0 : HC := (.seq (.reg (.chk none .lenL (.cons (.inp 0) .nil) (.chk none .lenL (.cons (.inp 0) .nil) (.chk none (.slL 2 false true true) (.cons (.inp 0) (.cons (.op .lenL (.cons (.inp 0) .nil)) (.cons (.op .lenL (.cons (.inp 0) .nil)) .nil))) (.done [(1, (.op (.slL 2 false true true) (.cons (.inp 0) (.cons (.op .lenL (.cons (.inp 0) .nil)) (.cons (.op .lenL (.cons (.inp 0) .nil)) .nil)))))] none))))) .ret)
@[simp] theorem h38_0_wp {P : Program} {F : PF P} {Q : EX → List Value → World → Prop} {env : List Value} {w : World} : h38_0.wp F Q env w = HC.wp F (.seq (.reg (.chk none .lenL (.cons (.inp 0) .nil) (.chk none .lenL (.cons (.inp 0) .nil) (.chk none (.slL 2 false true true) (.cons (.inp 0) (.cons (.op .lenL (.cons (.inp 0) .nil)) (.cons (.op .lenL (.cons (.inp 0) .nil)) .nil))) (.done [(1, (.op (.slL 2 false true true) (.cons (.inp 0) (.cons (.op .lenL (.cons (.inp 0) .nil)) (.cons (.op .lenL (.cons (.inp 0) .nil)) .nil)))))] none))))) .ret) Q env w := rfl
def l38 : Lifted := ⟨[0, 2], 9, [.slot 1], (.seq (.reg (.done [(1, (.cst (.slice none 0 0)))] none)) h38_0)⟩
theorem l38_ok : liftFn U0 38 400 = some l38 := by kernel_rfl

-- slices.Clone[[]bazaar/api.Account,bazaar/api.Account]
def h39_0 : HC := (.seq (.reg (.eff (.bsl 58 0 2 #[] []) .nil (.eff (.app 22 22 58 2 24 (.agg #[(.string ⟨#[]⟩), (.int .u64 0)])) (.cons (.bv 0) (.cons (.inp 0) .nil)) (.done [(1, (.bv 1))] none)))) .ret)
@[simp] theorem h39_0_wp {P : Program} {F : PF P} {Q : EX → List Value → World → Prop} {env : List Value} {w : World} : h39_0.wp F Q env w = HC.wp F (.seq (.reg (.eff (.bsl 58 0 2 #[] []) .nil (.eff (.app 22 22 58 2 24 (.agg #[(.string ⟨#[]⟩), (.int .u64 0)])) (.cons (.bv 0) (.cons (.inp 0) .nil)) (.done [(1, (.bv 1))] none)))) .ret) Q env w := rfl
def h39_1 : HC := (.seq (.reg (.done [(1, (.cst (.slice none 0 0)))] none)) .ret)
@[simp] theorem h39_1_wp {P : Program} {F : PF P} {Q : EX → List Value → World → Prop} {env : List Value} {w : World} : h39_1.wp F Q env w = HC.wp F (.seq (.reg (.done [(1, (.cst (.slice none 0 0)))] none)) .ret) Q env w := rfl
def h39_2 : HC := (.seq (.br (.chk none (.eqNil false (.slice 58) (.slice none 0 0)) (.cons (.inp 0) .nil) (.done [] (some (.op (.eqNil false (.slice 58) (.slice none 0 0)) (.cons (.inp 0) .nil))))) h39_1 .skip) h39_0)
@[simp] theorem h39_2_wp {P : Program} {F : PF P} {Q : EX → List Value → World → Prop} {env : List Value} {w : World} : h39_2.wp F Q env w = HC.wp F (.seq (.br (.chk none (.eqNil false (.slice 58) (.slice none 0 0)) (.cons (.inp 0) .nil) (.done [] (some (.op (.eqNil false (.slice 58) (.slice none 0 0)) (.cons (.inp 0) .nil))))) h39_1 .skip) h39_0) Q env w := rfl
def l39 : Lifted := ⟨[0, 2], 8, [.slot 1], (.seq (.reg (.done [(1, (.cst (.slice none 0 0)))] none)) h39_2)⟩
theorem l39_ok : liftFn U0 39 400 = some l39 := by kernel_rfl

-- bazaar/count.Take
def h32_0 : HC := (.seq (.reg (.chk none (.bin .sub) (.cons (.inp 0) (.cons (.inp 1) .nil)) (.done [(2, (.op (.bin .sub) (.cons (.inp 0) (.cons (.inp 1) .nil)))), (3, (.cst (.int .i64 0)))] none))) .ret)
@[simp] theorem h32_0_wp {P : Program} {F : PF P} {Q : EX → List Value → World → Prop} {env : List Value} {w : World} : h32_0.wp F Q env w = HC.wp F (.seq (.reg (.chk none (.bin .sub) (.cons (.inp 0) (.cons (.inp 1) .nil)) (.done [(2, (.op (.bin .sub) (.cons (.inp 0) (.cons (.inp 1) .nil)))), (3, (.cst (.int .i64 0)))] none))) .ret) Q env w := rfl
def h32_1 : HC := (.seq (.reg (.done [(2, (.cst (.int .u64 0))), (3, (.cst (.int .i64 11)))] none)) .ret)
@[simp] theorem h32_1_wp {P : Program} {F : PF P} {Q : EX → List Value → World → Prop} {env : List Value} {w : World} : h32_1.wp F Q env w = HC.wp F (.seq (.reg (.done [(2, (.cst (.int .u64 0))), (3, (.cst (.int .i64 11)))] none)) .ret) Q env w := rfl
def h32_2 : HC := (.seq (.br (.chk none (.bin .gtr) (.cons (.inp 1) (.cons (.inp 0) .nil)) (.done [] (some (.op (.bin .gtr) (.cons (.inp 1) (.cons (.inp 0) .nil)))))) h32_1 .skip) h32_0)
@[simp] theorem h32_2_wp {P : Program} {F : PF P} {Q : EX → List Value → World → Prop} {env : List Value} {w : World} : h32_2.wp F Q env w = HC.wp F (.seq (.br (.chk none (.bin .gtr) (.cons (.inp 1) (.cons (.inp 0) .nil)) (.done [] (some (.op (.bin .gtr) (.cons (.inp 1) (.cons (.inp 0) .nil)))))) h32_1 .skip) h32_0) Q env w := rfl
def l32 : Lifted := ⟨[0, 1, 4, 5], 12, [.slot 2, .slot 3], (.seq (.reg (.done [(2, (.cst (.int .u64 0))), (3, (.cst (.int .i64 0)))] none)) h32_2)⟩
theorem l32_ok : liftFn U0 32 400 = some l32 := by kernel_rfl


theorem known_spec (p : Nat) (c : Array Value) (t : TypeId) (m : Nat) (ks : List (List UInt8)) (n : Nat) (x : List UInt8) (w0 w : World) (A : Asn) (hc : c[0]? = some (.map (some m))) (hx : x.length ≤ 1048576)
    (s : St w0 (A * pt p (.cells c t (0, 0)) * pt m (.map (mapE ks) n)) w) :
    CallW Tryz.prog 76 [.pointer (some ⟨p, 0, none⟩), .string (mk x)] (fun r w' => r = .tuple #[.int .i64 (askN (keyF x) ks), .bool (askB (keyF x) ks)] ∧ St w0 (A * pt p (.cells c t (0, 0)) * pt m (.map (mapE ks) n)) w') w := by
  refine callW_of_lift l76_ok (by simp [l76]) ?_
  simp [l76]
  refine regmI (fun vs w => match vs with
    | [] => St w0 (A * pt p (.cells c t (0, 0)) * pt m (.map (mapE ks) n)) w
    | r :: _ => r = .string (mk (keyF x)) ∧ St w0 (A * pt p (.cells c t (0, 0)) * pt m (.map (mapE ks) n)) w) s.drew ?_
  have base : ∀ {vs' : List Value} {w : World}, (match vs' with
    | [] => St w0 (A * pt p (.cells c t (0, 0)) * pt m (.map (mapE ks) n)) w
    | r :: _ => r = .string (mk (keyF x)) ∧ St w0 (A * pt p (.cells c t (0, 0)) * pt m (.map (mapE ks) n)) w) → St w0 (A * pt p (.cells c t (0, 0)) * pt m (.map (mapE ks) n)) w := by
    intro vs' w h
    cases vs' with
    | nil => exact h
    | cons r l => exact h.2
  simp
  refine effm_ldc (v := .map (some m)) (fun vs' w _ hw => by rw [cell_of (base hw).drop.look]; exact hc) ?_
  simp
  refine effm_mv rfl (fun w hw => eff_call ((Fold_spec x w0 w _ hx hw).mono fun r w' h => h)) (fun r hr => ?_)
  obtain ⟨_, rfl, _⟩ := hr
  simp
  refine effm_look regT (fun vs' w _ hw => (base hw).look) ?_
  simp
theorem enter_spec (p : Nat) (c : Array Value) (t : TypeId) (m : Nat) (ks : List (List UInt8)) (x : List UInt8) (w0 w : World) (A : Asn) (hc : c[0]? = some (.map (some m))) (hx : x.length ≤ 1048576) (hn : lookK (keyF x) ks 0 = none)
    (s : St w0 (A * pt p (.cells c t (0, 0)) * pt m (.map (mapE ks) ks.length)) w) :
    CallW Tryz.prog 77 [.pointer (some ⟨p, 0, none⟩), .string (mk x), .int .i64 (ks.length : Int)] (fun r w' => St w0 (A * pt p (.cells c t (0, 0)) * pt m (.map (mapE (ks ++ [keyF x])) (ks ++ [keyF x]).length)) w') w := by
  refine callW_of_lift l77_ok (by simp [l77]) ?_
  simp [l77]
  refine regmI (fun vs w => match vs with
    | [] => St w0 (A * pt p (.cells c t (0, 0)) * pt m (.map (mapE ks) ks.length)) w
    | [r] => r = .string (mk (keyF x)) ∧ St w0 (A * pt p (.cells c t (0, 0)) * pt m (.map (mapE ks) ks.length)) w
    | _ => St w0 (A * pt p (.cells c t (0, 0)) * pt m (.map (mapE (ks ++ [keyF x])) (ks ++ [keyF x]).length)) w) s.drew ?_
  simp
  refine effm_ldc (v := .map (some m)) (fun vs' w he hw => ?_) ?_
  · match vs', hw with
    | [], hw => rw [cell_of (St.drop hw).look]; exact hc
    | [_], hw => rw [cell_of (St.drop hw.2).look]; exact hc
    | _ :: _ :: _, hw => simp [era] at he
  simp
  refine effm_mv rfl (fun w hw => eff_call ((Fold_spec x w0 w _ hx hw).mono fun r w' h => h)) (fun r hr => ?_)
  obtain ⟨_, rfl, _⟩ := hr
  simp
  refine effm_mv rfl (fun w hw => eff_upd regT hw.2 hn fun w' h => by simpa using h) (fun r hr => ?_)
  simp
theorem take_spec (a b : Int) (w : World) (ha : 0 ≤ a ∧ a < 18446744073709551616) (hb : 0 ≤ b ∧ b < 18446744073709551616) : CallW Tryz.prog 32 [.int .u64 a, .int .u64 b] (fun r w' => r = .tuple #[.int .u64 (if a < b then 0 else a - b), .int .i64 (if a < b then 11 else 0)] ∧ w' = w) w := by
  refine callW_of_lift l32_ok (by simp [l32]) ?_
  simp [l32]
  refine cndI (fun h => ?_) (fun h => ?_)
  · simp at h
    simp [h]
  · simp at h
    simp
    try simp (disch := omega) only [wrapu64]
    exact ⟨by rw [if_neg (by omega)], by omega⟩
def clipV : Value → Value
  | .slice a n _ => .slice a n n
  | v => v
theorem clip_own {w0 w : World} {A : Asn} {e size n : Nat} {v : Value} {xs : List Value} (s : St w0 (A * own e size v n xs) w) : St w0 (A * own e size (clipV v) n xs) w := by
  rcases s.own with ⟨hl, ⟨rfl, rfl, rfl, s'⟩ | ⟨g, cap, cur, rfl, h1, h2, h3, h4, s'⟩⟩
  · exact s
  · exact s'.own_mk' (Nat.le_refl n) (Nat.le_trans h1 h2) (Nat.le_trans (Nat.mul_le_mul_right _ h1) h3) h4
theorem add_zero : (fun x : Addr => x.add 0) = id := by funext x; cases x; rfl
theorem clipA_spec (v : Value) (n : Nat) (xs : List Value) (e : Nat) (w0 w : World) (A : Asn) (hn : n ≤ 1048576) (s : St w0 (A * own e 2 v n xs) w) :
    CallW Tryz.prog 38 [v] (fun r w' => St w0 (A * own e 2 r n xs) w') w := by
  obtain ⟨a, cap, rfl, hc, _⟩ := s.own_val
  refine callW_of_lift l38_ok (by simp [l38]) ?_
  simp [l38, add_zero]
  exact ⟨hc, clip_own s⟩
theorem clone_spec (v : Value) (rows : List Ac) (w0 w : World) (A : Asn) (hl : rows.length ≤ 1048576) (s : St w0 (A * own 58 2 v rows.length (flat rows)) w) :
    CallW Tryz.prog 39 [v] (fun r w' => St w0 (A * own 58 2 v rows.length (flat rows) * own 58 2 r rows.length (flat rows)) w') w := by
  obtain ⟨a, cap, rfl, hcap, _⟩ := s.own_val
  refine callW_of_lift l39_ok (by simp [l39]) ?_
  simp [l39]
  cases a with
  | none =>
    simp
    rcases s.own.2 with ⟨h, h0, _⟩ | ⟨_, _, _, h, _⟩
    · have hi : rows = [] := List.eq_nil_of_length_eq_zero h0
      subst hi
      exact s.own_nil _ _
    · cases h
  | some a =>
    simp
    refine eff_bsl0 s ?_
    intro v0 w1 s1
    simp
    have hr : Row w0 (A * own 58 2 (.slice (some a) rows.length cap) rows.length (flat rows) * own 58 2 v0 0 []) (.slice (some a) rows.length cap) rows.length 2 (flat rows) := (row_own s).mono fun w s => s.drop
    refine eff_appR s1 hr (flat_one _) (by decide) rfl (by unfold maxLen; omega) (by omega) ?_
    intro v' w2 s2
    simp
    simpa using s2
end Go.HL.Pu
