/-
  What the claim leans on, part 11 of 15. Conditions: as each theorem says.
-/
import Derived.Test.YtiokklaedanjbaaEKMj
import Derived.MapKept
namespace Go.HL
set_option maxRecDepth 4000
set_option linter.unusedSimpArgs false
set_option linter.unusedVariables false
def exA {α : Type} (F : α → Asn) : Asn := fun h => ∃ a, F a h
theorem exA_open {α : Type} {w0 w : World} {A : Asn} {F : α → Asn} (s : St w0 (A * exA F) w) : ∃ a, St w0 (A * F a) w := by
  obtain ⟨g, h1, h2, h3, d, e, a, m, b⟩ := s.holds
  exact ⟨m, s.of ⟨g, h1, h2, h3, d, e, a, b⟩⟩
theorem exA_mk {α : Type} {w0 w : World} {A : Asn} {F : α → Asn} (x : α) (s : St w0 (A * F x) w) : St w0 (A * exA F) w := by
  obtain ⟨g, h1, h2, h3, d, e, a, b⟩ := s.holds
  exact s.of ⟨g, h1, h2, h3, d, e, a, x, b⟩
section
variable {P : Program} {F0 : PF P} {F : Asn} {K : Value → World → Prop} {w w0 : World}
/-- an entry: its key, its value, its stamp -/
structure En where
  k : Int
  v : Value
  b : Nat
def entA (es : List En) : Array MapEntry := (es.map fun e => (⟨.int .i64 e.k, e.v, e.b⟩ : MapEntry)).toArray
def getI : List En → Int → Option Value
  | [], _ => none
  | e :: r, k => if k = e.k then some e.v else getI r k
def setI : List En → Int → Value → List En
  | [], _, _ => []
  | e :: r, k, v => if k = e.k then ⟨e.k, v, e.b⟩ :: r else e :: setI r k v
def delI : List En → Int → List En
  | [], _ => []
  | e :: r, k => if k = e.k then r else e :: delI r k
def posI : List En → Int → Nat → Option Nat
  | [], _, _ => none
  | e :: r, k, i => if k = e.k then some i else posI r k (i + 1)
theorem find_int (k : Int) : ∀ (es : List En) (i : Nat), Instr.findNow (.int .i64) (.int .i64 k) (entA es).toList i = some ((posI es k i).bind fun j => (getI es k).map fun v => (j, v))
  | [], _ => rfl
  | e :: r, i => by
    have h := find_int k r (i + 1)
    simp only [entA, List.toList_toArray] at h
    simp only [entA, List.toList_toArray, List.map_cons, Instr.findNow, Instr.sameNow, if_true, posI, getI]
    by_cases hk : k = e.k
    · subst hk; simp
    · simp only [beq_eq_false_iff_ne.2 hk, hk, if_false]
      exact h
theorem pos_get (k : Int) : ∀ (es : List En) (i : Nat), (posI es k i).isSome = (getI es k).isSome
  | [], _ => rfl
  | e :: r, i => by
    simp only [posI, getI]
    split
    · rfl
    · exact pos_get k r (i + 1)
theorem pos_ge (k : Int) : ∀ (es : List En) (i j : Nat), posI es k i = some j → i ≤ j
  | [], _, _, h => by cases h
  | e :: r, i, j, h => by
    simp only [posI] at h
    split at h
    · cases h; exact Nat.le_refl _
    · have := pos_ge k r _ _ h; omega
theorem set_at (k : Int) (v : Value) : ∀ (es : List En) (i j : Nat), posI es k i = some j → (entA es).modify (j - i) (fun e => { e with key := .int .i64 k, val := v }) = entA (setI es k v)
  | [], _, _, h => by cases h
  | e :: r, i, j, h => by
    simp only [posI] at h
    apply Array.ext'
    by_cases hk : k = e.k
    · rw [if_pos hk] at h
      cases h
      subst hk
      simp [entA, setI, Array.toList_modify, List.modify]
    · rw [if_neg hk] at h
      have hge := pos_ge k r _ _ h
      have ih := congrArg Array.toList (set_at k v r _ _ h)
      obtain ⟨d, rfl⟩ : ∃ d, j = i + 1 + d := ⟨j - (i + 1), by omega⟩
      have e1 : i + 1 + d - i = d + 1 := by omega
      have e2 : i + 1 + d - (i + 1) = d := by omega
      rw [e2] at ih
      rw [e1]
      simp only [entA, Array.toList_modify, List.toList_toArray, List.map_cons, setI, hk, if_false, List.modify_succ_cons, List.cons.injEq, true_and] at ih ⊢
      exact ih
theorem del_at (k : Int) : ∀ (es : List En) (i j : Nat), posI es k i = some j → (entA es).eraseIdxIfInBounds (j - i) = entA (delI es k)
  | [], _, _, h => by cases h
  | e :: r, i, j, h => by
    simp only [posI] at h
    apply Array.ext'
    by_cases hk : k = e.k
    · rw [if_pos hk] at h
      cases h
      subst hk
      simp [entA, delI, Array.eraseIdxIfInBounds]
    · rw [if_neg hk] at h
      have hge := pos_ge k r _ _ h
      have ih := congrArg Array.toList (del_at k r _ _ h)
      obtain ⟨d, rfl⟩ : ∃ d, j = i + 1 + d := ⟨j - (i + 1), by omega⟩
      have e1 : i + 1 + d - i = d + 1 := by omega
      have e2 : i + 1 + d - (i + 1) = d := by omega
      have key : ∀ (l : List MapEntry) (n : Nat), (l.toArray.eraseIdxIfInBounds n).toList = l.eraseIdx n := by
        intro l n
        unfold Array.eraseIdxIfInBounds
        split
        · simp
        · rename_i hh
          rw [List.eraseIdx_of_length_le (by simpa using hh)]
      simp only [e2, entA, key] at ih
      simp only [e1, entA, key, List.map_cons, delI, hk, if_false, List.eraseIdx_cons_succ, List.toList_toArray, List.cons.injEq, true_and]
      simpa using ih
structure MapI (P : Program) (t kt ke : TypeId) (z : Value) : Prop where
  ty : P.underlying t = some (.map kt ke)
  key : P.underlying kt = some (.int .i64)
  zero : (P.info? ke).bind (·.zero) = some z
abbrev imap (m : Nat) (es : List En) (c : Nat) : Asn := pt m (.map (entA es) c)
variable {t kt ke : TypeId} {z : Value}
theorem chkI (T : MapI P t kt ke z) (e : Bool) (k : Int) : (Instr.checkKey e 10000 kt (.int .i64 k)).run P w = .ok () w := MapKept.run_checkKey (P := P) (w := w) T.key (show MapKept.IsKey (.int .i64) (.int .i64 k) from rfl) e 9999
theorem fndI (T : MapI P t kt ke z) (k : Int) (es : List En) : (Instr.findKey kt (.int .i64 k) (entA es).toList).run P w = .ok ((posI es k 0).bind fun j => (getI es k).map fun v => (j, v)) w := MapKept.run_findKey (P := P) (w := w) T.key (find_int k es 0)
theorem zrI (T : MapI P t kt ke z) : (zeroValue ke).run P w = .ok z w := by
  obtain ⟨i, hi, hz⟩ := Option.bind_eq_some_iff.1 T.zero
  simp [zeroValue, typeInfo, hi, hz]
theorem get_pos {es : List En} {k : Int} : ((posI es k 0).bind fun j => (getI es k).map fun v => (j, v)).map (·.2) = getI es k := by
  have := pos_get k es 0
  cases hp : posI es k 0 with
  | none => rw [hp] at this; cases hg : getI es k with
    | none => rfl
    | some v => rw [hg] at this; cases this
  | some j => cases hg : getI es k <;> rfl
theorem lookI_run (T : MapI P t kt ke z) {m : Nat} {es : List En} {c : Nat} (hb : w.heap[m]? = some (.map (entA es) c)) (k : Int) (ok : Bool) :
    (Instr.lookup t (.map (some m)) (.int .i64 k) ok).run P w = .ok (if ok then .tuple #[(getI es k).getD z, .bool (getI es k).isSome] else (getI es k).getD z) w := by
  have hg := get_pos (es := es) (k := k)
  simp only [Instr.lookup, Sem.run_bind, run_underlying T.ty, MapKept.run_getObj_map hb, Result.andThen_ok, Sem.run_pure, chkI T, fndI T]
  cases hf : ((posI es k 0).bind fun j => (getI es k).map fun v => (j, v)) with
  | none => rw [hf] at hg; rw [← hg]; simp [zrI T]
  | some q => rw [hf] at hg; rw [← hg]; simp
theorem eff_lookI (T : MapI P t kt ke z) {m : Nat} {es : List En} {c : Nat} (hb : w.heap[m]? = some (.map (entA es) c)) {k : Int} (hk : K ((getI es k).getD z) w) : EffW P (.look t false) [.map (some m), .int .i64 k] K w := by
  intro _
  exact upon_val (lookI_run T hb k false) hk
theorem effm_lookI {C : List Value → World → Prop} {q : Nat → List Value → Value} {n : Nat} {vs : List Value} (T : MapI P t kt ke z) {m : Nat} {es : List En} {c : Nat} {k : Int} {K : Value → List Value → Prop}
    (hb : ∀ vs' w, era n vs' = era n vs → C vs' w → w.heap[m]? = some (.map (entA es) c)) (hk : K ((getI es k).getD z) vs) : EffM F0 C q n (.look t false) [.map (some m), .int .i64 k] vs K :=
  effm_val (s := Instr.lookup t (.map (some m)) (.int .i64 k) false) rfl (fun vs' w he hw => lookI_run T (hb vs' w he hw) k false) hk
/-- a new map -/
theorem eff_mkmI (s : St w0 F w) (hk : ∀ b w', St w0 (F * imap b [] 0) w' → K (.map (some b)) w') : EffW P (.mkm t false) [] K w := by
  intro _
  refine upon_val (s := Instr.makeMap t none) (v := .map (some w.heap.size)) (w' := w.alloc (.map (entA []) 0)) ?_ (hk _ _ (s.alloc trivial))
  simp [Instr.makeMap, newObj, Sem.run, entA, Sem.bind]
theorem turnM {m : Nat} {o : Obj} {es' : List En} {c' : Nat} (s : St w0 (F * pt m o) w) : St w0 (F * imap m es' c') { w with heap := w.heap.setIfInBounds m (.map (entA es') c') } := by
  have hs := MapKept.heap_set (o' := .map (entA es') c') s.look
  exact s.turn (o' := .map (entA es') c') hs.1 hs.2 (by simp) rfl rfl (fun _ _ _ h => by cases h)
/-- a new key is entered -/
theorem eff_updI (T : MapI P t kt ke z) {m : Nat} {es : List En} {c : Nat} {k : Int} {v : Value} (s : St w0 (F * imap m es c) w) (hn : getI es k = none)
    (hk : ∀ w', St w0 (F * imap m (es ++ [⟨k, v, c⟩]) (c + 1)) w' → K undef w') : EffW P (.upd t) [.map (some m), .int .i64 k, v] K w := by
  intro _
  refine upon_unit (s := Instr.mapUpdate t (.map (some m)) (.int .i64 k) v) ?_ (hk _ (turnM s))
  have hb := s.look
  have hp : posI es k 0 = none := by
    have := pos_get k es 0
    rw [hn] at this
    simpa using this
  have he : (entA es).push ⟨.int .i64 k, v, c⟩ = entA (es ++ [⟨k, v, c⟩]) := by apply Array.ext'; simp [entA]
  simp only [Instr.mapUpdate, Sem.run_bind, run_underlying T.ty, MapKept.run_getObj_map hb, Result.andThen_ok, chkI T, fndI T, hp, Option.bind_none, he]
  rw [MapKept.run_setObj_map _ hb]
/-- another value for a key -/
theorem eff_updI2 (T : MapI P t kt ke z) {m : Nat} {es : List En} {c : Nat} {k : Int} {v u : Value} (s : St w0 (F * imap m es c) w) (hn : getI es k = some u)
    (hk : ∀ w', St w0 (F * imap m (setI es k v) c) w' → K undef w') : EffW P (.upd t) [.map (some m), .int .i64 k, v] K w := by
  intro _
  refine upon_unit (s := Instr.mapUpdate t (.map (some m)) (.int .i64 k) v) ?_ (hk _ (turnM s))
  have hb := s.look
  obtain ⟨j, hp⟩ : ∃ j, posI es k 0 = some j := by
    have := pos_get k es 0
    rw [hn] at this
    exact Option.isSome_iff_exists.1 this
  have hs := set_at k v es 0 j hp
  rw [Nat.sub_zero] at hs
  have hkey : ((entA es)[j]?.map (·.key)).getD (.int .i64 k) = .int .i64 k := by
    have key : ∀ (es : List En) (i j : Nat), posI es k i = some j → ∀ e, es[j - i]? = some e → e.k = k := by
      intro es
      induction es with
      | nil => intro i j h; cases h
      | cons x r ih =>
        intro i j h e he
        simp only [posI] at h
        split at h
        · rename_i hx
          cases h
          simp only [Nat.sub_self, List.getElem?_cons_zero, Option.some.injEq] at he
          rw [← he, hx]
        · have hge := pos_ge k r _ _ h
          refine ih (i + 1) j h e ?_
          have : j - i = (j - (i + 1)) + 1 := by omega
          rw [this, List.getElem?_cons_succ] at he
          exact he
    cases hj : es[j]? with
    | none => simp [entA, hj]
    | some e =>
      have := key es 0 j hp e (by simpa using hj)
      simp [entA, hj, this]
  simp only [Instr.mapUpdate, Sem.run_bind, run_underlying T.ty, MapKept.run_getObj_map hb, Result.andThen_ok, chkI T, fndI T, hp, hn, Option.bind_some, Option.map_some, hkey]
  rw [MapKept.run_keyThatStays (show MapKept.IsKey (.int .i64) (.int .i64 k) from rfl)]
  simp only [Result.andThen_ok, hs]
  rw [MapKept.run_setObj_map _ hb]
theorem del_none : ∀ (es : List En) (k : Int), getI es k = none → delI es k = es
  | [], _, _ => rfl
  | e :: r, k, h => by
    simp only [getI] at h
    split at h
    · cases h
    · rename_i hk; simp only [delI, hk, if_false, del_none r k h]
/-- a key is deleted -/
theorem eff_delI {kt' ty : TypeId} {cs : Array Bool} (T : MapI P t kt ke z) {m : Nat} {es : List En} {c : Nat} {k : Int} (s : St w0 (F * imap m es c) w)
    (hk : ∀ w', St w0 (F * imap m (delI es k) c) w' → K (.tuple #[]) w') : EffW P (.bi .delete #[t, kt'] ty cs) [.map (some m), .int .i64 k] K w := by
  intro _
  refine upon_val (s := Builtin.delete_ #[t, kt'] ty #[.map (some m), .int .i64 k]) ?_ (hk _ (turnM s))
  have hb := s.look
  simp only [Builtin.delete_, List.getElem?_toArray, List.getElem?_cons_zero, List.getElem?_cons_succ, Sem.run_bind, run_underlying T.ty, MapKept.run_getObj_map hb, Result.andThen_ok, chkI T, fndI T]
  cases hp : posI es k 0 with
  | none =>
    have hn : getI es k = none := by
      have := pos_get k es 0
      rw [hp] at this
      simpa using this.symm
    simp only [Option.bind_none, del_none es k hn, Sem.run_bind]
    rw [MapKept.run_setObj_map _ hb]
    simp
  | some j =>
    obtain ⟨v, hv⟩ : ∃ v, getI es k = some v := by
      have := pos_get k es 0
      rw [hp] at this
      exact Option.isSome_iff_exists.1 this.symm
    have hs := del_at k es 0 j hp
    rw [Nat.sub_zero] at hs
    simp only [hv, Option.bind_some, Option.map_some, hs, Sem.run_bind]
    rw [MapKept.run_setObj_map _ hb]
    simp
def leftE (es : List En) (seen : Array Nat) : List En := es.filter fun e => !seen.contains e.b
end
structure okE (es : List En) (c : Nat) : Prop where
  lt : ∀ e ∈ es, e.b < c
  bn : (es.map (·.b)).Nodup
  kn : (es.map (·.k)).Nodup
theorem delI_sub (k : Int) : ∀ es : List En, (delI es k).Sublist es
  | [] => .slnil
  | e :: r => by
    simp only [delI]
    split
    · exact List.sublist_cons_self _ _
    · exact (delI_sub k r).cons_cons _
end Go.HL

namespace Go.HL.Es
open Go.HL
set_option maxRecDepth 4000
set_option linter.unusedSimpArgs false
set_option linter.unusedVariables false
/-- rows: a contract, its coins -/
abbrev Rw := Int × Int
def cns : List Rw → Int → Int
  | [], _ => 0
  | r :: t, k => if k = r.1 then r.2 else cns t k
def del (k : Int) (l : List Rw) : List Rw := l.filter fun r => decide (r.1 ≠ k)
def ins (k v : Int) : List Rw → List Rw
  | [] => [(k, v)]
  | r :: t => if k < r.1 then (k, v) :: r :: t else r :: ins k v t
def setR (k v : Int) (l : List Rw) : List Rw := if v = 0 then del k l else ins k v (del k l)
/-- by rising contracts; none of them with no coins -/
def RwOK (l : List Rw) : Prop := l.Pairwise (fun a b => a.1 < b.1) ∧ ∀ r ∈ l, 1 ≤ r.1 ∧ r.1 < 9223372036854775808 ∧ 0 < r.2

theorem ins_perm (k v : Int) : ∀ l : List Rw, (ins k v l).Perm ((k, v) :: l)
  | [] => .refl _
  | r :: t => by
    simp only [ins]
    split
    · exact .refl _
    · exact ((ins_perm k v t).cons r).trans (.swap _ _ _)
theorem ins_mem {k v : Int} {l : List Rw} {x : Rw} : x ∈ ins k v l ↔ x = (k, v) ∨ x ∈ l := by rw [(ins_perm k v l).mem_iff]; simp
theorem del_mem {k : Int} {l : List Rw} {x : Rw} : x ∈ del k l ↔ x ∈ l ∧ x.1 ≠ k := by simp [del]
theorem ins_sorted {k v : Int} : ∀ {l : List Rw}, l.Pairwise (fun a b => a.1 < b.1) → (∀ r ∈ l, r.1 ≠ k) → (ins k v l).Pairwise (fun a b => a.1 < b.1)
  | [], _, _ => by simp [ins]
  | r :: t, h, hk => by
    simp only [List.pairwise_cons] at h
    simp only [ins]
    split
    · rename_i hlt
      simp only [List.pairwise_cons, List.mem_cons]
      refine ⟨?_, h.1, h.2⟩
      rintro x (rfl | hx)
      · exact hlt
      · have := h.1 x hx; omega
    · rename_i hlt
      have hr := hk r (.head _)
      simp only [List.pairwise_cons]
      refine ⟨fun x hx => ?_, ins_sorted h.2 fun y hy => hk y (.tail _ hy)⟩
      rcases ins_mem.1 hx with rfl | hx
      · simp only; omega
      · exact h.1 x hx
theorem setR_ok {k v : Int} {l : List Rw} (h : RwOK l) (hk : 1 ≤ k ∧ k < 9223372036854775808) (hv : 0 ≤ v) : RwOK (setR k v l) := by
  have hd : (del k l).Pairwise (fun a b => a.1 < b.1) := h.1.filter _
  unfold setR
  split
  · exact ⟨hd, fun r hr => h.2 r (del_mem.1 hr).1⟩
  · refine ⟨ins_sorted hd fun r hr => (del_mem.1 hr).2, fun r hr => ?_⟩
    rcases ins_mem.1 hr with rfl | hr
    · exact ⟨hk.1, hk.2, by simp only; omega⟩
    · exact h.2 r (del_mem.1 hr).1
theorem cns_mem {l : List Rw} (h : l.Pairwise (fun a b => a.1 ≠ b.1)) {k v : Int} (hm : (k, v) ∈ l) : cns l k = v := by
  induction l with
  | nil => cases hm
  | cons r t ih =>
    simp only [List.pairwise_cons] at h
    simp only [cns]
    rcases List.mem_cons.1 hm with rfl | hm
    · simp
    · have := h.1 _ hm
      rw [if_neg (fun e => this e.symm)]
      exact ih h.2 hm
theorem cns_none {l : List Rw} {k : Int} (h : ∀ r ∈ l, r.1 ≠ k) : cns l k = 0 := by
  induction l with
  | nil => rfl
  | cons r t ih =>
    simp only [cns]
    rw [if_neg (fun e => h r (.head _) e.symm)]
    exact ih fun x hx => h x (.tail _ hx)
theorem RwOK.ne {l : List Rw} (h : RwOK l) : l.Pairwise (fun a b => a.1 ≠ b.1) := h.1.imp fun h => by omega
theorem cns_cases {l : List Rw} (k : Int) : (∃ v, (k, v) ∈ l) ∨ ∀ r ∈ l, r.1 ≠ k := by
  by_cases h : ∃ v, (k, v) ∈ l
  · exact .inl h
  · refine .inr fun r hr e => h ⟨r.2, ?_⟩
    subst e; exact hr
theorem cns_setR {k v : Int} {l : List Rw} (h : RwOK l) (hk : 1 ≤ k ∧ k < 9223372036854775808) (hv : 0 ≤ v) (j : Int) : cns (setR k v l) j = if j = k then v else cns l j := by
  have ok := setR_ok h hk hv
  by_cases e : j = k
  · subst e
    rw [if_pos rfl]
    by_cases hz : v = 0
    · rw [hz]
      refine cns_none fun r hr => ?_
      simp only [setR, if_true] at hr
      exact (del_mem.1 hr).2
    · refine cns_mem ok.ne ?_
      simp only [setR, hz, if_false]
      exact ins_mem.2 (.inl rfl)
  · rw [if_neg e]
    rcases cns_cases (l := l) j with ⟨u, hu⟩ | hn
    · rw [cns_mem h.ne hu]
      refine cns_mem ok.ne ?_
      have hd : (j, u) ∈ del k l := del_mem.2 ⟨hu, e⟩
      unfold setR
      split
      · exact hd
      · exact ins_mem.2 (.inr hd)
    · rw [cns_none hn]
      refine cns_none fun r hr => ?_
      unfold setR at hr
      split at hr
      · exact hn r (del_mem.1 hr).1
      · rcases ins_mem.1 hr with rfl | hr
        · exact fun h => e h.symm
        · exact hn r (del_mem.1 hr).1
theorem cns_nonneg {l : List Rw} (h : RwOK l) (k : Int) : 0 ≤ cns l k := by
  rcases cns_cases (l := l) k with ⟨u, hu⟩ | hn
  · rw [cns_mem h.ne hu]; have := (h.2 _ hu).2.2; simp only at this; omega
  · rw [cns_none hn]; exact Int.le_refl _

theorem RwOK.tail {r : Rw} {t : List Rw} (h : RwOK (r :: t)) : RwOK t := ⟨(List.pairwise_cons.1 h.1).2, fun x hx => h.2 x (.tail _ hx)⟩
theorem cns_head {r : Rw} {t : List Rw} : cns (r :: t) r.1 = r.2 := by simp [cns]
theorem cns_below {l : List Rw} {k : Int} (h : ∀ r ∈ l, k < r.1) : cns l k = 0 := cns_none fun r hr e => by have := h r hr; omega
/-- what is held says the rows -/
theorem rw_ext : ∀ {l l' : List Rw}, RwOK l → RwOK l' → (∀ k, cns l k = cns l' k) → l = l'
  | [], [], _, _, _ => rfl
  | [], r :: t, _, h', he => by
    have h1 := he r.1
    rw [cns_head] at h1
    have h2 := (h'.2 r (.head _)).2.2
    simp only [cns] at h1
    omega
  | r :: t, [], h, _, he => by
    have h1 := he r.1
    rw [cns_head] at h1
    have h2 := (h.2 r (.head _)).2.2
    simp only [cns] at h1
    omega
  | r :: t, r' :: t', h, h', he => by
    have s1 := (List.pairwise_cons.1 h.1).1
    have s2 := (List.pairwise_cons.1 h'.1).1
    have p1 := (h.2 r (.head _)).2.2
    have p2 := (h'.2 r' (.head _)).2.2
    have e1 : r.1 = r'.1 := by
      rcases Int.lt_trichotomy r.1 r'.1 with hlt | he' | hlt
      · have h1 := he r.1
        rw [cns_head, cns_below (fun x hx => by
          rcases List.mem_cons.1 hx with rfl | hx
          · exact hlt
          · have := s2 x hx; omega)] at h1
        omega
      · exact he'
      · have h1 := he r'.1
        rw [cns_head, cns_below (fun x hx => by
          rcases List.mem_cons.1 hx with rfl | hx
          · exact hlt
          · have := s1 x hx; omega)] at h1
        omega
    have e2 : r.2 = r'.2 := by
      have h1 := he r.1
      rw [cns_head, e1, cns_head] at h1
      exact h1
    have er : r = r' := Prod.ext e1 e2
    subst er
    congr 1
    refine rw_ext h.tail h'.tail fun k => ?_
    have h1 := he k
    simp only [cns] at h1
    by_cases hk : k = r.1
    · subst hk
      rw [cns_below s1, cns_below s2]
    · rw [if_neg hk, if_neg hk] at h1
      exact h1
/-- what was held is held again -/
theorem setR_back {k v : Int} {l : List Rw} (h : RwOK l) (hk : 1 ≤ k ∧ k < 9223372036854775808) (hv : 0 ≤ v) : setR k (cns l k) (setR k v l) = l := by
  have h1 := setR_ok h hk hv
  have h0 := cns_nonneg h k
  refine rw_ext (setR_ok h1 hk h0) h fun j => ?_
  rw [cns_setR h1 hk h0, cns_setR h hk hv]
  by_cases e : j = k
  · rw [if_pos e, e]
  · rw [if_neg e, if_neg e]

def prE (e : En) : Int × Value := (e.k, e.v)
def prR (r : Rw) : Int × Value := (r.1, .int .u64 r.2)
structure EH (es : List En) (c : Nat) (l : List Rw) : Prop where
  perm : (es.map prE).Perm (l.map prR)
  keys : (es.map (·.k)).Nodup
  borns : (es.map (·.b)).Nodup
  clock : ∀ e ∈ es, e.b < c

theorem get_mem {es : List En} (h : (es.map (·.k)).Nodup) {k : Int} {v : Value} (hm : (k, v) ∈ es.map prE) : getI es k = some v := by
  induction es with
  | nil => simp at hm
  | cons e t ih =>
    simp only [List.map_cons, List.nodup_cons] at h
    simp only [getI]
    simp only [List.map_cons, List.mem_cons] at hm
    rcases hm with hm | hm
    · simp only [prE, Prod.mk.injEq] at hm
      rw [if_pos hm.1, hm.2]
    · have : k ≠ e.k := by
        rintro rfl
        apply h.1
        obtain ⟨x, hx, hx2⟩ := List.mem_map.1 hm
        simp only [prE, Prod.mk.injEq] at hx2
        exact List.mem_map.2 ⟨x, hx, hx2.1⟩
      rw [if_neg this]
      exact ih h.2 hm
theorem get_none {es : List En} {k : Int} (h : ∀ e ∈ es, e.k ≠ k) : getI es k = none := by
  induction es with
  | nil => rfl
  | cons e t ih =>
    simp only [getI]
    rw [if_neg (fun x => h e (.head _) x.symm)]
    exact ih fun x hx => h x (.tail _ hx)
theorem EH.get {es : List En} {c : Nat} {l : List Rw} (h : EH es c l) (ok : RwOK l) (k : Int) : (getI es k).getD (.int .u64 0) = .int .u64 (cns l k) ∧ (getI es k = none ↔ ∀ r ∈ l, r.1 ≠ k) := by
  rcases cns_cases (l := l) k with ⟨u, hu⟩ | hn
  · have hm : (k, Value.int .u64 u) ∈ es.map prE := h.perm.mem_iff.2 (List.mem_map.2 ⟨_, hu, rfl⟩)
    rw [get_mem h.keys hm, cns_mem ok.ne hu]
    exact ⟨rfl, ⟨fun h => (by cases h), fun h => absurd rfl (h _ hu)⟩⟩
  · have : getI es k = none := get_none fun e he hk => by
      have : prE e ∈ l.map prR := h.perm.mem_iff.1 (List.mem_map.2 ⟨e, he, rfl⟩)
      obtain ⟨r, hr, hr2⟩ := List.mem_map.1 this
      simp only [prE, prR, Prod.mk.injEq] at hr2
      exact hn r hr (hr2.1.trans hk)
    rw [this, cns_none hn]
    exact ⟨rfl, by simpa using hn⟩
theorem delI_sub : ∀ (es : List En) (k : Int), (delI es k).Sublist es
  | [], _ => .slnil
  | e :: r, k => by
    simp only [delI]
    split
    · exact .cons _ (.refl _)
    · exact (delI_sub r k).cons_cons _
theorem delI_pr : ∀ {es : List En} {k : Int}, (es.map (·.k)).Nodup → (delI es k).map prE = (es.map prE).filter fun x => decide (x.1 ≠ k)
  | [], _, _ => rfl
  | e :: r, k, h => by
    simp only [List.map_cons, List.nodup_cons] at h
    simp only [delI, List.map_cons]
    by_cases hk : k = e.k
    · subst hk
      rw [if_pos rfl]
      rw [List.filter_cons_of_neg (by simp [prE])]
      refine (List.filter_eq_self.2 fun x hx => ?_).symm
      obtain ⟨y, hy, rfl⟩ := List.mem_map.1 hx
      exact decide_eq_true fun e => h.1 (List.mem_map.2 ⟨y, hy, e⟩)
    · rw [if_neg hk, List.filter_cons_of_pos (by simp [prE, Ne.symm hk]), List.map_cons, delI_pr h.2]
theorem setI_pr : ∀ {es : List En} {k : Int} {v u : Value}, (es.map (·.k)).Nodup → getI es k = some u → ((setI es k v).map prE).Perm ((k, v) :: (es.map prE).filter fun x => decide (x.1 ≠ k))
  | [], _, _, _, _, h => by cases h
  | e :: r, k, v, u, hn, h => by
    simp only [List.map_cons, List.nodup_cons] at hn
    simp only [getI] at h
    simp only [setI, List.map_cons]
    by_cases hk : k = e.k
    · subst hk
      rw [if_pos rfl, List.filter_cons_of_neg (by simp [prE]), List.map_cons]
      rw [List.filter_eq_self.2 fun x hx => by
        obtain ⟨y, hy, rfl⟩ := List.mem_map.1 hx
        exact decide_eq_true fun e => hn.1 (List.mem_map.2 ⟨y, hy, e⟩)]
      exact .refl _
    · rw [if_neg hk] at h ⊢
      rw [List.filter_cons_of_pos (by simp [prE, Ne.symm hk]), List.map_cons]
      exact ((setI_pr hn.2 h).cons _).trans (.swap _ _ _)
theorem setI_keys : ∀ (es : List En) (k : Int) (v : Value), (setI es k v).map (·.k) = es.map (·.k)
  | [], _, _ => rfl
  | e :: r, k, v => by
    simp only [setI]
    split
    · rfl
    · simp only [List.map_cons, setI_keys r k v]
theorem setI_borns : ∀ (es : List En) (k : Int) (v : Value), (setI es k v).map (·.b) = es.map (·.b)
  | [], _, _ => rfl
  | e :: r, k, v => by
    simp only [setI]
    split
    · rfl
    · simp only [List.map_cons, setI_borns r k v]
theorem filter_pr (k : Int) (l : List Rw) : (l.map prR).filter (fun x => decide (x.1 ≠ k)) = (del k l).map prR := by
  simp only [del, List.filter_map]
  rfl
theorem EH.del {es : List En} {c : Nat} {l : List Rw} (h : EH es c l) (k : Int) : EH (delI es k) c (Es.del k l) where
  perm := by
    rw [delI_pr h.keys, ← filter_pr]
    exact h.perm.filter _
  keys := h.keys.sublist ((delI_sub es k).map _)
  borns := h.borns.sublist ((delI_sub es k).map _)
  clock := fun e he => h.clock e ((delI_sub es k).subset he)
theorem EH.put {es : List En} {c : Nat} {l : List Rw} (h : EH es c l) {k v : Int} (hn : getI es k = none) (hl : ∀ r ∈ l, r.1 ≠ k) : EH (es ++ [⟨k, .int .u64 v, c⟩]) (c + 1) (ins k v (Es.del k l)) where
  perm := by
    have hd : Es.del k l = l := List.filter_eq_self.2 fun r hr => by simpa using hl r hr
    rw [hd, List.map_append]
    refine (List.perm_append_comm).trans ?_
    refine .trans ?_ ((ins_perm k v l).map prR).symm
    exact h.perm.cons _
  keys := by
    rw [List.map_append, List.nodup_append]
    refine ⟨h.keys, by simp, ?_⟩
    intro a ha b hb
    simp only [List.map_cons, List.map_nil, List.mem_singleton] at hb
    subst hb
    rintro rfl
    obtain ⟨e, he, he2⟩ := List.mem_map.1 ha
    have : prE e ∈ l.map prR := h.perm.mem_iff.1 (List.mem_map.2 ⟨e, he, rfl⟩)
    obtain ⟨r, hr, hr2⟩ := List.mem_map.1 this
    simp only [prE, prR, Prod.mk.injEq] at hr2
    exact hl r hr (hr2.1.trans he2)
  borns := by
    rw [List.map_append, List.nodup_append]
    refine ⟨h.borns, by simp, ?_⟩
    intro a ha b hb
    simp only [List.map_cons, List.map_nil, List.mem_singleton] at hb
    subst hb
    rintro rfl
    obtain ⟨e, he, he2⟩ := List.mem_map.1 ha
    have := h.clock e he
    omega
  clock := by
    intro e he
    rcases List.mem_append.1 he with he | he
    · have := h.clock e he; omega
    · simp only [List.mem_singleton] at he; subst he; simp
theorem EH.upd {es : List En} {c : Nat} {l : List Rw} (h : EH es c l) {k v : Int} {u : Value} (hn : getI es k = some u) : EH (setI es k (.int .u64 v)) c (ins k v (Es.del k l)) where
  perm := by
    refine (setI_pr h.keys hn).trans ?_
    refine .trans ?_ ((ins_perm k v (Es.del k l)).map prR).symm
    rw [List.map_cons, ← filter_pr]
    exact (h.perm.filter _).cons _
  keys := by rw [setI_keys]; exact h.keys
  borns := by rw [setI_borns]; exact h.borns
  clock := by
    intro e he
    have : e.b ∈ es.map (·.b) := by rw [← setI_borns es k (.int .u64 v)]; exact List.mem_map.2 ⟨e, he, rfl⟩
    obtain ⟨e', he', h2⟩ := List.mem_map.1 this
    have := h.clock e' he'
    omega
/-- the map in memory -/
def hmap (m : Nat) (l : List Rw) : Asn := fun h => ∃ es c, EH es c l ∧ imap m es c h
theorem hmap_open {w0 w : World} {A : Asn} {m : Nat} {l : List Rw} (s : St w0 (A * hmap m l) w) : ∃ es c, EH es c l ∧ St w0 (A * imap m es c) w := by
  obtain ⟨g, h1, h2, h3, d, e, a, es, c, hE, b⟩ := s.holds
  exact ⟨es, c, hE, s.of ⟨g, h1, h2, h3, d, e, a, b⟩⟩
theorem hmap_close {w0 w : World} {A : Asn} {m : Nat} {l : List Rw} {es : List En} {c : Nat} (hE : EH es c l) (s : St w0 (A * imap m es c) w) : St w0 (A * hmap m l) w := by
  obtain ⟨g, h1, h2, h3, d, e, a, b⟩ := s.holds
  exact s.of ⟨g, h1, h2, h3, d, e, a, es, c, hE, b⟩
end Go.HL.Es

namespace Go.HL.Nm
open Go.HL
set_option maxRecDepth 4000
set_option linter.unusedSimpArgs false
set_option linter.unusedVariables false

def tailF : List UInt8 → Nat → Int → Option Int
  | _, 0, v => some v
  | [], _ + 1, _ => none
  | b :: r, n + 1, v => if (b.toNat : Int) < 128 ∨ 191 < (b.toNat : Int) then none else tailF r n (v * 64 + b.toNat - 128)
def chkF (b : Int) (r : List UInt8) (v : Int) (n : Nat) (least : Int) : Int × Nat :=
  match tailF r n v with
  | some v => if v < least ∨ 1114111 < v ∨ (55296 ≤ v ∧ v ≤ 57343) then (2097152 + b, 1) else (v, 1 + n)
  | none => (2097152 + b, 1)
/-- the unit at a text's head, and how many bytes it has -/
def oneF : List UInt8 → Int × Nat
  | [] => (0, 1)
  | c :: r =>
    if (c.toNat : Int) < 128 then ((c.toNat : Int), 1)
    else if 192 ≤ (c.toNat : Int) ∧ (c.toNat : Int) < 224 then chkF c.toNat r (c.toNat - 192) 1 128
    else if 224 ≤ (c.toNat : Int) ∧ (c.toNat : Int) < 240 then chkF c.toNat r (c.toNat - 224) 2 2048
    else if 240 ≤ (c.toNat : Int) ∧ (c.toNat : Int) < 248 then chkF c.toNat r (c.toNat - 240) 3 65536
    else (2097152 + c.toNat, 1)

theorem oneF_cons (c : UInt8) (r : List UInt8) : oneF (c :: r) =
    if (c.toNat : Int) < 128 then ((c.toNat : Int), 1)
    else if 192 ≤ (c.toNat : Int) ∧ (c.toNat : Int) < 224 then chkF c.toNat r (c.toNat - 192) 1 128
    else if 224 ≤ (c.toNat : Int) ∧ (c.toNat : Int) < 240 then chkF c.toNat r (c.toNat - 224) 2 2048
    else if 240 ≤ (c.toNat : Int) ∧ (c.toNat : Int) < 248 then chkF c.toNat r (c.toNat - 240) 3 65536
    else (2097152 + c.toNat, 1) := rfl
theorem tailF_bd (n : Nat) : ∀ (r : List UInt8) (v u : Int), 0 ≤ v → tailF r n v = some u → 0 ≤ u ∧ n ≤ r.length := by
  induction n with
  | zero => intro r v u hv h; cases r <;> simp only [tailF, Option.some.injEq] at h <;> subst h <;> exact ⟨hv, Nat.zero_le _⟩
  | succ n ih =>
    intro r v u hv h
    cases r with
    | nil => simp only [tailF] at h; cases h
    | cons b r =>
      simp only [tailF] at h
      split at h
      · cases h
      · have := ih r _ u (by have := b.toNat_lt; omega) h
        simp only [List.length_cons]; omega
theorem chkF_bd (b : Int) (r : List UInt8) (v : Int) (n : Nat) (least : Int) (hb : 0 ≤ b ∧ b < 256) (hv : 0 ≤ v) :
    0 ≤ (chkF b r v n least).1 ∧ (chkF b r v n least).1 < 2097408 ∧ 1 ≤ (chkF b r v n least).2 ∧ (chkF b r v n least).2 ≤ 1 + r.length := by
  unfold chkF
  split
  · rename_i u hu
    have := tailF_bd n r v u hv hu
    split
    · simp only; omega
    · simp only; omega
  · simp only; omega
theorem oneF_bd {l : List UInt8} (h : l ≠ []) : 0 ≤ (oneF l).1 ∧ (oneF l).1 < 2097408 ∧ 1 ≤ (oneF l).2 ∧ (oneF l).2 ≤ l.length := by
  cases l with
  | nil => exact absurd rfl h
  | cons c r =>
    have hc := c.toNat_lt
    unfold oneF
    simp only [List.length_cons]
    split
    · simp only; omega
    split
    · have := chkF_bd c.toNat r (c.toNat - 192) 1 128 (by omega) (by omega); omega
    split
    · have := chkF_bd c.toNat r (c.toNat - 224) 2 2048 (by omega) (by omega); omega
    split
    · have := chkF_bd c.toNat r (c.toNat - 240) 3 65536 (by omega) (by omega); omega
    · simp only; omega

theorem get_mk (l : List UInt8) (i : Nat) : (mk l).get! i = l.getD i 0 := by
  simp only [mk, ByteArray.get!, List.getD_eq_getElem?_getD]
  simp
  rfl
/-- the model's decoder, over lists -/
def decL (d : List UInt8) : Nat × Nat :=
  let at' (k : Nat) : Nat := (d.getD k 0).toNat
  let cont (k : Nat) : Bool := k < d.length && at' k / 64 == 2
  let b0 := at' 0
  if b0 < 0x80 then (b0, 1)
  else if b0 / 32 == 6 && cont 1 then
    let c := (b0 % 32) * 64 + at' 1 % 64
    if c ≥ 0x80 then (c, 2) else (65533, 1)
  else if b0 / 16 == 14 && cont 1 && cont 2 then
    let c := (b0 % 16) * 4096 + (at' 1 % 64) * 64 + at' 2 % 64
    if c ≥ 0x800 && Utf8.valid c then (c, 3) else (65533, 1)
  else if b0 / 8 == 30 && cont 1 && cont 2 && cont 3 then
    let c := (b0 % 8) * 262144 + (at' 1 % 64) * 4096 + (at' 2 % 64) * 64 + at' 3 % 64
    if c ≥ 0x10000 && Utf8.valid c then (c, 4) else (65533, 1)
  else (65533, 1)
theorem decode_decL (l : List UInt8) (i : Nat) : Utf8.decode (mk l) i = decL (l.drop i) := by
  have e : ∀ k, (l.drop i).getD k 0 = l.getD (i + k) 0 := by intro k; simp [List.getD_eq_getElem?_getD, List.getElem?_drop]
  have e2 : ∀ k, decide (i + k < (mk l).size) = decide (k < (l.drop i).length) := by intro k; simp; omega
  unfold Utf8.decode decL
  simp only [get_mk, e, e2, Utf8.runeError]

def runeOf (u : Int) : Nat := if 2097152 ≤ u then 65533 else u.toNat

theorem valid_iff (c : Nat) : Utf8.valid (c : Int) = decide (¬ (1114111 < c ∨ (55296 ≤ c ∧ c ≤ 57343))) := by
  rw [Bool.eq_iff_iff]
  simp only [Utf8.valid, Bool.or_eq_true, Bool.and_eq_true, decide_eq_true_eq]
  omega

/-- three kinds of head bytes -/
theorem one2 (b b1 : Nat) (hb : 192 ≤ b ∧ b < 224) (h1 : 128 ≤ b1 ∧ b1 ≤ 191) : ((b : Int) - 192) * 64 + b1 - 128 = (((b % 32) * 64 + b1 % 64 : Nat) : Int) := by omega
theorem one3 (b b1 b2 : Nat) (hb : 224 ≤ b ∧ b < 240) (h1 : 128 ≤ b1 ∧ b1 ≤ 191) (h2 : 128 ≤ b2 ∧ b2 ≤ 191) :
    (((b : Int) - 224) * 64 + b1 - 128) * 64 + b2 - 128 = (((b % 16) * 4096 + (b1 % 64) * 64 + b2 % 64 : Nat) : Int) := by omega
theorem one4 (b b1 b2 b3 : Nat) (hb : 240 ≤ b ∧ b < 248) (h1 : 128 ≤ b1 ∧ b1 ≤ 191) (h2 : 128 ≤ b2 ∧ b2 ≤ 191) (h3 : 128 ≤ b3 ∧ b3 ≤ 191) :
    ((((b : Int) - 240) * 64 + b1 - 128) * 64 + b2 - 128) * 64 + b3 - 128 = (((b % 8) * 262144 + (b1 % 64) * 4096 + (b2 % 64) * 64 + b3 % 64 : Nat) : Int) := by omega

/-- the tail of so many bytes, as_ the decoder looks at them -/
def contAt (r : List UInt8) (k : Nat) : Bool := decide (k < r.length) && (r.getD k 0).toNat / 64 == 2
theorem tailF_cons (r : List UInt8) (n : Nat) (v : Int) : tailF r (n + 1) v = if contAt r 0 = true then tailF r.tail n (v * 64 + (r.getD 0 0).toNat - 128) else none := by
  cases r with
  | nil => simp [tailF, contAt]
  | cons b r =>
    have hb := b.toNat_lt
    simp only [tailF, contAt, List.length_cons, List.getD_cons_zero, List.tail_cons]
    by_cases h : (b.toNat : Int) < 128 ∨ 191 < (b.toNat : Int)
    · rw [if_pos h, if_neg]; simp; omega
    · rw [if_neg h, if_pos]; simp; omega
theorem contAt_tail (r : List UInt8) (k : Nat) : contAt r.tail k = contAt r (k + 1) := by
  cases r <;> simp [contAt] <;> rfl
theorem getD_tail (r : List UInt8) (k : Nat) : r.tail.getD k 0 = r.getD (k + 1) 0 := by cases r <;> simp
theorem cont_bd {r : List UInt8} {k : Nat} (h : contAt r k = true) : 128 ≤ (r.getD k 0).toNat ∧ (r.getD k 0).toNat ≤ 191 := by
  simp only [contAt, Bool.and_eq_true, beq_iff_eq] at h
  omega
theorem tailF_zero (r : List UInt8) (v : Int) : tailF r 0 v = some v := by cases r <;> rfl
theorem decL_oneF (d : List UInt8) (h : d ≠ []) : decL d = (runeOf (oneF d).1, (oneF d).2) := by
  cases d with
  | nil => exact absurd rfl h
  | cons c r =>
    have hc := c.toNat_lt
    have hcont : ∀ k, (decide (k + 1 < (c :: r).length) && ((c :: r).getD (k + 1) 0).toNat / 64 == 2) = contAt r k := by
      intro k; simp [contAt]
    have e0 := hcont 0; have e1 := hcont 1; have e2 := hcont 2
    simp only [Nat.zero_add, Nat.reduceAdd] at e0 e1 e2
    have g0 : (c :: r).getD 0 0 = c := rfl
    have g1 : (c :: r).getD 1 0 = r.getD 0 0 := rfl
    have g2 : (c :: r).getD 2 0 = r.getD 1 0 := rfl
    have g3 : (c :: r).getD 3 0 = r.getD 2 0 := rfl
    unfold decL oneF
    simp only [e0, e1, e2, g0]
    by_cases h0 : c.toNat < 128
    · have hI : (c.toNat : Int) < 128 := by omega
      have hn : ¬ (2097152 : Int) ≤ (c.toNat : Int) := by omega
      rw [if_pos h0, if_pos hI]
      simp only [runeOf]
      rw [if_neg hn]; simp
    have hI : ¬ (c.toNat : Int) < 128 := by omega
    rw [if_neg h0, if_neg hI]
    have hbad : runeOf (2097152 + (c.toNat : Int)) = 65533 := by unfold runeOf; rw [if_pos (by omega)]
    have hgood : ∀ n : Nat, n ≤ 1114111 → runeOf (n : Int) = n := by intro n hn; unfold runeOf; rw [if_neg (show ¬ (2097152 : Int) ≤ (n : Int) by omega)]; simp
    by_cases k2 : 192 ≤ (c.toNat : Int) ∧ (c.toNat : Int) < 224
    · have t1 : (c.toNat / 32 == 6) = true := by simp; omega
      have t2 : (c.toNat / 16 == 14) = false := by simp; omega
      have t3 : (c.toNat / 8 == 30) = false := by simp; omega
      rw [if_pos k2]
      simp only [t1, t2, t3, Bool.true_and, Bool.false_and, Bool.false_eq_true, if_false]
      unfold chkF
      rw [tailF_cons, tailF_zero]
      cases hc0 : contAt r 0
      · simp [hbad]
      · have b1 := cont_bd hc0
        simp only [if_true]
        rw [one2 c.toNat (r.getD 0 0).toNat (by omega) b1]
        rw [g1]
        generalize hv : (c.toNat % 32) * 64 + (r.getD 0 0).toNat % 64 = v
        have hv2 : v < 2048 := by omega
        by_cases hl : v ≥ 128
        · have q : ¬ ((v : Int) < 128 ∨ 1114111 < (v : Int) ∨ (55296 ≤ (v : Int) ∧ (v : Int) ≤ 57343)) := by omega
          rw [if_pos hl, if_neg q]
          simp only [hgood v (by omega)]
        · have q : ((v : Int) < 128 ∨ 1114111 < (v : Int) ∨ (55296 ≤ (v : Int) ∧ (v : Int) ≤ 57343)) := by omega
          rw [if_neg hl, if_pos q]
          simp only [hbad]
    rw [if_neg k2]
    have t1 : (c.toNat / 32 == 6) = false := by simp; omega
    by_cases k3 : 224 ≤ (c.toNat : Int) ∧ (c.toNat : Int) < 240
    · have t2 : (c.toNat / 16 == 14) = true := by simp; omega
      have t3 : (c.toNat / 8 == 30) = false := by simp; omega
      rw [if_pos k3]
      simp only [t1, t2, t3, Bool.true_and, Bool.false_and, Bool.false_eq_true, if_false]
      unfold chkF
      rw [tailF_cons]
      cases hc0 : contAt r 0
      · simp [hbad]
      · have b1 := cont_bd hc0
        simp only [if_true]
        rw [tailF_cons, contAt_tail, tailF_zero, getD_tail]
        cases hc1 : contAt r 1
        · simp [hbad]
        · have b2 := cont_bd hc1
          simp only [Bool.and_self, if_true, Nat.zero_add, hc1]
          rw [one3 c.toNat (r.getD 0 0).toNat (r.getD 1 0).toNat (by omega) b1 b2]
          rw [g1, g2]
          generalize hv : (c.toNat % 16) * 4096 + ((r.getD 0 0).toNat % 64) * 64 + (r.getD 1 0).toNat % 64 = v
          rw [valid_iff]
          by_cases hl : 2048 ≤ v ∧ ¬ (1114111 < v ∨ (55296 ≤ v ∧ v ≤ 57343))
          · have q : ¬ ((v : Int) < 2048 ∨ 1114111 < (v : Int) ∨ (55296 ≤ (v : Int) ∧ (v : Int) ≤ 57343)) := by omega
            have q2 : (decide (v ≥ 2048) && decide (¬ (1114111 < v ∨ (55296 ≤ v ∧ v ≤ 57343)))) = true := by simp only [Bool.and_eq_true, decide_eq_true_eq]; exact ⟨hl.1, hl.2⟩
            rw [if_pos q2, if_neg q]
            simp only [hgood v (by omega)]
          · have q : ((v : Int) < 2048 ∨ 1114111 < (v : Int) ∨ (55296 ≤ (v : Int) ∧ (v : Int) ≤ 57343)) := by omega
            have q2 : ¬ (decide (v ≥ 2048) && decide (¬ (1114111 < v ∨ (55296 ≤ v ∧ v ≤ 57343)))) = true := by simp only [Bool.and_eq_true, decide_eq_true_eq]; exact hl
            rw [if_neg q2, if_pos q]
            simp only [hbad]
    rw [if_neg k3]
    have t2 : (c.toNat / 16 == 14) = false := by simp; omega
    by_cases k4 : 240 ≤ (c.toNat : Int) ∧ (c.toNat : Int) < 248
    · have t3 : (c.toNat / 8 == 30) = true := by simp; omega
      rw [if_pos k4]
      simp only [t1, t2, t3, Bool.true_and, Bool.false_and, Bool.false_eq_true, if_false]
      unfold chkF
      rw [tailF_cons]
      cases hc0 : contAt r 0
      · simp [hbad]
      · have b1 := cont_bd hc0
        simp only [if_true]
        rw [tailF_cons, contAt_tail, getD_tail]
        cases hc1 : contAt r 1
        · simp [hbad]
        · have b2 := cont_bd hc1
          simp only [Bool.and_self, if_true, Nat.zero_add, hc1]
          rw [tailF_cons, contAt_tail, contAt_tail, tailF_zero, getD_tail, getD_tail]
          cases hc2 : contAt r 2
          · simp [hbad]
          · have b3 := cont_bd hc2
            simp only [Bool.and_self, if_true, Nat.zero_add, Nat.reduceAdd, hc2]
            rw [one4 c.toNat (r.getD 0 0).toNat (r.getD 1 0).toNat (r.getD 2 0).toNat (by omega) b1 b2 b3]
            rw [g1, g2, g3]
            generalize hv : (c.toNat % 8) * 262144 + ((r.getD 0 0).toNat % 64) * 4096 + ((r.getD 1 0).toNat % 64) * 64 + (r.getD 2 0).toNat % 64 = v
            rw [valid_iff]
            by_cases hl : 65536 ≤ v ∧ ¬ (1114111 < v ∨ (55296 ≤ v ∧ v ≤ 57343))
            · have q : ¬ ((v : Int) < 65536 ∨ 1114111 < (v : Int) ∨ (55296 ≤ (v : Int) ∧ (v : Int) ≤ 57343)) := by omega
              have q2 : (decide (v ≥ 65536) && decide (¬ (1114111 < v ∨ (55296 ≤ v ∧ v ≤ 57343)))) = true := by simp only [Bool.and_eq_true, decide_eq_true_eq]; exact ⟨hl.1, hl.2⟩
              rw [if_pos q2, if_neg q]
              simp only [hgood v (by omega)]
            · have q : ((v : Int) < 65536 ∨ 1114111 < (v : Int) ∨ (55296 ≤ (v : Int) ∧ (v : Int) ≤ 57343)) := by omega
              have q2 : ¬ (decide (v ≥ 65536) && decide (¬ (1114111 < v ∨ (55296 ≤ v ∧ v ≤ 57343)))) = true := by simp only [Bool.and_eq_true, decide_eq_true_eq]; exact hl
              rw [if_neg q2, if_pos q]
              simp only [hbad]
    rw [if_neg k4]
    have t3 : (c.toNat / 8 == 30) = false := by simp; omega
    simp only [t1, t2, t3, Bool.false_and, Bool.false_eq_true, if_false, hbad]

/-- the units of a text, each with its width -/
def unitsN : Nat → List UInt8 → List (Int × Nat)
  | 0, _ => []
  | _ + 1, [] => []
  | n + 1, c :: r => oneF (c :: r) :: unitsN n ((c :: r).drop (oneF (c :: r)).2)
def units (l : List UInt8) : List (Int × Nat) := unitsN l.length l
theorem unitsN_nil (n : Nat) : unitsN n [] = [] := by cases n <;> rfl
theorem unitsN_eq (n : Nat) : ∀ l : List UInt8, l.length ≤ n → unitsN n l = unitsN l.length l := by
  induction n using Nat.strongRecOn with
  | _ n ih =>
    intro l hl
    cases l with
    | nil => simp [unitsN_nil]
    | cons c r =>
      have hb := oneF_bd (l := c :: r) (by simp)
      cases n with
      | zero => simp at hl
      | succ n =>
        simp only [List.length_cons, unitsN, List.cons.injEq, true_and] at hl hb ⊢
        have hd : ((c :: r).drop (oneF (c :: r)).2).length ≤ r.length := by simp only [List.length_drop, List.length_cons]; omega
        rw [ih n (by omega) _ (by omega)]
        by_cases hn : r.length < n + 1
        · rw [ih r.length hn _ hd]
        · omega
theorem units_nil : units [] = [] := rfl
theorem units_cons {l : List UInt8} (h : l ≠ []) : units l = oneF l :: units (l.drop (oneF l).2) := by
  cases l with
  | nil => exact absurd rfl h
  | cons c r =>
    have hb := oneF_bd (l := c :: r) (by simp)
    have hd : ((c :: r).drop (oneF (c :: r)).2).length ≤ r.length := by simp only [List.length_drop, List.length_cons]; omega
    show unitsN (r.length + 1) (c :: r) = _
    simp only [unitsN, units]
    rw [unitsN_eq r.length _ hd]
theorem units_len (l : List UInt8) : (units l).length ≤ l.length := by
  unfold units
  generalize hn : l.length = n
  induction n using Nat.strongRecOn generalizing l with
  | _ n ih =>
    cases l with
    | nil => subst hn; simp [unitsN]
    | cons c r =>
      have hb := oneF_bd (l := c :: r) (by simp)
      simp only [List.length_cons] at hn hb
      subst hn
      simp only [unitsN, List.length_cons]
      have hd : ((c :: r).drop (oneF (c :: r)).2).length ≤ r.length := by simp only [List.length_drop, List.length_cons]; omega
      rw [unitsN_eq r.length _ hd]
      have := ih _ (show ((c :: r).drop (oneF (c :: r)).2).length < r.length + 1 by omega) _ rfl
      omega

/-- the places at which units begin -/
def starts : Nat → List (Int × Nat) → List Nat
  | _, [] => []
  | p, u :: r => p :: starts (p + u.2) r
def sumW : List (Int × Nat) → Nat
  | [] => 0
  | u :: r => u.2 + sumW r
theorem sumW_append (a b : List (Int × Nat)) : sumW (a ++ b) = sumW a + sumW b := by
  induction a with
  | nil => simp [sumW]
  | cons u a ih => simp [sumW, ih, Nat.add_assoc]
/-- one unit on -/
theorem units_step {l : List UInt8} {done : List (Int × Nat)} {i : Nat} (h : units l = done ++ units (l.drop i)) (hi : i < l.length) :
    units l = (done ++ [oneF (l.drop i)]) ++ units (l.drop (i + (oneF (l.drop i)).2)) := by
  rw [h, units_cons (l := l.drop i) (by simp; omega), List.drop_drop]
  simp
theorem oneF_le {l : List UInt8} {i : Nat} (hi : i < l.length) : i + (oneF (l.drop i)).2 ≤ l.length ∧ 1 ≤ (oneF (l.drop i)).2 := by
  have := oneF_bd (l := l.drop i) (by simp; omega)
  simp only [List.length_drop] at this
  omega
theorem sumW_units (l : List UInt8) : sumW (units l) = l.length := by
  unfold units
  generalize hn : l.length = n
  induction n using Nat.strongRecOn generalizing l with
  | _ n ih =>
    cases l with
    | nil => subst hn; simp [unitsN, sumW]
    | cons c r =>
      have hb := oneF_bd (l := c :: r) (by simp)
      simp only [List.length_cons] at hn hb
      subst hn
      simp only [unitsN, sumW]
      have hd : ((c :: r).drop (oneF (c :: r)).2).length ≤ r.length := by simp only [List.length_drop, List.length_cons]; omega
      rw [unitsN_eq r.length _ hd]
      have := ih _ (show ((c :: r).drop (oneF (c :: r)).2).length < r.length + 1 by omega) _ rfl
      rw [this]
      simp only [List.length_drop, List.length_cons]; omega

theorem chkF_or (b : Int) (r : List UInt8) (v : Int) (n : Nat) (least : Int) : chkF b r v n least = (2097152 + b, 1) ∨
    ∃ u, tailF r n v = some u ∧ least ≤ u ∧ u ≤ 1114111 ∧ ¬ (55296 ≤ u ∧ u ≤ 57343) ∧ chkF b r v n least = (u, 1 + n) := by
  unfold chkF
  cases tailF r n v with
  | none => exact .inl rfl
  | some u =>
    by_cases h : u < least ∨ 1114111 < u ∨ (55296 ≤ u ∧ u ≤ 57343)
    · exact .inl (by simp only [if_pos h])
    · exact .inr ⟨u, rfl, by omega, by omega, by omega, by simp only [if_neg h]⟩
theorem tailF_lt : ∀ (n : Nat) (r : List UInt8) (v u M : Int), v < M → tailF r n v = some u → u < M * 64 ^ n := by
  intro n
  induction n with
  | zero => intro r v u M hv h; rw [tailF_zero] at h; cases h; simpa using hv
  | succ n ih =>
    intro r v u M hv h
    rw [tailF_cons] at h
    split at h
    · rename_i hc
      have hb := cont_bd hc
      have := ih _ _ u (M * 64) (by omega) h
      rw [Int.pow_succ]
      have e : M * (64 ^ n * 64) = M * 64 * 64 ^ n := by rw [Int.mul_assoc, Int.mul_comm 64]
      omega
    · cases h
theorem oneF_bad (c : UInt8) (r : List UInt8) (h : 2097152 ≤ (oneF (c :: r)).1) : (oneF (c :: r)).1 = 2097152 + c.toNat := by
  have hc := c.toNat_lt
  rw [oneF_cons] at h ⊢
  have key : ∀ v n least, 2097152 ≤ (chkF c.toNat r v n least).1 → (chkF c.toNat r v n least).1 = 2097152 + c.toNat := by
    intro v n least hh
    rcases chkF_or c.toNat r v n least with e | ⟨u, _, _, h3, _, e⟩
    · rw [e]
    · rw [e] at hh; simp only at hh; omega
  split at h
  · simp only at h; omega
  rename_i h1
  split at h
  · rename_i h2; rw [if_neg h1, if_pos h2]; exact key _ _ _ h
  rename_i h2
  split at h
  · rename_i h3; rw [if_neg h1, if_neg h2, if_pos h3]; exact key _ _ _ h
  rename_i h3
  split at h
  · rename_i h4; rw [if_neg h1, if_neg h2, if_neg h3, if_pos h4]; exact key _ _ _ h
  rename_i h4
  rw [if_neg h1, if_neg h2, if_neg h3, if_neg h4]
theorem oneF_fffd (d : List UInt8) (hd : d ≠ []) : (oneF d).1 = 65533 ↔ [239, 191, 189].isPrefixOf d = true := by
  constructor
  · intro h
    cases d with
    | nil => exact absurd rfl hd
    | cons c r =>
      have hc := c.toNat_lt
      rw [oneF_cons] at h
      split at h
      · simp only at h; omega
      split at h
      · rcases chkF_or c.toNat r (c.toNat - 192) 1 128 with e | ⟨u, h1, h2, h3, h4, e⟩
        · rw [e] at h; simp only at h; omega
        · have := tailF_lt 1 r _ u 32 (by omega) h1
          rw [e] at h; simp only at h; omega
      split at h
      · rcases chkF_or c.toNat r (c.toNat - 224) 2 2048 with e | ⟨u, h1, h2, h3, h4, e⟩
        · rw [e] at h; simp only at h; omega
        · rw [e] at h; simp only at h; subst h
          rw [tailF_cons] at h1
          split at h1
          · rename_i c0
            rw [tailF_cons, tailF_zero] at h1
            split at h1
            · rename_i c1
              have b0 := cont_bd c0
              have b1 := cont_bd c1
              simp only [Option.some.injEq] at h1
              cases r with
              | nil => simp [contAt] at c0
              | cons x r =>
                cases r with
                | nil => simp [contAt] at c1
                | cons y r =>
                  simp only [List.getD_cons_zero, List.tail_cons] at b0 b1 h1
                  have e1 : c.toNat = 239 ∧ x.toNat = 191 ∧ y.toNat = 189 := by omega
                  have f1 : c = 239 := UInt8.toNat_inj.1 e1.1
                  have f2 : x = 191 := UInt8.toNat_inj.1 e1.2.1
                  have f3 : y = 189 := UInt8.toNat_inj.1 e1.2.2
                  subst f1; subst f2; subst f3
                  simp
            · cases h1
          · cases h1
      split at h
      · rcases chkF_or c.toNat r (c.toNat - 240) 3 65536 with e | ⟨u, h1, h2, h3, h4, e⟩
        · rw [e] at h; simp only at h; omega
        · rw [e] at h; simp only at h; omega
      · simp only at h; omega
  · intro h
    rw [List.isPrefixOf_iff_prefix] at h
    obtain ⟨t, rfl⟩ := h
    show (oneF (239 :: 191 :: 189 :: t)).1 = 65533
    rw [oneF_cons]
    simp [chkF, tailF]
/-- what the decoder tells, and the bytes, give the unit -/
theorem unit_of {d : List UInt8} (hd : d ≠ []) : (if runeOf (oneF d).1 = 65533 ∧ [239, 191, 189].isPrefixOf d = false then 2097152 + ((d.headD 0).toNat : Int) else (runeOf (oneF d).1 : Int)) = (oneF d).1 := by
  have hb := oneF_bd hd
  by_cases h : 2097152 ≤ (oneF d).1
  · have hp : [239, 191, 189].isPrefixOf d = false := by
      cases hh : [239, 191, 189].isPrefixOf d with
      | false => rfl
      | true => have := (oneF_fffd d hd).2 hh; omega
    rw [if_pos ⟨by unfold runeOf; rw [if_pos h], hp⟩]
    cases d with
    | nil => exact absurd rfl hd
    | cons c r => rw [oneF_bad c r h]; rfl
  · have hr : (runeOf (oneF d).1 : Int) = (oneF d).1 := by unfold runeOf; rw [if_neg h]; omega
    rw [if_neg]
    · exact hr
    · rintro ⟨h1, h2⟩
      have : (oneF d).1 = 65533 := by omega
      rw [(oneF_fffd d hd).1 this] at h2
      cases h2
end Go.HL.Nm

namespace Go.HL.Nm
open Go.HL Go.Proofs
set_option maxRecDepth 4000
set_option linter.unusedSimpArgs false
set_option linter.unusedVariables false
noncomputable abbrev F0 : PF Try.prog := PF.none _
-- bazaar/name.joiner
def h72_0 : HC := (.seq (.reg (.chk none (.bin .eql) (.cons (.inp 0) (.cons (.cst (.int .i32 32)) .nil)) (.bnd (.op (.bin .eql) (.cons (.inp 0) (.cons (.cst (.int .i32 32)) .nil))) (.chk (some ((.bv 0), false)) (.bin .eql) (.cons (.inp 0) (.cons (.cst (.int .i32 45)) .nil)) (.isb none (.bv 0) (.bnd (.ite (.bv 0) true (.cst (.bool true)) (.op (.bin .eql) (.cons (.inp 0) (.cons (.cst (.int .i32 45)) .nil)))) (.chk (some ((.bv 1), false)) (.bin .eql) (.cons (.inp 0) (.cons (.cst (.int .i32 95)) .nil)) (.isb none (.bv 1) (.done [(1, (.ite (.bv 1) true (.cst (.bool true)) (.op (.bin .eql) (.cons (.inp 0) (.cons (.cst (.int .i32 95)) .nil)))))] none))))))))) .ret)
@[simp] theorem h72_0_wp {P : Program} {F : PF P} {Q : EX → List Value → World → Prop} {env : List Value} {w : World} : h72_0.wp F Q env w = HC.wp F (.seq (.reg (.chk none (.bin .eql) (.cons (.inp 0) (.cons (.cst (.int .i32 32)) .nil)) (.bnd (.op (.bin .eql) (.cons (.inp 0) (.cons (.cst (.int .i32 32)) .nil))) (.chk (some ((.bv 0), false)) (.bin .eql) (.cons (.inp 0) (.cons (.cst (.int .i32 45)) .nil)) (.isb none (.bv 0) (.bnd (.ite (.bv 0) true (.cst (.bool true)) (.op (.bin .eql) (.cons (.inp 0) (.cons (.cst (.int .i32 45)) .nil)))) (.chk (some ((.bv 1), false)) (.bin .eql) (.cons (.inp 0) (.cons (.cst (.int .i32 95)) .nil)) (.isb none (.bv 1) (.done [(1, (.ite (.bv 1) true (.cst (.bool true)) (.op (.bin .eql) (.cons (.inp 0) (.cons (.cst (.int .i32 95)) .nil)))))] none))))))))) .ret) Q env w := rfl
def l72 : Lifted := ⟨[0, 2], 13, [.slot 1], (.seq (.reg (.done [(1, (.cst (.bool false)))] none)) h72_0)⟩
theorem l72_ok : liftFn F0 72 400 = some l72 := by kernel_rfl

-- bazaar/name.letter
def h71_0 : HC := (.seq (.reg (.chk none (.bin .geq) (.cons (.inp 0) (.cons (.cst (.int .i32 945)) .nil)) (.bnd (.op (.bin .geq) (.cons (.inp 0) (.cons (.cst (.int .i32 945)) .nil))) (.chk (some ((.bv 0), true)) (.bin .leq) (.cons (.inp 0) (.cons (.cst (.int .i32 969)) .nil)) (.isb none (.bv 0) (.bnd (.ite (.bv 0) true (.op (.bin .leq) (.cons (.inp 0) (.cons (.cst (.int .i32 969)) .nil))) (.cst (.bool false))) (.chk (some ((.bv 1), false)) (.bin .geq) (.cons (.inp 0) (.cons (.cst (.int .i32 1040)) .nil)) (.bnd (.ite (.bv 1) false (.op (.bin .geq) (.cons (.inp 0) (.cons (.cst (.int .i32 1040)) .nil))) (.cst (.tuple #[]))) (.chk (some ((.bv 2), true)) (.bin .leq) (.cons (.inp 0) (.cons (.cst (.int .i32 1103)) .nil)) (.isb (some ((.bv 1), false)) (.bv 2) (.isb none (.bv 1) (.bnd (.ite (.bv 1) true (.cst (.bool true)) (.ite (.bv 2) true (.op (.bin .leq) (.cons (.inp 0) (.cons (.cst (.int .i32 1103)) .nil))) (.cst (.bool false)))) (.chk (some ((.bv 3), false)) (.bin .eql) (.cons (.inp 0) (.cons (.cst (.int .i32 1025)) .nil)) (.isb none (.bv 3) (.bnd (.ite (.bv 3) true (.cst (.bool true)) (.op (.bin .eql) (.cons (.inp 0) (.cons (.cst (.int .i32 1025)) .nil)))) (.chk (some ((.bv 4), false)) (.bin .eql) (.cons (.inp 0) (.cons (.cst (.int .i32 1105)) .nil)) (.isb none (.bv 4) (.done [(1, (.ite (.bv 4) true (.cst (.bool true)) (.op (.bin .eql) (.cons (.inp 0) (.cons (.cst (.int .i32 1105)) .nil)))))] none)))))))))))))))))) .ret)
@[simp] theorem h71_0_wp {P : Program} {F : PF P} {Q : EX → List Value → World → Prop} {env : List Value} {w : World} : h71_0.wp F Q env w = HC.wp F (.seq (.reg (.chk none (.bin .geq) (.cons (.inp 0) (.cons (.cst (.int .i32 945)) .nil)) (.bnd (.op (.bin .geq) (.cons (.inp 0) (.cons (.cst (.int .i32 945)) .nil))) (.chk (some ((.bv 0), true)) (.bin .leq) (.cons (.inp 0) (.cons (.cst (.int .i32 969)) .nil)) (.isb none (.bv 0) (.bnd (.ite (.bv 0) true (.op (.bin .leq) (.cons (.inp 0) (.cons (.cst (.int .i32 969)) .nil))) (.cst (.bool false))) (.chk (some ((.bv 1), false)) (.bin .geq) (.cons (.inp 0) (.cons (.cst (.int .i32 1040)) .nil)) (.bnd (.ite (.bv 1) false (.op (.bin .geq) (.cons (.inp 0) (.cons (.cst (.int .i32 1040)) .nil))) (.cst (.tuple #[]))) (.chk (some ((.bv 2), true)) (.bin .leq) (.cons (.inp 0) (.cons (.cst (.int .i32 1103)) .nil)) (.isb (some ((.bv 1), false)) (.bv 2) (.isb none (.bv 1) (.bnd (.ite (.bv 1) true (.cst (.bool true)) (.ite (.bv 2) true (.op (.bin .leq) (.cons (.inp 0) (.cons (.cst (.int .i32 1103)) .nil))) (.cst (.bool false)))) (.chk (some ((.bv 3), false)) (.bin .eql) (.cons (.inp 0) (.cons (.cst (.int .i32 1025)) .nil)) (.isb none (.bv 3) (.bnd (.ite (.bv 3) true (.cst (.bool true)) (.op (.bin .eql) (.cons (.inp 0) (.cons (.cst (.int .i32 1025)) .nil)))) (.chk (some ((.bv 4), false)) (.bin .eql) (.cons (.inp 0) (.cons (.cst (.int .i32 1105)) .nil)) (.isb none (.bv 4) (.done [(1, (.ite (.bv 4) true (.cst (.bool true)) (.op (.bin .eql) (.cons (.inp 0) (.cons (.cst (.int .i32 1105)) .nil)))))] none)))))))))))))))))) .ret) Q env w := rfl
def h71_1 : HC := (.seq (.reg (.done [(1, (.cst (.bool true)))] none)) .ret)
@[simp] theorem h71_1_wp {P : Program} {F : PF P} {Q : EX → List Value → World → Prop} {env : List Value} {w : World} : h71_1.wp F Q env w = HC.wp F (.seq (.reg (.done [(1, (.cst (.bool true)))] none)) .ret) Q env w := rfl
def h71_2 : HC := (.seq (.reg (.chk none (.bin .neq) (.cons (.inp 0) (.cons (.cst (.int .i32 215)) .nil)) (.bnd (.op (.bin .neq) (.cons (.inp 0) (.cons (.cst (.int .i32 215)) .nil))) (.chk (some ((.bv 0), true)) (.bin .neq) (.cons (.inp 0) (.cons (.cst (.int .i32 247)) .nil)) (.isb none (.bv 0) (.done [(1, (.ite (.bv 0) true (.op (.bin .neq) (.cons (.inp 0) (.cons (.cst (.int .i32 247)) .nil))) (.cst (.bool false))))] none)))))) .ret)
@[simp] theorem h71_2_wp {P : Program} {F : PF P} {Q : EX → List Value → World → Prop} {env : List Value} {w : World} : h71_2.wp F Q env w = HC.wp F (.seq (.reg (.chk none (.bin .neq) (.cons (.inp 0) (.cons (.cst (.int .i32 215)) .nil)) (.bnd (.op (.bin .neq) (.cons (.inp 0) (.cons (.cst (.int .i32 215)) .nil))) (.chk (some ((.bv 0), true)) (.bin .neq) (.cons (.inp 0) (.cons (.cst (.int .i32 247)) .nil)) (.isb none (.bv 0) (.done [(1, (.ite (.bv 0) true (.op (.bin .neq) (.cons (.inp 0) (.cons (.cst (.int .i32 247)) .nil))) (.cst (.bool false))))] none)))))) .ret) Q env w := rfl
def h71_3 : HC := (.seq (.reg (.chk none (.bin .neq) (.cons (.inp 0) (.cons (.cst (.int .i32 930)) .nil)) (.done [(1, (.op (.bin .neq) (.cons (.inp 0) (.cons (.cst (.int .i32 930)) .nil))))] none))) .ret)
@[simp] theorem h71_3_wp {P : Program} {F : PF P} {Q : EX → List Value → World → Prop} {env : List Value} {w : World} : h71_3.wp F Q env w = HC.wp F (.seq (.reg (.chk none (.bin .neq) (.cons (.inp 0) (.cons (.cst (.int .i32 930)) .nil)) (.done [(1, (.op (.bin .neq) (.cons (.inp 0) (.cons (.cst (.int .i32 930)) .nil))))] none))) .ret) Q env w := rfl
def h71_4 : HC := (.br (.chk none (.bin .geq) (.cons (.inp 0) (.cons (.cst (.int .i32 913)) .nil)) (.bnd (.op (.bin .geq) (.cons (.inp 0) (.cons (.cst (.int .i32 913)) .nil))) (.chk (some ((.bv 0), true)) (.bin .leq) (.cons (.inp 0) (.cons (.cst (.int .i32 937)) .nil)) (.isb none (.bv 0) (.done [] (some (.ite (.bv 0) true (.op (.bin .leq) (.cons (.inp 0) (.cons (.cst (.int .i32 937)) .nil))) (.cst (.bool false))))))))) h71_3 .skip)
@[simp] theorem h71_4_wp {P : Program} {F : PF P} {Q : EX → List Value → World → Prop} {env : List Value} {w : World} : h71_4.wp F Q env w = HC.wp F (.br (.chk none (.bin .geq) (.cons (.inp 0) (.cons (.cst (.int .i32 913)) .nil)) (.bnd (.op (.bin .geq) (.cons (.inp 0) (.cons (.cst (.int .i32 913)) .nil))) (.chk (some ((.bv 0), true)) (.bin .leq) (.cons (.inp 0) (.cons (.cst (.int .i32 937)) .nil)) (.isb none (.bv 0) (.done [] (some (.ite (.bv 0) true (.op (.bin .leq) (.cons (.inp 0) (.cons (.cst (.int .i32 937)) .nil))) (.cst (.bool false))))))))) h71_3 .skip) Q env w := rfl
def h71_5 : HC := (.br (.chk none (.bin .geq) (.cons (.inp 0) (.cons (.cst (.int .i32 192)) .nil)) (.bnd (.op (.bin .geq) (.cons (.inp 0) (.cons (.cst (.int .i32 192)) .nil))) (.chk (some ((.bv 0), true)) (.bin .leq) (.cons (.inp 0) (.cons (.cst (.int .i32 255)) .nil)) (.isb none (.bv 0) (.done [] (some (.ite (.bv 0) true (.op (.bin .leq) (.cons (.inp 0) (.cons (.cst (.int .i32 255)) .nil))) (.cst (.bool false))))))))) h71_2 h71_4)
@[simp] theorem h71_5_wp {P : Program} {F : PF P} {Q : EX → List Value → World → Prop} {env : List Value} {w : World} : h71_5.wp F Q env w = HC.wp F (.br (.chk none (.bin .geq) (.cons (.inp 0) (.cons (.cst (.int .i32 192)) .nil)) (.bnd (.op (.bin .geq) (.cons (.inp 0) (.cons (.cst (.int .i32 192)) .nil))) (.chk (some ((.bv 0), true)) (.bin .leq) (.cons (.inp 0) (.cons (.cst (.int .i32 255)) .nil)) (.isb none (.bv 0) (.done [] (some (.ite (.bv 0) true (.op (.bin .leq) (.cons (.inp 0) (.cons (.cst (.int .i32 255)) .nil))) (.cst (.bool false))))))))) h71_2 h71_4) Q env w := rfl
def h71_6 : HC := (.cnd 2 h71_1 h71_5)
@[simp] theorem h71_6_wp {P : Program} {F : PF P} {Q : EX → List Value → World → Prop} {env : List Value} {w : World} : h71_6.wp F Q env w = HC.wp F (.cnd 2 h71_1 h71_5) Q env w := rfl
def h71_7 : HC := (.reg (.chk none (.bin .geq) (.cons (.inp 0) (.cons (.cst (.int .i32 97)) .nil)) (.bnd (.op (.bin .geq) (.cons (.inp 0) (.cons (.cst (.int .i32 97)) .nil))) (.chk (some ((.bv 0), true)) (.bin .leq) (.cons (.inp 0) (.cons (.cst (.int .i32 122)) .nil)) (.isb none (.bv 0) (.done [(2, (.ite (.bv 0) true (.op (.bin .leq) (.cons (.inp 0) (.cons (.cst (.int .i32 122)) .nil))) (.cst (.bool false))))] none))))))
@[simp] theorem h71_7_wp {P : Program} {F : PF P} {Q : EX → List Value → World → Prop} {env : List Value} {w : World} : h71_7.wp F Q env w = HC.wp F (.reg (.chk none (.bin .geq) (.cons (.inp 0) (.cons (.cst (.int .i32 97)) .nil)) (.bnd (.op (.bin .geq) (.cons (.inp 0) (.cons (.cst (.int .i32 97)) .nil))) (.chk (some ((.bv 0), true)) (.bin .leq) (.cons (.inp 0) (.cons (.cst (.int .i32 122)) .nil)) (.isb none (.bv 0) (.done [(2, (.ite (.bv 0) true (.op (.bin .leq) (.cons (.inp 0) (.cons (.cst (.int .i32 122)) .nil))) (.cst (.bool false))))] none)))))) Q env w := rfl
def h71_8 : HC := (.cnd 2 .skip h71_7)
@[simp] theorem h71_8_wp {P : Program} {F : PF P} {Q : EX → List Value → World → Prop} {env : List Value} {w : World} : h71_8.wp F Q env w = HC.wp F (.cnd 2 .skip h71_7) Q env w := rfl
def h71_9 : HC := (.seq (.reg (.chk none (.bin .geq) (.cons (.inp 0) (.cons (.cst (.int .i32 65)) .nil)) (.bnd (.op (.bin .geq) (.cons (.inp 0) (.cons (.cst (.int .i32 65)) .nil))) (.chk (some ((.bv 0), true)) (.bin .leq) (.cons (.inp 0) (.cons (.cst (.int .i32 90)) .nil)) (.isb none (.bv 0) (.done [(2, (.ite (.bv 0) true (.op (.bin .leq) (.cons (.inp 0) (.cons (.cst (.int .i32 90)) .nil))) (.cst (.bool false))))] none)))))) h71_8)
@[simp] theorem h71_9_wp {P : Program} {F : PF P} {Q : EX → List Value → World → Prop} {env : List Value} {w : World} : h71_9.wp F Q env w = HC.wp F (.seq (.reg (.chk none (.bin .geq) (.cons (.inp 0) (.cons (.cst (.int .i32 65)) .nil)) (.bnd (.op (.bin .geq) (.cons (.inp 0) (.cons (.cst (.int .i32 65)) .nil))) (.chk (some ((.bv 0), true)) (.bin .leq) (.cons (.inp 0) (.cons (.cst (.int .i32 90)) .nil)) (.isb none (.bv 0) (.done [(2, (.ite (.bv 0) true (.op (.bin .leq) (.cons (.inp 0) (.cons (.cst (.int .i32 90)) .nil))) (.cst (.bool false))))] none)))))) h71_8) Q env w := rfl
def h71_10 : HC := (.seq (.cnd 2 .skip h71_9) h71_6)
@[simp] theorem h71_10_wp {P : Program} {F : PF P} {Q : EX → List Value → World → Prop} {env : List Value} {w : World} : h71_10.wp F Q env w = HC.wp F (.seq (.cnd 2 .skip h71_9) h71_6) Q env w := rfl
def h71_11 : HC := (.seq (.reg (.chk none (.bin .geq) (.cons (.inp 0) (.cons (.cst (.int .i32 48)) .nil)) (.bnd (.op (.bin .geq) (.cons (.inp 0) (.cons (.cst (.int .i32 48)) .nil))) (.chk (some ((.bv 0), true)) (.bin .leq) (.cons (.inp 0) (.cons (.cst (.int .i32 57)) .nil)) (.isb none (.bv 0) (.done [(2, (.ite (.bv 0) true (.op (.bin .leq) (.cons (.inp 0) (.cons (.cst (.int .i32 57)) .nil))) (.cst (.bool false))))] none)))))) h71_10)
@[simp] theorem h71_11_wp {P : Program} {F : PF P} {Q : EX → List Value → World → Prop} {env : List Value} {w : World} : h71_11.wp F Q env w = HC.wp F (.seq (.reg (.chk none (.bin .geq) (.cons (.inp 0) (.cons (.cst (.int .i32 48)) .nil)) (.bnd (.op (.bin .geq) (.cons (.inp 0) (.cons (.cst (.int .i32 48)) .nil))) (.chk (some ((.bv 0), true)) (.bin .leq) (.cons (.inp 0) (.cons (.cst (.int .i32 57)) .nil)) (.isb none (.bv 0) (.done [(2, (.ite (.bv 0) true (.op (.bin .leq) (.cons (.inp 0) (.cons (.cst (.int .i32 57)) .nil))) (.cst (.bool false))))] none)))))) h71_10) Q env w := rfl
def h71_12 : HC := (.seq (.block 0 h71_11) h71_0)
@[simp] theorem h71_12_wp {P : Program} {F : PF P} {Q : EX → List Value → World → Prop} {env : List Value} {w : World} : h71_12.wp F Q env w = HC.wp F (.seq (.block 0 h71_11) h71_0) Q env w := rfl
def l71 : Lifted := ⟨[0, 2, 3], 66, [.slot 1], (.seq (.reg (.done [(1, (.cst (.bool false)))] none)) h71_12)⟩
theorem l71_ok : liftFn F0 71 400 = some l71 := by kernel_rfl

-- bazaar/name.fold
def h100_0 : HC := (.seq (.reg (.done [(1, (.inp 0))] none)) .ret)
@[simp] theorem h100_0_wp {P : Program} {F : PF P} {Q : EX → List Value → World → Prop} {env : List Value} {w : World} : h100_0.wp F Q env w = HC.wp F (.seq (.reg (.done [(1, (.inp 0))] none)) .ret) Q env w := rfl
def h100_1 : HC := (.seq (.reg (.chk none (.bin .add) (.cons (.inp 0) (.cons (.cst (.int .i32 32)) .nil)) (.done [(1, (.op (.bin .add) (.cons (.inp 0) (.cons (.cst (.int .i32 32)) .nil))))] none))) .ret)
@[simp] theorem h100_1_wp {P : Program} {F : PF P} {Q : EX → List Value → World → Prop} {env : List Value} {w : World} : h100_1.wp F Q env w = HC.wp F (.seq (.reg (.chk none (.bin .add) (.cons (.inp 0) (.cons (.cst (.int .i32 32)) .nil)) (.done [(1, (.op (.bin .add) (.cons (.inp 0) (.cons (.cst (.int .i32 32)) .nil))))] none))) .ret) Q env w := rfl
def h100_2 : HC := (.seq (.reg (.done [(1, (.cst (.int .i32 1105)))] none)) .ret)
@[simp] theorem h100_2_wp {P : Program} {F : PF P} {Q : EX → List Value → World → Prop} {env : List Value} {w : World} : h100_2.wp F Q env w = HC.wp F (.seq (.reg (.done [(1, (.cst (.int .i32 1105)))] none)) .ret) Q env w := rfl
def h100_3 : HC := (.seq (.reg (.done [(1, (.cst (.int .i32 963)))] none)) .ret)
@[simp] theorem h100_3_wp {P : Program} {F : PF P} {Q : EX → List Value → World → Prop} {env : List Value} {w : World} : h100_3.wp F Q env w = HC.wp F (.seq (.reg (.done [(1, (.cst (.int .i32 963)))] none)) .ret) Q env w := rfl
def h100_4 : HC := (.br (.chk none (.bin .eql) (.cons (.inp 0) (.cons (.cst (.int .i32 962)) .nil)) (.done [] (some (.op (.bin .eql) (.cons (.inp 0) (.cons (.cst (.int .i32 962)) .nil)))))) h100_3 .skip)
@[simp] theorem h100_4_wp {P : Program} {F : PF P} {Q : EX → List Value → World → Prop} {env : List Value} {w : World} : h100_4.wp F Q env w = HC.wp F (.br (.chk none (.bin .eql) (.cons (.inp 0) (.cons (.cst (.int .i32 962)) .nil)) (.done [] (some (.op (.bin .eql) (.cons (.inp 0) (.cons (.cst (.int .i32 962)) .nil)))))) h100_3 .skip) Q env w := rfl
def h100_5 : HC := (.br (.chk none (.bin .eql) (.cons (.inp 0) (.cons (.cst (.int .i32 1025)) .nil)) (.done [] (some (.op (.bin .eql) (.cons (.inp 0) (.cons (.cst (.int .i32 1025)) .nil)))))) h100_2 h100_4)
@[simp] theorem h100_5_wp {P : Program} {F : PF P} {Q : EX → List Value → World → Prop} {env : List Value} {w : World} : h100_5.wp F Q env w = HC.wp F (.br (.chk none (.bin .eql) (.cons (.inp 0) (.cons (.cst (.int .i32 1025)) .nil)) (.done [] (some (.op (.bin .eql) (.cons (.inp 0) (.cons (.cst (.int .i32 1025)) .nil)))))) h100_2 h100_4) Q env w := rfl
def h100_6 : HC := (.cnd 2 h100_1 h100_5)
@[simp] theorem h100_6_wp {P : Program} {F : PF P} {Q : EX → List Value → World → Prop} {env : List Value} {w : World} : h100_6.wp F Q env w = HC.wp F (.cnd 2 h100_1 h100_5) Q env w := rfl
def h100_7 : HC := (.reg (.chk none (.bin .geq) (.cons (.inp 0) (.cons (.cst (.int .i32 1040)) .nil)) (.bnd (.op (.bin .geq) (.cons (.inp 0) (.cons (.cst (.int .i32 1040)) .nil))) (.chk (some ((.bv 0), true)) (.bin .leq) (.cons (.inp 0) (.cons (.cst (.int .i32 1071)) .nil)) (.isb none (.bv 0) (.done [(2, (.ite (.bv 0) true (.op (.bin .leq) (.cons (.inp 0) (.cons (.cst (.int .i32 1071)) .nil))) (.cst (.bool false))))] none))))))
@[simp] theorem h100_7_wp {P : Program} {F : PF P} {Q : EX → List Value → World → Prop} {env : List Value} {w : World} : h100_7.wp F Q env w = HC.wp F (.reg (.chk none (.bin .geq) (.cons (.inp 0) (.cons (.cst (.int .i32 1040)) .nil)) (.bnd (.op (.bin .geq) (.cons (.inp 0) (.cons (.cst (.int .i32 1040)) .nil))) (.chk (some ((.bv 0), true)) (.bin .leq) (.cons (.inp 0) (.cons (.cst (.int .i32 1071)) .nil)) (.isb none (.bv 0) (.done [(2, (.ite (.bv 0) true (.op (.bin .leq) (.cons (.inp 0) (.cons (.cst (.int .i32 1071)) .nil))) (.cst (.bool false))))] none)))))) Q env w := rfl
def h100_8 : HC := (.cnd 2 .skip h100_7)
@[simp] theorem h100_8_wp {P : Program} {F : PF P} {Q : EX → List Value → World → Prop} {env : List Value} {w : World} : h100_8.wp F Q env w = HC.wp F (.cnd 2 .skip h100_7) Q env w := rfl
def h100_9 : HC := (.seq (.reg (.chk none (.bin .geq) (.cons (.inp 0) (.cons (.cst (.int .i32 913)) .nil)) (.bnd (.op (.bin .geq) (.cons (.inp 0) (.cons (.cst (.int .i32 913)) .nil))) (.chk (some ((.bv 0), true)) (.bin .leq) (.cons (.inp 0) (.cons (.cst (.int .i32 937)) .nil)) (.isb none (.bv 0) (.bnd (.ite (.bv 0) true (.op (.bin .leq) (.cons (.inp 0) (.cons (.cst (.int .i32 937)) .nil))) (.cst (.bool false))) (.chk (some ((.bv 1), true)) (.bin .neq) (.cons (.inp 0) (.cons (.cst (.int .i32 930)) .nil)) (.isb none (.bv 1) (.done [(2, (.ite (.bv 1) true (.op (.bin .neq) (.cons (.inp 0) (.cons (.cst (.int .i32 930)) .nil))) (.cst (.bool false))))] none))))))))) h100_8)
@[simp] theorem h100_9_wp {P : Program} {F : PF P} {Q : EX → List Value → World → Prop} {env : List Value} {w : World} : h100_9.wp F Q env w = HC.wp F (.seq (.reg (.chk none (.bin .geq) (.cons (.inp 0) (.cons (.cst (.int .i32 913)) .nil)) (.bnd (.op (.bin .geq) (.cons (.inp 0) (.cons (.cst (.int .i32 913)) .nil))) (.chk (some ((.bv 0), true)) (.bin .leq) (.cons (.inp 0) (.cons (.cst (.int .i32 937)) .nil)) (.isb none (.bv 0) (.bnd (.ite (.bv 0) true (.op (.bin .leq) (.cons (.inp 0) (.cons (.cst (.int .i32 937)) .nil))) (.cst (.bool false))) (.chk (some ((.bv 1), true)) (.bin .neq) (.cons (.inp 0) (.cons (.cst (.int .i32 930)) .nil)) (.isb none (.bv 1) (.done [(2, (.ite (.bv 1) true (.op (.bin .neq) (.cons (.inp 0) (.cons (.cst (.int .i32 930)) .nil))) (.cst (.bool false))))] none))))))))) h100_8) Q env w := rfl
def h100_10 : HC := (.cnd 2 .skip h100_9)
@[simp] theorem h100_10_wp {P : Program} {F : PF P} {Q : EX → List Value → World → Prop} {env : List Value} {w : World} : h100_10.wp F Q env w = HC.wp F (.cnd 2 .skip h100_9) Q env w := rfl
def h100_11 : HC := (.seq (.reg (.chk none (.bin .geq) (.cons (.inp 0) (.cons (.cst (.int .i32 192)) .nil)) (.bnd (.op (.bin .geq) (.cons (.inp 0) (.cons (.cst (.int .i32 192)) .nil))) (.chk (some ((.bv 0), true)) (.bin .leq) (.cons (.inp 0) (.cons (.cst (.int .i32 222)) .nil)) (.isb none (.bv 0) (.bnd (.ite (.bv 0) true (.op (.bin .leq) (.cons (.inp 0) (.cons (.cst (.int .i32 222)) .nil))) (.cst (.bool false))) (.chk (some ((.bv 1), true)) (.bin .neq) (.cons (.inp 0) (.cons (.cst (.int .i32 215)) .nil)) (.isb none (.bv 1) (.done [(2, (.ite (.bv 1) true (.op (.bin .neq) (.cons (.inp 0) (.cons (.cst (.int .i32 215)) .nil))) (.cst (.bool false))))] none))))))))) h100_10)
@[simp] theorem h100_11_wp {P : Program} {F : PF P} {Q : EX → List Value → World → Prop} {env : List Value} {w : World} : h100_11.wp F Q env w = HC.wp F (.seq (.reg (.chk none (.bin .geq) (.cons (.inp 0) (.cons (.cst (.int .i32 192)) .nil)) (.bnd (.op (.bin .geq) (.cons (.inp 0) (.cons (.cst (.int .i32 192)) .nil))) (.chk (some ((.bv 0), true)) (.bin .leq) (.cons (.inp 0) (.cons (.cst (.int .i32 222)) .nil)) (.isb none (.bv 0) (.bnd (.ite (.bv 0) true (.op (.bin .leq) (.cons (.inp 0) (.cons (.cst (.int .i32 222)) .nil))) (.cst (.bool false))) (.chk (some ((.bv 1), true)) (.bin .neq) (.cons (.inp 0) (.cons (.cst (.int .i32 215)) .nil)) (.isb none (.bv 1) (.done [(2, (.ite (.bv 1) true (.op (.bin .neq) (.cons (.inp 0) (.cons (.cst (.int .i32 215)) .nil))) (.cst (.bool false))))] none))))))))) h100_10) Q env w := rfl
def h100_12 : HC := (.seq (.cnd 2 .skip h100_11) h100_6)
@[simp] theorem h100_12_wp {P : Program} {F : PF P} {Q : EX → List Value → World → Prop} {env : List Value} {w : World} : h100_12.wp F Q env w = HC.wp F (.seq (.cnd 2 .skip h100_11) h100_6) Q env w := rfl
def h100_13 : HC := (.seq (.reg (.chk none (.bin .geq) (.cons (.inp 0) (.cons (.cst (.int .i32 65)) .nil)) (.bnd (.op (.bin .geq) (.cons (.inp 0) (.cons (.cst (.int .i32 65)) .nil))) (.chk (some ((.bv 0), true)) (.bin .leq) (.cons (.inp 0) (.cons (.cst (.int .i32 90)) .nil)) (.isb none (.bv 0) (.done [(2, (.ite (.bv 0) true (.op (.bin .leq) (.cons (.inp 0) (.cons (.cst (.int .i32 90)) .nil))) (.cst (.bool false))))] none)))))) h100_12)
@[simp] theorem h100_13_wp {P : Program} {F : PF P} {Q : EX → List Value → World → Prop} {env : List Value} {w : World} : h100_13.wp F Q env w = HC.wp F (.seq (.reg (.chk none (.bin .geq) (.cons (.inp 0) (.cons (.cst (.int .i32 65)) .nil)) (.bnd (.op (.bin .geq) (.cons (.inp 0) (.cons (.cst (.int .i32 65)) .nil))) (.chk (some ((.bv 0), true)) (.bin .leq) (.cons (.inp 0) (.cons (.cst (.int .i32 90)) .nil)) (.isb none (.bv 0) (.done [(2, (.ite (.bv 0) true (.op (.bin .leq) (.cons (.inp 0) (.cons (.cst (.int .i32 90)) .nil))) (.cst (.bool false))))] none)))))) h100_12) Q env w := rfl
def h100_14 : HC := (.seq (.block 0 h100_13) h100_0)
@[simp] theorem h100_14_wp {P : Program} {F : PF P} {Q : EX → List Value → World → Prop} {env : List Value} {w : World} : h100_14.wp F Q env w = HC.wp F (.seq (.block 0 h100_13) h100_0) Q env w := rfl
def l100 : Lifted := ⟨[0, 2, 3], 45, [.slot 1], (.seq (.reg (.done [(1, (.cst (.int .i32 0)))] none)) h100_14)⟩
theorem l100_ok : liftFn F0 100 400 = some l100 := by kernel_rfl

-- internal/stringslite.HasPrefix
def h98_0 : HC := (.seq (.reg (.chk none .lenS (.cons (.inp 0) .nil) (.chk none .lenS (.cons (.inp 1) .nil) (.chk none (.bin .geq) (.cons (.op .lenS (.cons (.inp 0) .nil)) (.cons (.op .lenS (.cons (.inp 1) .nil)) .nil)) (.bnd (.op (.bin .geq) (.cons (.op .lenS (.cons (.inp 0) .nil)) (.cons (.op .lenS (.cons (.inp 1) .nil)) .nil))) (.chk (some ((.bv 0), true)) .lenS (.cons (.inp 1) .nil) (.chk (some ((.bv 0), true)) (.slS false true) (.cons (.inp 0) (.cons (.op .lenS (.cons (.inp 1) .nil)) .nil)) (.chk (some ((.bv 0), true)) (.bin .eql) (.cons (.op (.slS false true) (.cons (.inp 0) (.cons (.op .lenS (.cons (.inp 1) .nil)) .nil))) (.cons (.inp 1) .nil)) (.isb none (.bv 0) (.done [(2, (.ite (.bv 0) true (.op (.bin .eql) (.cons (.op (.slS false true) (.cons (.inp 0) (.cons (.op .lenS (.cons (.inp 1) .nil)) .nil))) (.cons (.inp 1) .nil))) (.cst (.bool false))))] none)))))))))) .ret)
@[simp] theorem h98_0_wp {P : Program} {F : PF P} {Q : EX → List Value → World → Prop} {env : List Value} {w : World} : h98_0.wp F Q env w = HC.wp F (.seq (.reg (.chk none .lenS (.cons (.inp 0) .nil) (.chk none .lenS (.cons (.inp 1) .nil) (.chk none (.bin .geq) (.cons (.op .lenS (.cons (.inp 0) .nil)) (.cons (.op .lenS (.cons (.inp 1) .nil)) .nil)) (.bnd (.op (.bin .geq) (.cons (.op .lenS (.cons (.inp 0) .nil)) (.cons (.op .lenS (.cons (.inp 1) .nil)) .nil))) (.chk (some ((.bv 0), true)) .lenS (.cons (.inp 1) .nil) (.chk (some ((.bv 0), true)) (.slS false true) (.cons (.inp 0) (.cons (.op .lenS (.cons (.inp 1) .nil)) .nil)) (.chk (some ((.bv 0), true)) (.bin .eql) (.cons (.op (.slS false true) (.cons (.inp 0) (.cons (.op .lenS (.cons (.inp 1) .nil)) .nil))) (.cons (.inp 1) .nil)) (.isb none (.bv 0) (.done [(2, (.ite (.bv 0) true (.op (.bin .eql) (.cons (.op (.slS false true) (.cons (.inp 0) (.cons (.op .lenS (.cons (.inp 1) .nil)) .nil))) (.cons (.inp 1) .nil))) (.cst (.bool false))))] none)))))))))) .ret) Q env w := rfl
def l98 : Lifted := ⟨[0, 1, 4], 18, [.slot 2], (.seq (.reg (.done [(2, (.cst (.bool false)))] none)) h98_0)⟩
theorem l98_ok : liftFn F0 98 400 = some l98 := by kernel_rfl



def inF (u lo hi : Int) : Bool := decide (lo ≤ u) && decide (u ≤ hi)
def joinerF (u : Int) : Bool := decide (u = 32) || decide (u = 45) || decide (u = 95)
theorem joiner_spec (u : Int) (w : World) : CallW Try.prog 72 [.int .i32 u] (fun r w' => r = .bool (joinerF u) ∧ w' = w) w := by
  refine callW_of_lift l72_ok (by simp [l72]) ?_
  simp [l72, joinerF]
def letterF (u : Int) : Bool := !(decide (u = 215) || decide (u = 247) || decide (u = 930)) &&
  (inF u 48 57 || inF u 65 90 || inF u 97 122 || inF u 192 255 || inF u 913 937 || inF u 945 969 || decide (u = 1025) || inF u 1040 1103 || decide (u = 1105))
theorem letter_spec (u : Int) (w : World) : CallW Try.prog 71 [.int .i32 u] (fun r w' => r = .bool (letterF u) ∧ w' = w) w := by
  refine callW_of_lift l71_ok (by simp [l71]) ?_
  simp [l71, condC_ite, letterF, inF]
  repeat' split
  all_goals (try simp)
  all_goals (try (rw [Bool.eq_iff_iff]; simp))
  all_goals omega
def foldF (u : Int) : Int :=
  if (65 ≤ u ∧ u ≤ 90) ∨ (192 ≤ u ∧ u ≤ 222 ∧ u ≠ 215) ∨ (913 ≤ u ∧ u ≤ 937 ∧ u ≠ 930) ∨ (1040 ≤ u ∧ u ≤ 1071) then u + 32
  else if u = 1025 then 1105 else if u = 962 then 963 else u
theorem fold_spec (u : Int) (w : World) (h0 : 0 ≤ u) (h1 : u < 2097408) : CallW Try.prog 100 [.int .i32 u] (fun r w' => r = .int .i32 (foldF u) ∧ w' = w) w := by
  refine callW_of_lift l100_ok (by simp [l100]) ?_
  simp [l100, condC_ite, foldF]
  repeat' split
  all_goals (try simp (disch := omega) only [wrap32])
  all_goals (try (first | rfl | omega))
theorem slhp_spec (s p : List UInt8) (w : World) (hs : s.length ≤ 1048576) : CallW Try.prog 98 [.string (mk s), .string (mk p)] (fun r w' => r = .bool (p.isPrefixOf s) ∧ w' = w) w := by
  refine callW_of_lift l98_ok (by simp [l98]) ?_
  simp [l98]
  rw [Bool.eq_iff_iff]
  simp only [Bool.and_eq_true, decide_eq_true_eq, beq_iff_eq, List.isPrefixOf_iff_prefix]
  constructor
  · rintro ⟨h1, h2⟩
    exact List.prefix_iff_eq_take.2 h2.symm
  · intro h
    exact ⟨h.length_le, (List.prefix_iff_eq_take.1 h).symm⟩
end Go.HL.Nm

namespace Go.HL.Nm
open Go.HL Go.Proofs
set_option maxRecDepth 4000
set_option linter.unusedSimpArgs false
set_option linter.unusedVariables false

end Go.HL.Nm

namespace Go.HL.Nm
open Go.HL Go.Proofs
set_option maxRecDepth 4000
set_option linter.unusedSimpArgs false
set_option linter.unusedVariables false
noncomputable abbrev F1 : PF Try.prog := PF.of []
def ints (l : List Int) : List Value := l.map (Value.int .i64)
/-- the first n units' bytes -/
def cutF (l : List UInt8) (n : Int) : List UInt8 := l.take (sumW ((units l).take n.toNat))
end Go.HL.Nm

namespace Go.HL.Nm
open Go.HL Go.Proofs
set_option maxRecDepth 4000
set_option linter.unusedSimpArgs false
set_option linter.unusedVariables false
noncomputable def joinerS : PS Try.prog := PS.ib 72 .i32 joinerF joiner_spec
noncomputable def letterS : PS Try.prog := PS.ib 71 .i32 letterF letter_spec
noncomputable def slhpS : PS Try.prog where
  f := 98
  val args := match args with
    | [.string s, .string p] => .bool (p.data.toList.isPrefixOf s.data.toList)
    | _ => undef
  ok args := match args with
    | [.string s, .string _] => s.data.toList.length ≤ 1048576
    | _ => False
  sound args w h := by
    split at h
    · rename_i s p
      have := slhp_spec s.data.toList p.data.toList w h
      rw [← mk_eta, ← mk_eta] at this
      exact this
    · exact h.elim
noncomputable abbrev F2 : PF Try.prog := PF.of [joinerS, letterS, slhpS]
@[simp] theorem F2_hp_val (args : List Value) : F2.val 98 args = slhpS.val args := rfl
@[simp] theorem F2_hp_ok (args : List Value) : F2.ok 98 args = slhpS.ok args := rfl
-- strings.HasPrefix
def h84_0 : HC := (.seq (.reg (.chk none (.cal 98) (.cons (.inp 0) (.cons (.inp 1) .nil)) (.done [(2, (.op (.cal 98) (.cons (.inp 0) (.cons (.inp 1) .nil))))] none))) .ret)
@[simp] theorem h84_0_wp {P : Program} {F : PF P} {Q : EX → List Value → World → Prop} {env : List Value} {w : World} : h84_0.wp F Q env w = HC.wp F (.seq (.reg (.chk none (.cal 98) (.cons (.inp 0) (.cons (.inp 1) .nil)) (.done [(2, (.op (.cal 98) (.cons (.inp 0) (.cons (.inp 1) .nil))))] none))) .ret) Q env w := rfl
def l84 : Lifted := ⟨[0, 1, 4], 8, [.slot 2], (.seq (.reg (.done [(2, (.cst (.bool false)))] none)) h84_0)⟩
theorem l84_ok : liftFn F2 84 400 = some l84 := by kernel_rfl


theorem hp_spec (s p : List UInt8) (w : World) (hs : s.length ≤ 1048576) : CallW Try.prog 84 [.string (mk s), .string (mk p)] (fun r w' => r = .bool (p.isPrefixOf s) ∧ w' = w) w := by
  refine callW_of_lift l84_ok (by simp [l84]) ?_
  simp [l84, slhpS]
  exact hs
/-- how a folded unit looks -/
def looksF (u : Int) : Int :=
  if u = 48 ∨ u = 959 ∨ u = 1086 ∨ (242 ≤ u ∧ u ≤ 246) ∨ u = 248 then 111
  else if u = 49 then 108
  else if (224 ≤ u ∧ u ≤ 229) ∨ u = 945 ∨ u = 1072 then 97
  else if u = 231 ∨ u = 1089 then 99
  else if (232 ≤ u ∧ u ≤ 235) ∨ u = 1077 ∨ u = 1105 then 101
  else if (236 ≤ u ∧ u ≤ 239) ∨ u = 953 then 105
  else if u = 954 ∨ u = 1082 then 107
  else if u = 241 then 110
  else if u = 961 ∨ u = 1088 then 112
  else if u = 964 ∨ u = 1090 then 116
  else if (249 ≤ u ∧ u ≤ 252) ∨ u = 965 then 117
  else if u = 957 then 118
  else if u = 967 ∨ u = 1093 then 120
  else if u = 253 ∨ u = 255 ∨ u = 947 ∨ u = 1091 then 121
  else if u = 32 ∨ u = 95 then 45
  else u
noncomputable def hpS : PS Try.prog where
  f := 84
  val args := match args with
    | [.string s, .string p] => .bool (p.data.toList.isPrefixOf s.data.toList)
    | _ => undef
  ok args := match args with
    | [.string s, .string _] => s.data.toList.length ≤ 1048576
    | _ => False
  sound args w h := by
    split at h
    · rename_i s p
      have := hp_spec s.data.toList p.data.toList w h
      rw [← mk_eta, ← mk_eta] at this
      exact this
    · exact h.elim
noncomputable def foldS : PS Try.prog where
  f := 100
  val args := match args with
    | [.int _ u] => .int .i32 (foldF u)
    | _ => undef
  ok args := match args with
    | [.int k u] => k = .i32 ∧ 0 ≤ u ∧ u < 2097408
    | _ => False
  sound args w h := by
    split at h
    · obtain ⟨rfl, h1, h2⟩ := h; exact fold_spec _ w h1 h2
    · exact h.elim
noncomputable abbrev F3 : PF Try.prog := PF.of [joinerS, letterS, slhpS, hpS, foldS]
@[simp] theorem F3_hp_val (args : List Value) : F3.val 84 args = hpS.val args := rfl
@[simp] theorem F3_hp_ok (args : List Value) : F3.ok 84 args = hpS.ok args := rfl
-- bazaar/name.at
def h70_0 : HC := (.seq (.reg (.done [(3, (.inp 2))] none)) .ret)
@[simp] theorem h70_0_wp {P : Program} {F : PF P} {Q : EX → List Value → World → Prop} {env : List Value} {w : World} : h70_0.wp F Q env w = HC.wp F (.seq (.reg (.done [(3, (.inp 2))] none)) .ret) Q env w := rfl
def h70_1 : HC := (.seq (.reg (.chk none .chS (.cons (.inp 0) (.cons (.inp 1) .nil)) (.chk none (.convI .i32) (.cons (.op .chS (.cons (.inp 0) (.cons (.inp 1) .nil))) .nil) (.chk none (.bin .add) (.cons (.cst (.int .i32 2097152)) (.cons (.op (.convI .i32) (.cons (.op .chS (.cons (.inp 0) (.cons (.inp 1) .nil))) .nil)) .nil)) (.done [(3, (.op (.bin .add) (.cons (.cst (.int .i32 2097152)) (.cons (.op (.convI .i32) (.cons (.op .chS (.cons (.inp 0) (.cons (.inp 1) .nil))) .nil)) .nil))))] none))))) .ret)
@[simp] theorem h70_1_wp {P : Program} {F : PF P} {Q : EX → List Value → World → Prop} {env : List Value} {w : World} : h70_1.wp F Q env w = HC.wp F (.seq (.reg (.chk none .chS (.cons (.inp 0) (.cons (.inp 1) .nil)) (.chk none (.convI .i32) (.cons (.op .chS (.cons (.inp 0) (.cons (.inp 1) .nil))) .nil) (.chk none (.bin .add) (.cons (.cst (.int .i32 2097152)) (.cons (.op (.convI .i32) (.cons (.op .chS (.cons (.inp 0) (.cons (.inp 1) .nil))) .nil)) .nil)) (.done [(3, (.op (.bin .add) (.cons (.cst (.int .i32 2097152)) (.cons (.op (.convI .i32) (.cons (.op .chS (.cons (.inp 0) (.cons (.inp 1) .nil))) .nil)) .nil))))] none))))) .ret) Q env w := rfl
def h70_2 : HC := (.seq (.br (.chk none (.bin .eql) (.cons (.inp 2) (.cons (.cst (.int .i32 65533)) .nil)) (.bnd (.op (.bin .eql) (.cons (.inp 2) (.cons (.cst (.int .i32 65533)) .nil))) (.chk (some ((.bv 0), true)) (.slS true false) (.cons (.inp 0) (.cons (.inp 1) .nil)) (.chk (some ((.bv 0), true)) (.cal 84) (.cons (.op (.slS true false) (.cons (.inp 0) (.cons (.inp 1) .nil))) (.cons (.cst (.string ⟨#[239, 191, 189]⟩)) .nil)) (.chk (some ((.bv 0), true)) (.un .not) (.cons (.op (.cal 84) (.cons (.op (.slS true false) (.cons (.inp 0) (.cons (.inp 1) .nil))) (.cons (.cst (.string ⟨#[239, 191, 189]⟩)) .nil))) .nil) (.isb none (.bv 0) (.done [] (some (.ite (.bv 0) true (.op (.un .not) (.cons (.op (.cal 84) (.cons (.op (.slS true false) (.cons (.inp 0) (.cons (.inp 1) .nil))) (.cons (.cst (.string ⟨#[239, 191, 189]⟩)) .nil))) .nil)) (.cst (.bool false))))))))))) h70_1 .skip) h70_0)
@[simp] theorem h70_2_wp {P : Program} {F : PF P} {Q : EX → List Value → World → Prop} {env : List Value} {w : World} : h70_2.wp F Q env w = HC.wp F (.seq (.br (.chk none (.bin .eql) (.cons (.inp 2) (.cons (.cst (.int .i32 65533)) .nil)) (.bnd (.op (.bin .eql) (.cons (.inp 2) (.cons (.cst (.int .i32 65533)) .nil))) (.chk (some ((.bv 0), true)) (.slS true false) (.cons (.inp 0) (.cons (.inp 1) .nil)) (.chk (some ((.bv 0), true)) (.cal 84) (.cons (.op (.slS true false) (.cons (.inp 0) (.cons (.inp 1) .nil))) (.cons (.cst (.string ⟨#[239, 191, 189]⟩)) .nil)) (.chk (some ((.bv 0), true)) (.un .not) (.cons (.op (.cal 84) (.cons (.op (.slS true false) (.cons (.inp 0) (.cons (.inp 1) .nil))) (.cons (.cst (.string ⟨#[239, 191, 189]⟩)) .nil))) .nil) (.isb none (.bv 0) (.done [] (some (.ite (.bv 0) true (.op (.un .not) (.cons (.op (.cal 84) (.cons (.op (.slS true false) (.cons (.inp 0) (.cons (.inp 1) .nil))) (.cons (.cst (.string ⟨#[239, 191, 189]⟩)) .nil))) .nil)) (.cst (.bool false))))))))))) h70_1 .skip) h70_0) Q env w := rfl
def l70 : Lifted := ⟨[0, 1, 2, 6], 22, [.slot 3], (.seq (.reg (.done [(3, (.cst (.int .i32 0)))] none)) h70_2)⟩
theorem l70_ok : liftFn F3 70 400 = some l70 := by kernel_rfl


theorem at_spec (l : List UInt8) (i : Nat) (w : World) (hi : i < l.length) (hl : l.length ≤ 1048576) :
    CallW Try.prog 70 [.string (mk l), .int .i64 i, .int .i32 (runeOf (oneF (l.drop i)).1)] (fun r w' => r = .int .i32 (oneF (l.drop i)).1 ∧ w' = w) w := by
  have hne : l.drop i ≠ [] := by simp; omega
  have hu := unit_of hne
  have hb := oneF_bd hne
  have hd : (l.drop i).headD 0 = l[i]?.getD 0 := by simp [List.headD_eq_head?_getD, List.head?_drop]
  have hc := (l[i]?.getD 0).toNat_lt
  rw [hd] at hu
  refine callW_of_lift l70_ok (by simp [l70]) ?_
  simp [l70, hpS]
  refine ⟨fun _ => by omega, fun _ => by omega, ?_⟩
  refine cndI (fun h => ?_) (fun h => ?_)
  · simp at h
    rw [if_pos ⟨by omega, h.2⟩] at hu
    simp
    try simp (disch := omega) only [wrap32]
    exact ⟨hi, hu⟩
  · simp at h
    rw [if_neg (by rintro ⟨h1, h2⟩; rw [List.isPrefixOf_iff_prefix.2 (h (by omega))] at h2; cases h2)] at hu
    simp
    exact hu
noncomputable def atS : PS Try.prog where
  f := 70
  val args := match args with
    | [.string s, .int _ i, .int _ _] => .int .i32 (oneF (s.data.toList.drop i.toNat)).1
    | _ => undef
  ok args := match args with
    | [.string s, .int k i, .int k' r] => k = .i64 ∧ k' = .i32 ∧ s.data.toList.length ≤ 1048576 ∧ 0 ≤ i ∧ i < s.data.toList.length ∧ r = runeOf (oneF (s.data.toList.drop i.toNat)).1
    | _ => False
  sound args w h := by
    split at h
    · rename_i s k i k' r
      obtain ⟨rfl, rfl, h1, h2, h3, rfl⟩ := h
      obtain ⟨n, rfl⟩ := Int.eq_ofNat_of_zero_le h2
      have := at_spec s.data.toList n w (by omega) h1
      rw [← mk_eta] at this
      simpa using this
    · exact h.elim
noncomputable abbrev F4 : PF Try.prog := PF.of [joinerS, letterS, slhpS, hpS, foldS, atS]
@[simp] theorem F4_j_val (args : List Value) : F4.val 72 args = joinerS.val args := rfl
@[simp] theorem F4_j_ok (args : List Value) : F4.ok 72 args = joinerS.ok args := rfl
@[simp] theorem F4_l_val (args : List Value) : F4.val 71 args = letterS.val args := rfl
@[simp] theorem F4_l_ok (args : List Value) : F4.ok 71 args = letterS.ok args := rfl
@[simp] theorem F4_f_val (args : List Value) : F4.val 100 args = foldS.val args := rfl
@[simp] theorem F4_f_ok (args : List Value) : F4.ok 100 args = foldS.ok args := rfl
@[simp] theorem F4_at_val (args : List Value) : F4.val 70 args = atS.val args := rfl
@[simp] theorem F4_at_ok (args : List Value) : F4.ok 70 args = atS.ok args := rfl
@[simp] theorem j_val (u : Int) (k : IntKind) : joinerS.val [.int k u] = .bool (joinerF u) := rfl
@[simp] theorem j_ok (u : Int) (k : IntKind) : joinerS.ok [.int k u] = (k = .i32) := rfl
@[simp] theorem l_val (u : Int) (k : IntKind) : letterS.val [.int k u] = .bool (letterF u) := rfl
@[simp] theorem l_ok (u : Int) (k : IntKind) : letterS.ok [.int k u] = (k = .i32) := rfl
@[simp] theorem f_val (u : Int) (k : IntKind) : foldS.val [.int k u] = .int .i32 (foldF u) := rfl
@[simp] theorem f_ok (u : Int) (k : IntKind) : foldS.ok [.int k u] = (k = .i32 ∧ 0 ≤ u ∧ u < 2097408) := rfl
@[simp] theorem at_val (l : List UInt8) (i r : Int) (k k' : IntKind) : atS.val [.string (mk l), .int k i, .int k' r] = .int .i32 (oneF (l.drop i.toNat)).1 := by simp [atS]
@[simp] theorem at_ok (l : List UInt8) (i r : Int) (k k' : IntKind) : atS.ok [.string (mk l), .int k i, .int k' r] = (k = .i64 ∧ k' = .i32 ∧ l.length ≤ 1048576 ∧ 0 ≤ i ∧ i < l.length ∧ r = runeOf (oneF (l.drop i.toNat)).1) := by simp [atS]
end Go.HL.Nm

namespace Go.HL.Nm
open Go.HL Go.Proofs
set_option maxRecDepth 4000
set_option linter.unusedSimpArgs false
set_option linter.unusedVariables false
/-- a unit, folded -/
def foldU (u : Int) : List Int := if u = 223 then [115, 115] else [foldF u]
/-- a text's units, folded -/
def foldAll (us : List (Int × Nat)) : List Int := us.flatMap fun u => foldU u.1
def foldedF (l : List UInt8) : List Int := foldAll (units l)
theorem foldU_len (u : Int) : (foldU u).length ≤ 2 ∧ 1 ≤ (foldU u).length := by unfold foldU; split <;> simp
theorem foldAll_len : ∀ us : List (Int × Nat), (foldAll us).length ≤ 2 * us.length
  | [] => by simp [foldAll]
  | u :: us => by
    have := foldAll_len us
    have h1 := (foldU_len u.1).1
    simp only [foldAll, List.flatMap_cons, List.length_append, List.length_cons] at this ⊢
    omega
theorem foldAll_snoc (us : List (Int × Nat)) (u : Int × Nat) : foldAll (us ++ [u]) = foldAll us ++ foldU u.1 := by simp [foldAll]
def ints32 (l : List Int) : List Value := l.map (Value.int .i32)
-- bazaar/name.folded
def h86_0 : HC := (.seq (.reg (.done [(1, (.inp 2))] none)) .ret)
@[simp] theorem h86_0_wp {P : Program} {F : PF P} {Q : EX → List Value → World → Prop} {env : List Value} {w : World} : h86_0.wp F Q env w = HC.wp F (.seq (.reg (.done [(1, (.inp 2))] none)) .ret) Q env w := rfl
def h86_1 : HC := (.reg (.chk none (.cal 100) (.cons (.inp 5) .nil) (.eff (.bsl 21 1 1 #[(.int .i32 0)] [0]) (.cons (.op (.cal 100) (.cons (.inp 5) .nil)) .nil) (.eff (.app 143 143 21 1 4 (.int .i32 0)) (.cons (.inp 2) (.cons (.bv 0) .nil)) (.done [(2, (.bv 1))] none)))))
@[simp] theorem h86_1_wp {P : Program} {F : PF P} {Q : EX → List Value → World → Prop} {env : List Value} {w : World} : h86_1.wp F Q env w = HC.wp F (.reg (.chk none (.cal 100) (.cons (.inp 5) .nil) (.eff (.bsl 21 1 1 #[(.int .i32 0)] [0]) (.cons (.op (.cal 100) (.cons (.inp 5) .nil)) .nil) (.eff (.app 143 143 21 1 4 (.int .i32 0)) (.cons (.inp 2) (.cons (.bv 0) .nil)) (.done [(2, (.bv 1))] none))))) Q env w := rfl
def h86_2 : HC := (.seq (.reg (.eff (.bsl 21 2 1 #[(.int .i32 0)] [0, 1]) (.cons (.cst (.int .i32 115)) (.cons (.cst (.int .i32 115)) .nil)) (.eff (.app 143 143 21 1 4 (.int .i32 0)) (.cons (.inp 2) (.cons (.bv 0) .nil)) (.done [(2, (.bv 1))] none)))) (.exit 1))
@[simp] theorem h86_2_wp {P : Program} {F : PF P} {Q : EX → List Value → World → Prop} {env : List Value} {w : World} : h86_2.wp F Q env w = HC.wp F (.seq (.reg (.eff (.bsl 21 2 1 #[(.int .i32 0)] [0, 1]) (.cons (.cst (.int .i32 115)) (.cons (.cst (.int .i32 115)) .nil)) (.eff (.app 143 143 21 1 4 (.int .i32 0)) (.cons (.inp 2) (.cons (.bv 0) .nil)) (.done [(2, (.bv 1))] none)))) (.exit 1)) Q env w := rfl
def h86_3 : HC := (.seq (.br (.chk none (.bin .eql) (.cons (.inp 5) (.cons (.cst (.int .i32 223)) .nil)) (.done [] (some (.op (.bin .eql) (.cons (.inp 5) (.cons (.cst (.int .i32 223)) .nil)))))) h86_2 .skip) h86_1)
@[simp] theorem h86_3_wp {P : Program} {F : PF P} {Q : EX → List Value → World → Prop} {env : List Value} {w : World} : h86_3.wp F Q env w = HC.wp F (.seq (.br (.chk none (.bin .eql) (.cons (.inp 5) (.cons (.cst (.int .i32 223)) .nil)) (.done [] (some (.op (.bin .eql) (.cons (.inp 5) (.cons (.cst (.int .i32 223)) .nil)))))) h86_2 .skip) h86_1) Q env w := rfl
def h86_4 : HC := (.seq (.reg (.chk none (.cal 70) (.cons (.inp 0) (.cons (.inp 3) (.cons (.inp 4) .nil))) (.done [(5, (.op (.cal 70) (.cons (.inp 0) (.cons (.inp 3) (.cons (.inp 4) .nil)))))] none))) h86_3)
@[simp] theorem h86_4_wp {P : Program} {F : PF P} {Q : EX → List Value → World → Prop} {env : List Value} {w : World} : h86_4.wp F Q env w = HC.wp F (.seq (.reg (.chk none (.cal 70) (.cons (.inp 0) (.cons (.inp 3) (.cons (.inp 4) .nil))) (.done [(5, (.op (.cal 70) (.cons (.inp 0) (.cons (.inp 3) (.cons (.inp 4) .nil)))))] none))) h86_3) Q env w := rfl
def h86_5 : HC := (.seq (.reg (.chk none (.ext 1) (.cons (.inp 7) .nil) (.chk none (.ext 2) (.cons (.inp 7) .nil) (.done [(3, (.op (.ext 1) (.cons (.inp 7) .nil))), (4, (.op (.ext 2) (.cons (.inp 7) .nil)))] none)))) h86_4)
@[simp] theorem h86_5_wp {P : Program} {F : PF P} {Q : EX → List Value → World → Prop} {env : List Value} {w : World} : h86_5.wp F Q env w = HC.wp F (.seq (.reg (.chk none (.ext 1) (.cons (.inp 7) .nil) (.chk none (.ext 2) (.cons (.inp 7) .nil) (.done [(3, (.op (.ext 1) (.cons (.inp 7) .nil))), (4, (.op (.ext 2) (.cons (.inp 7) .nil)))] none)))) h86_4) Q env w := rfl
def h86_6 : HC := (.block 1 h86_5)
@[simp] theorem h86_6_wp {P : Program} {F : PF P} {Q : EX → List Value → World → Prop} {env : List Value} {w : World} : h86_6.wp F Q env w = HC.wp F (.block 1 h86_5) Q env w := rfl
def h86_7 : HC := (.seq (.br (.eff (.nxt true 0) (.cons (.inp 6) .nil) (.chk none (.ext 0) (.cons (.bv 0) .nil) (.done [(7, (.bv 0))] (some (.op (.ext 0) (.cons (.bv 0) .nil)))))) .skip (.exit 0)) h86_6)
@[simp] theorem h86_7_wp {P : Program} {F : PF P} {Q : EX → List Value → World → Prop} {env : List Value} {w : World} : h86_7.wp F Q env w = HC.wp F (.seq (.br (.eff (.nxt true 0) (.cons (.inp 6) .nil) (.chk none (.ext 0) (.cons (.bv 0) .nil) (.done [(7, (.bv 0))] (some (.op (.ext 0) (.cons (.bv 0) .nil)))))) .skip (.exit 0)) h86_6) Q env w := rfl
def h86_8 : HC := (.loop h86_7)
@[simp] theorem h86_8_wp {P : Program} {F : PF P} {Q : EX → List Value → World → Prop} {env : List Value} {w : World} : h86_8.wp F Q env w = HC.wp F (.loop h86_7) Q env w := rfl
def h86_9 : HC := (.seq (.block 0 h86_8) h86_0)
@[simp] theorem h86_9_wp {P : Program} {F : PF P} {Q : EX → List Value → World → Prop} {env : List Value} {w : World} : h86_9.wp F Q env w = HC.wp F (.seq (.block 0 h86_8) h86_0) Q env w := rfl
def h86_10 : HC := (.seq (.reg (.eff (.rngS 9) (.cons (.inp 0) .nil) (.done [(6, (.bv 0))] none))) h86_9)
@[simp] theorem h86_10_wp {P : Program} {F : PF P} {Q : EX → List Value → World → Prop} {env : List Value} {w : World} : h86_10.wp F Q env w = HC.wp F (.seq (.reg (.eff (.rngS 9) (.cons (.inp 0) .nil) (.done [(6, (.bv 0))] none))) h86_9) Q env w := rfl
def h86_11 : HC := (.seq (.reg (.chk none .lenS (.cons (.inp 0) .nil) (.eff (.mks 143 21 1 4 (.int .i32 0)) (.cons (.cst (.int .i64 0)) (.cons (.op .lenS (.cons (.inp 0) .nil)) .nil)) (.done [(2, (.bv 0))] none)))) h86_10)
@[simp] theorem h86_11_wp {P : Program} {F : PF P} {Q : EX → List Value → World → Prop} {env : List Value} {w : World} : h86_11.wp F Q env w = HC.wp F (.seq (.reg (.chk none .lenS (.cons (.inp 0) .nil) (.eff (.mks 143 21 1 4 (.int .i32 0)) (.cons (.cst (.int .i64 0)) (.cons (.op .lenS (.cons (.inp 0) .nil)) .nil)) (.done [(2, (.bv 0))] none)))) h86_10) Q env w := rfl
def l86 : Lifted := ⟨[0, 2, 3, 4, 5, 6, 11, 12], 31, [.slot 1], (.seq (.reg (.done [(1, (.cst (.slice none 0 0)))] none)) h86_11)⟩
theorem l86_ok : liftFn F4 86 400 = some l86 := by kernel_rfl


/-- how far a walk over a text has come -/
def iterN (w : World) (b : Nat) : Nat := match w.heap[b]? with
  | some (.stringIter _ p) => p
  | _ => 0
theorem iterN_eq {w0 w : World} {F : Asn} {b p : Nat} {x : ByteArray} (s : St w0 (F * pt b (.stringIter x p)) w) : iterN w b = p := by unfold iterN; rw [s.look]
theorem folded_spec (l : List UInt8) (w0 w : World) (A : Asn) (hl : l.length ≤ 1048576) (s : St w0 A w) :
    CallW Try.prog 86 [.string (mk l)] (fun r w' => St w0 (A * own 21 1 r (foldedF l).length (ints32 (foldedF l))) w') w := by
  have hul := units_len l
  refine callW_of_lift l86_ok (by simp [l86]) ?_
  simp [l86]
  refine eff_mks (l := 0) (c := l.length) s (by omega) (by unfold maxLen; omega) (by omega) rfl ?_
  intro v w1 s1
  simp
  refine eff_rngS s1 ?_
  intro b w2 s2
  simp
  refine loopI (fun env w' => ∃ (i : Nat) (done : List (Int × Nat)) (v x y z t : Value), env = [.string (mk l), .slice none 0 0, v, x, y, z, .pointer (some ⟨b, 0, none⟩), t] ∧
      i ≤ l.length ∧ units l = done ++ units (l.drop i) ∧ St w0 (A * own 21 1 v (foldAll done).length (ints32 (foldAll done)) * pt b (.stringIter (mk l) i)) w')
    (fun _ w => l.length - iterN w b) ⟨0, [], _, _, _, _, _, rfl, by omega, by simp, by simpa [foldAll, ints32] using s2⟩ ?_
  rintro LQ env w' ⟨i, done, v, x, y, z, t, rfl, hi, hu, s'⟩ hN hE hR
  simp
  refine eff_nxtS s' (fun h w2 s2 => ?_) (fun h => ?_)
  · simp at h
    have hle := oneF_le (l := l) (i := i) h
    have hob := oneF_bd (l := l.drop i) (by simp; omega)
    rw [decode_decL, decL_oneF _ (by simp; omega)] at s2
    have hstep := units_step hu h
    rw [decode_decL, decL_oneF _ (by simp; omega)]
    simp
    refine ⟨⟨hl, h⟩, ?_⟩
    have hdl : done.length + 1 ≤ l.length := by rw [hstep] at hul; simp at hul; omega
    have hfl := foldAll_len done
    refine cndI (fun h1 => ?_) (fun h1 => ?_)
    · simp at h1
      simp
      refine eff_bsl2 s2.swap rfl rfl ?_
      intro b2 w3 s3
      simp
      refine eff_app (n := (foldAll done).length) (m := 2) (news := [.int .i32 115, .int .i32 115]) s3.swap rfl s3.cells_look (by simp [Value.oneCell']) (by decide) rfl (by unfold maxLen; omega) (by omega) ?_
      intro v' w4 s4
      simp
      refine hN _ _ ⟨i + (oneF (l.drop i)).2, done ++ [oneF (l.drop i)], v', _, _, _, _, by simp; exact ⟨rfl, rfl, rfl, rfl⟩, hle.1, hstep, ?_⟩ ?_
      · rw [foldAll_snoc, foldU, if_pos h1]
        simpa [ints32] using s4.swap.drop.swap
      · rw [iterN_eq s', iterN_eq s4.swap.drop.swap]; omega
    · simp at h1
      simp
      refine ⟨by omega, ?_⟩
      refine eff_bsl1 s2.swap rfl ?_
      intro b2 w3 s3
      simp
      refine eff_app (n := (foldAll done).length) (m := 1) (news := [.int .i32 (foldF (oneF (l.drop i)).1)]) s3.swap rfl s3.cells_look (by simp [Value.oneCell']) (by decide) rfl (by unfold maxLen; omega) (by omega) ?_
      intro v' w4 s4
      simp
      refine hN _ _ ⟨i + (oneF (l.drop i)).2, done ++ [oneF (l.drop i)], v', _, _, _, _, by simp; exact ⟨rfl, rfl, rfl, rfl⟩, hle.1, hstep, ?_⟩ ?_
      · rw [foldAll_snoc, foldU, if_neg h1]
        simpa [ints32] using s4.swap.drop.swap
      · rw [iterN_eq s', iterN_eq s4.swap.drop.swap]; omega
  · simp at h
    simp
    refine hE _ _ _ ?_
    simp
    have : i = l.length := by omega
    subst this
    rw [List.drop_length, units_nil, List.append_nil] at hu
    rw [foldedF, hu]
    exact s'.drop
end Go.HL.Nm

namespace Go.HL.Nm
open Go.HL Go.Proofs
set_option maxRecDepth 4000
set_option linter.unusedSimpArgs false
set_option linter.unusedVariables false
/-- a rune or a bad byte -/
def okU (u : Int) : Prop := (0 ≤ u ∧ u < 55296) ∨ (57344 ≤ u ∧ u ≤ 1114111) ∨ (2097152 ≤ u ∧ u < 2097408)
/-- the bytes of a unit, as_ numbers -/
def encN (n : Nat) : List Nat :=
  if 2097152 ≤ n then [n - 2097152]
  else if n < 128 then [n]
  else if n < 2048 then [192 + n / 64, 128 + n % 64]
  else if n < 65536 then [224 + n / 4096, 128 + n / 64 % 64, 128 + n % 64]
  else [240 + n / 262144, 128 + n / 4096 % 64, 128 + n / 64 % 64, 128 + n % 64]
def encU (u : Int) : List UInt8 := (encN u.toNat).map UInt8.ofNat
def encAll (us : List Int) : List UInt8 := us.flatMap encU
theorem encN_len (n : Nat) : (encN n).length ≤ 4 := by unfold encN; (repeat' split) <;> simp
theorem encU_len (u : Int) : (encU u).length ≤ 4 := by simp only [encU, List.length_map]; exact encN_len _
theorem encAll_len : ∀ us : List Int, (encAll us).length ≤ 4 * us.length
  | [] => by simp [encAll]
  | u :: us => by
    have := encAll_len us
    have h1 := encU_len u
    simp only [encAll, List.flatMap_cons, List.length_append, List.length_cons] at this ⊢
    omega
theorem encAll_snoc (us : List Int) (u : Int) : encAll (us ++ [u]) = encAll us ++ encU u := by simp [encAll]
theorem bytesV_app (a b : List UInt8) : bytesV (a ++ b) = bytesV a ++ bytesV b := by simp [bytesV]
/-- the values of bytes that are numbers -/
theorem bytesV_nat (l : List Nat) (h : ∀ n ∈ l, n < 256) : bytesV (l.map UInt8.ofNat) = l.map fun n => .int .u8 (n : Int) := by
  simp only [bytesV, List.map_map]
  refine List.map_congr_left fun n hn => ?_
  have := h n hn
  simp
  omega
theorem encN_lt (n : Nat) (h : okU n) : ∀ b ∈ encN n, b < 256 := by
  have hn : n ≤ 1114111 ∨ (2097152 ≤ n ∧ n < 2097408) := by unfold okU at h; omega
  unfold encN
  repeat' split
  all_goals (intro b hb; simp at hb; omega)
theorem encV (n : Nat) (h : okU n) : bytesV (encU n) = (encN n).map fun b => .int .u8 (b : Int) := by
  have := bytesV_nat (encN n) (encN_lt n h)
  simpa [encU] using this
end Go.HL.Nm

namespace Go.HL.Nm
open Go.HL Go.Proofs
set_option maxRecDepth 4000
set_option linter.unusedSimpArgs false
set_option linter.unusedVariables false
theorem fd (n : Nat) (k : Nat) (h : k ≤ 32) : (n : Int).fdiv (2 ^ min k IntKind.i32.bits) = (n : Int) / 2 ^ k := by
  have : min k IntKind.i32.bits = k := Nat.min_eq_left h
  rw [this, Int.fdiv_eq_ediv_of_nonneg]
  exact Int.le_of_lt (Int.pow_pos (by decide))
theorem fd6 (n : Nat) : (n : Int).fdiv (2 ^ min 6 IntKind.i32.bits) = (n : Int) / 64 := fd n 6 (by decide)
theorem fd12 (n : Nat) : (n : Int).fdiv (2 ^ min 12 IntKind.i32.bits) = (n : Int) / 4096 := fd n 12 (by decide)
theorem fd18 (n : Nat) : (n : Int).fdiv (2 ^ min 18 IntKind.i32.bits) = (n : Int) / 262144 := fd n 18 (by decide)
theorem or192' : ∀ m : Fin 32, IntKind.u8.wrap ((192 % 2 ^ IntKind.u8.bits ||| (((m.val : Nat) : Int) % 2 ^ IntKind.u8.bits).toNat : Nat) : Int) = 192 + ((m.val : Nat) : Int) := by decide +kernel
theorem or224' : ∀ m : Fin 16, IntKind.u8.wrap ((224 % 2 ^ IntKind.u8.bits ||| (((m.val : Nat) : Int) % 2 ^ IntKind.u8.bits).toNat : Nat) : Int) = 224 + ((m.val : Nat) : Int) := by decide +kernel
theorem or240' : ∀ m : Fin 8, IntKind.u8.wrap ((240 % 2 ^ IntKind.u8.bits ||| (((m.val : Nat) : Int) % 2 ^ IntKind.u8.bits).toNat : Nat) : Int) = 240 + ((m.val : Nat) : Int) := by decide +kernel
theorem or128' : ∀ m : Fin 64, IntKind.u8.wrap ((128 % 2 ^ IntKind.u8.bits ||| (((m.val : Nat) : Int) % 2 ^ IntKind.u8.bits).toNat : Nat) : Int) = 128 + ((m.val : Nat) : Int) := by decide +kernel
theorem or192 {x : Int} (h : 0 ≤ x) (h2 : x < 32) : IntKind.u8.wrap ((192 % 2 ^ IntKind.u8.bits ||| (x % 2 ^ IntKind.u8.bits).toNat : Nat) : Int) = 192 + x := by
  obtain ⟨m, rfl⟩ := Int.eq_ofNat_of_zero_le h
  exact or192' ⟨m, by omega⟩
theorem or224 {x : Int} (h : 0 ≤ x) (h2 : x < 16) : IntKind.u8.wrap ((224 % 2 ^ IntKind.u8.bits ||| (x % 2 ^ IntKind.u8.bits).toNat : Nat) : Int) = 224 + x := by
  obtain ⟨m, rfl⟩ := Int.eq_ofNat_of_zero_le h
  exact or224' ⟨m, by omega⟩
theorem or240 {x : Int} (h : 0 ≤ x) (h2 : x < 8) : IntKind.u8.wrap ((240 % 2 ^ IntKind.u8.bits ||| (x % 2 ^ IntKind.u8.bits).toNat : Nat) : Int) = 240 + x := by
  obtain ⟨m, rfl⟩ := Int.eq_ofNat_of_zero_le h
  exact or240' ⟨m, by omega⟩
theorem or128 {x : Int} (h : 0 ≤ x) (h2 : x < 64) : IntKind.u8.wrap ((128 % 2 ^ IntKind.u8.bits ||| (x % 2 ^ IntKind.u8.bits).toNat : Nat) : Int) = 128 + x := by
  obtain ⟨m, rfl⟩ := Int.eq_ofNat_of_zero_le h
  exact or128' ⟨m, by omega⟩
theorem and63 {x : Int} (h : 0 ≤ x) : IntKind.u8.wrap (((IntKind.u8.wrap x % 2 ^ IntKind.u8.bits).toNat &&& 63 % 2 ^ IntKind.u8.bits : Nat) : Int) = x % 64 := by
  have e : (63 % 2 ^ IntKind.u8.bits : Nat) = 2 ^ 6 - 1 := rfl
  rw [e, Nat.and_two_pow_sub_one_eq_mod, IntKind.wrap_u8, IntKind.wrap_u8]
  have e2 : (2 ^ IntKind.u8.bits : Int) = 256 := rfl
  rw [e2]
  omega
-- unicode/utf8.appendRuneNonASCII
def h109_0 : HC := (.seq (.reg (.chk none (.bin .shr) (.cons (.inp 1) (.cons (.cst (.int .u64 6)) .nil)) (.chk none (.convI .u8) (.cons (.op (.bin .shr) (.cons (.inp 1) (.cons (.cst (.int .u64 6)) .nil))) .nil) (.chk none (.bin .or) (.cons (.cst (.int .u8 192)) (.cons (.op (.convI .u8) (.cons (.op (.bin .shr) (.cons (.inp 1) (.cons (.cst (.int .u64 6)) .nil))) .nil)) .nil)) (.chk none (.convI .u8) (.cons (.inp 1) .nil) (.chk none (.bin .and) (.cons (.op (.convI .u8) (.cons (.inp 1) .nil)) (.cons (.cst (.int .u8 63)) .nil)) (.chk none (.bin .or) (.cons (.cst (.int .u8 128)) (.cons (.op (.bin .and) (.cons (.op (.convI .u8) (.cons (.inp 1) .nil)) (.cons (.cst (.int .u8 63)) .nil))) .nil)) (.eff (.bsl 5 2 1 #[(.int .u8 0)] [0, 1]) (.cons (.op (.bin .or) (.cons (.cst (.int .u8 192)) (.cons (.op (.convI .u8) (.cons (.op (.bin .shr) (.cons (.inp 1) (.cons (.cst (.int .u64 6)) .nil))) .nil)) .nil))) (.cons (.op (.bin .or) (.cons (.cst (.int .u8 128)) (.cons (.op (.bin .and) (.cons (.op (.convI .u8) (.cons (.inp 1) .nil)) (.cons (.cst (.int .u8 63)) .nil))) .nil))) .nil)) (.eff (.app 157 157 5 1 1 (.int .u8 0)) (.cons (.inp 0) (.cons (.bv 0) .nil)) (.done [(2, (.bv 1))] none)))))))))) .ret)
@[simp] theorem h109_0_wp {P : Program} {F : PF P} {Q : EX → List Value → World → Prop} {env : List Value} {w : World} : h109_0.wp F Q env w = HC.wp F (.seq (.reg (.chk none (.bin .shr) (.cons (.inp 1) (.cons (.cst (.int .u64 6)) .nil)) (.chk none (.convI .u8) (.cons (.op (.bin .shr) (.cons (.inp 1) (.cons (.cst (.int .u64 6)) .nil))) .nil) (.chk none (.bin .or) (.cons (.cst (.int .u8 192)) (.cons (.op (.convI .u8) (.cons (.op (.bin .shr) (.cons (.inp 1) (.cons (.cst (.int .u64 6)) .nil))) .nil)) .nil)) (.chk none (.convI .u8) (.cons (.inp 1) .nil) (.chk none (.bin .and) (.cons (.op (.convI .u8) (.cons (.inp 1) .nil)) (.cons (.cst (.int .u8 63)) .nil)) (.chk none (.bin .or) (.cons (.cst (.int .u8 128)) (.cons (.op (.bin .and) (.cons (.op (.convI .u8) (.cons (.inp 1) .nil)) (.cons (.cst (.int .u8 63)) .nil))) .nil)) (.eff (.bsl 5 2 1 #[(.int .u8 0)] [0, 1]) (.cons (.op (.bin .or) (.cons (.cst (.int .u8 192)) (.cons (.op (.convI .u8) (.cons (.op (.bin .shr) (.cons (.inp 1) (.cons (.cst (.int .u64 6)) .nil))) .nil)) .nil))) (.cons (.op (.bin .or) (.cons (.cst (.int .u8 128)) (.cons (.op (.bin .and) (.cons (.op (.convI .u8) (.cons (.inp 1) .nil)) (.cons (.cst (.int .u8 63)) .nil))) .nil))) .nil)) (.eff (.app 157 157 5 1 1 (.int .u8 0)) (.cons (.inp 0) (.cons (.bv 0) .nil)) (.done [(2, (.bv 1))] none)))))))))) .ret) Q env w := rfl
def h109_1 : HC := (.seq (.reg (.chk none (.bin .shr) (.cons (.inp 1) (.cons (.cst (.int .u64 12)) .nil)) (.chk none (.convI .u8) (.cons (.op (.bin .shr) (.cons (.inp 1) (.cons (.cst (.int .u64 12)) .nil))) .nil) (.chk none (.bin .or) (.cons (.cst (.int .u8 224)) (.cons (.op (.convI .u8) (.cons (.op (.bin .shr) (.cons (.inp 1) (.cons (.cst (.int .u64 12)) .nil))) .nil)) .nil)) (.chk none (.bin .shr) (.cons (.inp 1) (.cons (.cst (.int .u64 6)) .nil)) (.chk none (.convI .u8) (.cons (.op (.bin .shr) (.cons (.inp 1) (.cons (.cst (.int .u64 6)) .nil))) .nil) (.chk none (.bin .and) (.cons (.op (.convI .u8) (.cons (.op (.bin .shr) (.cons (.inp 1) (.cons (.cst (.int .u64 6)) .nil))) .nil)) (.cons (.cst (.int .u8 63)) .nil)) (.chk none (.bin .or) (.cons (.cst (.int .u8 128)) (.cons (.op (.bin .and) (.cons (.op (.convI .u8) (.cons (.op (.bin .shr) (.cons (.inp 1) (.cons (.cst (.int .u64 6)) .nil))) .nil)) (.cons (.cst (.int .u8 63)) .nil))) .nil)) (.chk none (.convI .u8) (.cons (.inp 1) .nil) (.chk none (.bin .and) (.cons (.op (.convI .u8) (.cons (.inp 1) .nil)) (.cons (.cst (.int .u8 63)) .nil)) (.chk none (.bin .or) (.cons (.cst (.int .u8 128)) (.cons (.op (.bin .and) (.cons (.op (.convI .u8) (.cons (.inp 1) .nil)) (.cons (.cst (.int .u8 63)) .nil))) .nil)) (.eff (.bsl 5 3 1 #[(.int .u8 0)] [0, 1, 2]) (.cons (.op (.bin .or) (.cons (.cst (.int .u8 224)) (.cons (.op (.convI .u8) (.cons (.op (.bin .shr) (.cons (.inp 1) (.cons (.cst (.int .u64 12)) .nil))) .nil)) .nil))) (.cons (.op (.bin .or) (.cons (.cst (.int .u8 128)) (.cons (.op (.bin .and) (.cons (.op (.convI .u8) (.cons (.op (.bin .shr) (.cons (.inp 1) (.cons (.cst (.int .u64 6)) .nil))) .nil)) (.cons (.cst (.int .u8 63)) .nil))) .nil))) (.cons (.op (.bin .or) (.cons (.cst (.int .u8 128)) (.cons (.op (.bin .and) (.cons (.op (.convI .u8) (.cons (.inp 1) .nil)) (.cons (.cst (.int .u8 63)) .nil))) .nil))) .nil))) (.eff (.app 157 157 5 1 1 (.int .u8 0)) (.cons (.inp 0) (.cons (.bv 0) .nil)) (.done [(2, (.bv 1))] none)))))))))))))) .ret)
@[simp] theorem h109_1_wp {P : Program} {F : PF P} {Q : EX → List Value → World → Prop} {env : List Value} {w : World} : h109_1.wp F Q env w = HC.wp F (.seq (.reg (.chk none (.bin .shr) (.cons (.inp 1) (.cons (.cst (.int .u64 12)) .nil)) (.chk none (.convI .u8) (.cons (.op (.bin .shr) (.cons (.inp 1) (.cons (.cst (.int .u64 12)) .nil))) .nil) (.chk none (.bin .or) (.cons (.cst (.int .u8 224)) (.cons (.op (.convI .u8) (.cons (.op (.bin .shr) (.cons (.inp 1) (.cons (.cst (.int .u64 12)) .nil))) .nil)) .nil)) (.chk none (.bin .shr) (.cons (.inp 1) (.cons (.cst (.int .u64 6)) .nil)) (.chk none (.convI .u8) (.cons (.op (.bin .shr) (.cons (.inp 1) (.cons (.cst (.int .u64 6)) .nil))) .nil) (.chk none (.bin .and) (.cons (.op (.convI .u8) (.cons (.op (.bin .shr) (.cons (.inp 1) (.cons (.cst (.int .u64 6)) .nil))) .nil)) (.cons (.cst (.int .u8 63)) .nil)) (.chk none (.bin .or) (.cons (.cst (.int .u8 128)) (.cons (.op (.bin .and) (.cons (.op (.convI .u8) (.cons (.op (.bin .shr) (.cons (.inp 1) (.cons (.cst (.int .u64 6)) .nil))) .nil)) (.cons (.cst (.int .u8 63)) .nil))) .nil)) (.chk none (.convI .u8) (.cons (.inp 1) .nil) (.chk none (.bin .and) (.cons (.op (.convI .u8) (.cons (.inp 1) .nil)) (.cons (.cst (.int .u8 63)) .nil)) (.chk none (.bin .or) (.cons (.cst (.int .u8 128)) (.cons (.op (.bin .and) (.cons (.op (.convI .u8) (.cons (.inp 1) .nil)) (.cons (.cst (.int .u8 63)) .nil))) .nil)) (.eff (.bsl 5 3 1 #[(.int .u8 0)] [0, 1, 2]) (.cons (.op (.bin .or) (.cons (.cst (.int .u8 224)) (.cons (.op (.convI .u8) (.cons (.op (.bin .shr) (.cons (.inp 1) (.cons (.cst (.int .u64 12)) .nil))) .nil)) .nil))) (.cons (.op (.bin .or) (.cons (.cst (.int .u8 128)) (.cons (.op (.bin .and) (.cons (.op (.convI .u8) (.cons (.op (.bin .shr) (.cons (.inp 1) (.cons (.cst (.int .u64 6)) .nil))) .nil)) (.cons (.cst (.int .u8 63)) .nil))) .nil))) (.cons (.op (.bin .or) (.cons (.cst (.int .u8 128)) (.cons (.op (.bin .and) (.cons (.op (.convI .u8) (.cons (.inp 1) .nil)) (.cons (.cst (.int .u8 63)) .nil))) .nil))) .nil))) (.eff (.app 157 157 5 1 1 (.int .u8 0)) (.cons (.inp 0) (.cons (.bv 0) .nil)) (.done [(2, (.bv 1))] none)))))))))))))) .ret) Q env w := rfl
def h109_2 : HC := (.seq (.reg (.chk none (.bin .shr) (.cons (.inp 1) (.cons (.cst (.int .u64 18)) .nil)) (.chk none (.convI .u8) (.cons (.op (.bin .shr) (.cons (.inp 1) (.cons (.cst (.int .u64 18)) .nil))) .nil) (.chk none (.bin .or) (.cons (.cst (.int .u8 240)) (.cons (.op (.convI .u8) (.cons (.op (.bin .shr) (.cons (.inp 1) (.cons (.cst (.int .u64 18)) .nil))) .nil)) .nil)) (.chk none (.bin .shr) (.cons (.inp 1) (.cons (.cst (.int .u64 12)) .nil)) (.chk none (.convI .u8) (.cons (.op (.bin .shr) (.cons (.inp 1) (.cons (.cst (.int .u64 12)) .nil))) .nil) (.chk none (.bin .and) (.cons (.op (.convI .u8) (.cons (.op (.bin .shr) (.cons (.inp 1) (.cons (.cst (.int .u64 12)) .nil))) .nil)) (.cons (.cst (.int .u8 63)) .nil)) (.chk none (.bin .or) (.cons (.cst (.int .u8 128)) (.cons (.op (.bin .and) (.cons (.op (.convI .u8) (.cons (.op (.bin .shr) (.cons (.inp 1) (.cons (.cst (.int .u64 12)) .nil))) .nil)) (.cons (.cst (.int .u8 63)) .nil))) .nil)) (.chk none (.bin .shr) (.cons (.inp 1) (.cons (.cst (.int .u64 6)) .nil)) (.chk none (.convI .u8) (.cons (.op (.bin .shr) (.cons (.inp 1) (.cons (.cst (.int .u64 6)) .nil))) .nil) (.chk none (.bin .and) (.cons (.op (.convI .u8) (.cons (.op (.bin .shr) (.cons (.inp 1) (.cons (.cst (.int .u64 6)) .nil))) .nil)) (.cons (.cst (.int .u8 63)) .nil)) (.chk none (.bin .or) (.cons (.cst (.int .u8 128)) (.cons (.op (.bin .and) (.cons (.op (.convI .u8) (.cons (.op (.bin .shr) (.cons (.inp 1) (.cons (.cst (.int .u64 6)) .nil))) .nil)) (.cons (.cst (.int .u8 63)) .nil))) .nil)) (.chk none (.convI .u8) (.cons (.inp 1) .nil) (.chk none (.bin .and) (.cons (.op (.convI .u8) (.cons (.inp 1) .nil)) (.cons (.cst (.int .u8 63)) .nil)) (.chk none (.bin .or) (.cons (.cst (.int .u8 128)) (.cons (.op (.bin .and) (.cons (.op (.convI .u8) (.cons (.inp 1) .nil)) (.cons (.cst (.int .u8 63)) .nil))) .nil)) (.eff (.bsl 5 4 1 #[(.int .u8 0)] [0, 1, 2, 3]) (.cons (.op (.bin .or) (.cons (.cst (.int .u8 240)) (.cons (.op (.convI .u8) (.cons (.op (.bin .shr) (.cons (.inp 1) (.cons (.cst (.int .u64 18)) .nil))) .nil)) .nil))) (.cons (.op (.bin .or) (.cons (.cst (.int .u8 128)) (.cons (.op (.bin .and) (.cons (.op (.convI .u8) (.cons (.op (.bin .shr) (.cons (.inp 1) (.cons (.cst (.int .u64 12)) .nil))) .nil)) (.cons (.cst (.int .u8 63)) .nil))) .nil))) (.cons (.op (.bin .or) (.cons (.cst (.int .u8 128)) (.cons (.op (.bin .and) (.cons (.op (.convI .u8) (.cons (.op (.bin .shr) (.cons (.inp 1) (.cons (.cst (.int .u64 6)) .nil))) .nil)) (.cons (.cst (.int .u8 63)) .nil))) .nil))) (.cons (.op (.bin .or) (.cons (.cst (.int .u8 128)) (.cons (.op (.bin .and) (.cons (.op (.convI .u8) (.cons (.inp 1) .nil)) (.cons (.cst (.int .u8 63)) .nil))) .nil))) .nil)))) (.eff (.app 157 157 5 1 1 (.int .u8 0)) (.cons (.inp 0) (.cons (.bv 0) .nil)) (.done [(2, (.bv 1))] none)))))))))))))))))) .ret)
@[simp] theorem h109_2_wp {P : Program} {F : PF P} {Q : EX → List Value → World → Prop} {env : List Value} {w : World} : h109_2.wp F Q env w = HC.wp F (.seq (.reg (.chk none (.bin .shr) (.cons (.inp 1) (.cons (.cst (.int .u64 18)) .nil)) (.chk none (.convI .u8) (.cons (.op (.bin .shr) (.cons (.inp 1) (.cons (.cst (.int .u64 18)) .nil))) .nil) (.chk none (.bin .or) (.cons (.cst (.int .u8 240)) (.cons (.op (.convI .u8) (.cons (.op (.bin .shr) (.cons (.inp 1) (.cons (.cst (.int .u64 18)) .nil))) .nil)) .nil)) (.chk none (.bin .shr) (.cons (.inp 1) (.cons (.cst (.int .u64 12)) .nil)) (.chk none (.convI .u8) (.cons (.op (.bin .shr) (.cons (.inp 1) (.cons (.cst (.int .u64 12)) .nil))) .nil) (.chk none (.bin .and) (.cons (.op (.convI .u8) (.cons (.op (.bin .shr) (.cons (.inp 1) (.cons (.cst (.int .u64 12)) .nil))) .nil)) (.cons (.cst (.int .u8 63)) .nil)) (.chk none (.bin .or) (.cons (.cst (.int .u8 128)) (.cons (.op (.bin .and) (.cons (.op (.convI .u8) (.cons (.op (.bin .shr) (.cons (.inp 1) (.cons (.cst (.int .u64 12)) .nil))) .nil)) (.cons (.cst (.int .u8 63)) .nil))) .nil)) (.chk none (.bin .shr) (.cons (.inp 1) (.cons (.cst (.int .u64 6)) .nil)) (.chk none (.convI .u8) (.cons (.op (.bin .shr) (.cons (.inp 1) (.cons (.cst (.int .u64 6)) .nil))) .nil) (.chk none (.bin .and) (.cons (.op (.convI .u8) (.cons (.op (.bin .shr) (.cons (.inp 1) (.cons (.cst (.int .u64 6)) .nil))) .nil)) (.cons (.cst (.int .u8 63)) .nil)) (.chk none (.bin .or) (.cons (.cst (.int .u8 128)) (.cons (.op (.bin .and) (.cons (.op (.convI .u8) (.cons (.op (.bin .shr) (.cons (.inp 1) (.cons (.cst (.int .u64 6)) .nil))) .nil)) (.cons (.cst (.int .u8 63)) .nil))) .nil)) (.chk none (.convI .u8) (.cons (.inp 1) .nil) (.chk none (.bin .and) (.cons (.op (.convI .u8) (.cons (.inp 1) .nil)) (.cons (.cst (.int .u8 63)) .nil)) (.chk none (.bin .or) (.cons (.cst (.int .u8 128)) (.cons (.op (.bin .and) (.cons (.op (.convI .u8) (.cons (.inp 1) .nil)) (.cons (.cst (.int .u8 63)) .nil))) .nil)) (.eff (.bsl 5 4 1 #[(.int .u8 0)] [0, 1, 2, 3]) (.cons (.op (.bin .or) (.cons (.cst (.int .u8 240)) (.cons (.op (.convI .u8) (.cons (.op (.bin .shr) (.cons (.inp 1) (.cons (.cst (.int .u64 18)) .nil))) .nil)) .nil))) (.cons (.op (.bin .or) (.cons (.cst (.int .u8 128)) (.cons (.op (.bin .and) (.cons (.op (.convI .u8) (.cons (.op (.bin .shr) (.cons (.inp 1) (.cons (.cst (.int .u64 12)) .nil))) .nil)) (.cons (.cst (.int .u8 63)) .nil))) .nil))) (.cons (.op (.bin .or) (.cons (.cst (.int .u8 128)) (.cons (.op (.bin .and) (.cons (.op (.convI .u8) (.cons (.op (.bin .shr) (.cons (.inp 1) (.cons (.cst (.int .u64 6)) .nil))) .nil)) (.cons (.cst (.int .u8 63)) .nil))) .nil))) (.cons (.op (.bin .or) (.cons (.cst (.int .u8 128)) (.cons (.op (.bin .and) (.cons (.op (.convI .u8) (.cons (.inp 1) .nil)) (.cons (.cst (.int .u8 63)) .nil))) .nil))) .nil)))) (.eff (.app 157 157 5 1 1 (.int .u8 0)) (.cons (.inp 0) (.cons (.bv 0) .nil)) (.done [(2, (.bv 1))] none)))))))))))))))))) .ret) Q env w := rfl
def h109_3 : HC := (.seq (.reg (.eff (.bsl 5 3 1 #[(.int .u8 0)] [0, 1, 2]) (.cons (.cst (.int .u8 239)) (.cons (.cst (.int .u8 191)) (.cons (.cst (.int .u8 189)) .nil))) (.eff (.app 157 157 5 1 1 (.int .u8 0)) (.cons (.inp 0) (.cons (.bv 0) .nil)) (.done [(2, (.bv 1))] none)))) .ret)
@[simp] theorem h109_3_wp {P : Program} {F : PF P} {Q : EX → List Value → World → Prop} {env : List Value} {w : World} : h109_3.wp F Q env w = HC.wp F (.seq (.reg (.eff (.bsl 5 3 1 #[(.int .u8 0)] [0, 1, 2]) (.cons (.cst (.int .u8 239)) (.cons (.cst (.int .u8 191)) (.cons (.cst (.int .u8 189)) .nil))) (.eff (.app 157 157 5 1 1 (.int .u8 0)) (.cons (.inp 0) (.cons (.bv 0) .nil)) (.done [(2, (.bv 1))] none)))) .ret) Q env w := rfl
def h109_4 : HC := (.br (.chk none (.bin .gtr) (.cons (.inp 3) (.cons (.cst (.int .u32 65535)) .nil)) (.bnd (.op (.bin .gtr) (.cons (.inp 3) (.cons (.cst (.int .u32 65535)) .nil))) (.chk (some ((.bv 0), true)) (.bin .leq) (.cons (.inp 3) (.cons (.cst (.int .u32 1114111)) .nil)) (.isb none (.bv 0) (.done [] (some (.ite (.bv 0) true (.op (.bin .leq) (.cons (.inp 3) (.cons (.cst (.int .u32 1114111)) .nil))) (.cst (.bool false))))))))) h109_2 h109_3)
@[simp] theorem h109_4_wp {P : Program} {F : PF P} {Q : EX → List Value → World → Prop} {env : List Value} {w : World} : h109_4.wp F Q env w = HC.wp F (.br (.chk none (.bin .gtr) (.cons (.inp 3) (.cons (.cst (.int .u32 65535)) .nil)) (.bnd (.op (.bin .gtr) (.cons (.inp 3) (.cons (.cst (.int .u32 65535)) .nil))) (.chk (some ((.bv 0), true)) (.bin .leq) (.cons (.inp 3) (.cons (.cst (.int .u32 1114111)) .nil)) (.isb none (.bv 0) (.done [] (some (.ite (.bv 0) true (.op (.bin .leq) (.cons (.inp 3) (.cons (.cst (.int .u32 1114111)) .nil))) (.cst (.bool false))))))))) h109_2 h109_3) Q env w := rfl
def h109_5 : HC := (.cnd 4 h109_1 h109_4)
@[simp] theorem h109_5_wp {P : Program} {F : PF P} {Q : EX → List Value → World → Prop} {env : List Value} {w : World} : h109_5.wp F Q env w = HC.wp F (.cnd 4 h109_1 h109_4) Q env w := rfl
def h109_6 : HC := (.reg (.chk none (.bin .lss) (.cons (.cst (.int .u32 57343)) (.cons (.inp 3) .nil)) (.bnd (.op (.bin .lss) (.cons (.cst (.int .u32 57343)) (.cons (.inp 3) .nil))) (.chk (some ((.bv 0), true)) (.bin .leq) (.cons (.inp 3) (.cons (.cst (.int .u32 65535)) .nil)) (.isb none (.bv 0) (.done [(4, (.ite (.bv 0) true (.op (.bin .leq) (.cons (.inp 3) (.cons (.cst (.int .u32 65535)) .nil))) (.cst (.bool false))))] none))))))
@[simp] theorem h109_6_wp {P : Program} {F : PF P} {Q : EX → List Value → World → Prop} {env : List Value} {w : World} : h109_6.wp F Q env w = HC.wp F (.reg (.chk none (.bin .lss) (.cons (.cst (.int .u32 57343)) (.cons (.inp 3) .nil)) (.bnd (.op (.bin .lss) (.cons (.cst (.int .u32 57343)) (.cons (.inp 3) .nil))) (.chk (some ((.bv 0), true)) (.bin .leq) (.cons (.inp 3) (.cons (.cst (.int .u32 65535)) .nil)) (.isb none (.bv 0) (.done [(4, (.ite (.bv 0) true (.op (.bin .leq) (.cons (.inp 3) (.cons (.cst (.int .u32 65535)) .nil))) (.cst (.bool false))))] none)))))) Q env w := rfl
def h109_7 : HC := (.seq (.cnd 4 .skip h109_6) h109_5)
@[simp] theorem h109_7_wp {P : Program} {F : PF P} {Q : EX → List Value → World → Prop} {env : List Value} {w : World} : h109_7.wp F Q env w = HC.wp F (.seq (.cnd 4 .skip h109_6) h109_5) Q env w := rfl
def h109_8 : HC := (.seq (.reg (.chk none (.bin .lss) (.cons (.inp 3) (.cons (.cst (.int .u32 55296)) .nil)) (.done [(4, (.op (.bin .lss) (.cons (.inp 3) (.cons (.cst (.int .u32 55296)) .nil))))] none))) h109_7)
@[simp] theorem h109_8_wp {P : Program} {F : PF P} {Q : EX → List Value → World → Prop} {env : List Value} {w : World} : h109_8.wp F Q env w = HC.wp F (.seq (.reg (.chk none (.bin .lss) (.cons (.inp 3) (.cons (.cst (.int .u32 55296)) .nil)) (.done [(4, (.op (.bin .lss) (.cons (.inp 3) (.cons (.cst (.int .u32 55296)) .nil))))] none))) h109_7) Q env w := rfl
def h109_9 : HC := (.br (.chk none (.bin .leq) (.cons (.inp 3) (.cons (.cst (.int .u32 2047)) .nil)) (.done [] (some (.op (.bin .leq) (.cons (.inp 3) (.cons (.cst (.int .u32 2047)) .nil)))))) h109_0 h109_8)
@[simp] theorem h109_9_wp {P : Program} {F : PF P} {Q : EX → List Value → World → Prop} {env : List Value} {w : World} : h109_9.wp F Q env w = HC.wp F (.br (.chk none (.bin .leq) (.cons (.inp 3) (.cons (.cst (.int .u32 2047)) .nil)) (.done [] (some (.op (.bin .leq) (.cons (.inp 3) (.cons (.cst (.int .u32 2047)) .nil)))))) h109_0 h109_8) Q env w := rfl
def h109_10 : HC := (.block 0 h109_9)
@[simp] theorem h109_10_wp {P : Program} {F : PF P} {Q : EX → List Value → World → Prop} {env : List Value} {w : World} : h109_10.wp F Q env w = HC.wp F (.block 0 h109_9) Q env w := rfl
def h109_11 : HC := (.seq (.reg (.chk none (.convI .u32) (.cons (.inp 1) .nil) (.done [(3, (.op (.convI .u32) (.cons (.inp 1) .nil)))] none))) h109_10)
@[simp] theorem h109_11_wp {P : Program} {F : PF P} {Q : EX → List Value → World → Prop} {env : List Value} {w : World} : h109_11.wp F Q env w = HC.wp F (.seq (.reg (.chk none (.convI .u32) (.cons (.inp 1) .nil) (.done [(3, (.op (.convI .u32) (.cons (.inp 1) .nil)))] none))) h109_10) Q env w := rfl
def l109 : Lifted := ⟨[0, 1, 4, 5, 25], 78, [.slot 2], (.seq (.reg (.done [(2, (.cst (.slice none 0 0)))] none)) h109_11)⟩
theorem l109_ok : liftFn F4 109 400 = some l109 := by kernel_rfl

-- unicode/utf8.AppendRune
def h107_0 : HC := (.seq (.reg (.eff (.call 109) (.cons (.inp 0) (.cons (.inp 1) .nil)) (.done [(2, (.bv 0))] none))) .ret)
@[simp] theorem h107_0_wp {P : Program} {F : PF P} {Q : EX → List Value → World → Prop} {env : List Value} {w : World} : h107_0.wp F Q env w = HC.wp F (.seq (.reg (.eff (.call 109) (.cons (.inp 0) (.cons (.inp 1) .nil)) (.done [(2, (.bv 0))] none))) .ret) Q env w := rfl
def h107_1 : HC := (.seq (.reg (.chk none (.convI .u8) (.cons (.inp 1) .nil) (.eff (.bsl 5 1 1 #[(.int .u8 0)] [0]) (.cons (.op (.convI .u8) (.cons (.inp 1) .nil)) .nil) (.eff (.app 157 157 5 1 1 (.int .u8 0)) (.cons (.inp 0) (.cons (.bv 0) .nil)) (.done [(2, (.bv 1))] none))))) .ret)
@[simp] theorem h107_1_wp {P : Program} {F : PF P} {Q : EX → List Value → World → Prop} {env : List Value} {w : World} : h107_1.wp F Q env w = HC.wp F (.seq (.reg (.chk none (.convI .u8) (.cons (.inp 1) .nil) (.eff (.bsl 5 1 1 #[(.int .u8 0)] [0]) (.cons (.op (.convI .u8) (.cons (.inp 1) .nil)) .nil) (.eff (.app 157 157 5 1 1 (.int .u8 0)) (.cons (.inp 0) (.cons (.bv 0) .nil)) (.done [(2, (.bv 1))] none))))) .ret) Q env w := rfl
def h107_2 : HC := (.seq (.br (.chk none (.convI .u32) (.cons (.inp 1) .nil) (.chk none (.bin .leq) (.cons (.op (.convI .u32) (.cons (.inp 1) .nil)) (.cons (.cst (.int .u32 127)) .nil)) (.done [] (some (.op (.bin .leq) (.cons (.op (.convI .u32) (.cons (.inp 1) .nil)) (.cons (.cst (.int .u32 127)) .nil))))))) h107_1 .skip) h107_0)
@[simp] theorem h107_2_wp {P : Program} {F : PF P} {Q : EX → List Value → World → Prop} {env : List Value} {w : World} : h107_2.wp F Q env w = HC.wp F (.seq (.br (.chk none (.convI .u32) (.cons (.inp 1) .nil) (.chk none (.bin .leq) (.cons (.op (.convI .u32) (.cons (.inp 1) .nil)) (.cons (.cst (.int .u32 127)) .nil)) (.done [] (some (.op (.bin .leq) (.cons (.op (.convI .u32) (.cons (.inp 1) .nil)) (.cons (.cst (.int .u32 127)) .nil))))))) h107_1 .skip) h107_0) Q env w := rfl
def l107 : Lifted := ⟨[0, 1, 4], 16, [.slot 2], (.seq (.reg (.done [(2, (.cst (.slice none 0 0)))] none)) h107_2)⟩
theorem l107_ok : liftFn F4 107 400 = some l107 := by kernel_rfl

-- bazaar/name.put
def h99_0 : HC := (.seq (.reg (.eff (.call 107) (.cons (.inp 0) (.cons (.inp 1) .nil)) (.done [(2, (.bv 0))] none))) .ret)
@[simp] theorem h99_0_wp {P : Program} {F : PF P} {Q : EX → List Value → World → Prop} {env : List Value} {w : World} : h99_0.wp F Q env w = HC.wp F (.seq (.reg (.eff (.call 107) (.cons (.inp 0) (.cons (.inp 1) .nil)) (.done [(2, (.bv 0))] none))) .ret) Q env w := rfl
def h99_1 : HC := (.seq (.reg (.chk none (.bin .sub) (.cons (.inp 1) (.cons (.cst (.int .i32 2097152)) .nil)) (.chk none (.convI .u8) (.cons (.op (.bin .sub) (.cons (.inp 1) (.cons (.cst (.int .i32 2097152)) .nil))) .nil) (.eff (.bsl 5 1 1 #[(.int .u8 0)] [0]) (.cons (.op (.convI .u8) (.cons (.op (.bin .sub) (.cons (.inp 1) (.cons (.cst (.int .i32 2097152)) .nil))) .nil)) .nil) (.eff (.app 157 157 5 1 1 (.int .u8 0)) (.cons (.inp 0) (.cons (.bv 0) .nil)) (.done [(2, (.bv 1))] none)))))) .ret)
@[simp] theorem h99_1_wp {P : Program} {F : PF P} {Q : EX → List Value → World → Prop} {env : List Value} {w : World} : h99_1.wp F Q env w = HC.wp F (.seq (.reg (.chk none (.bin .sub) (.cons (.inp 1) (.cons (.cst (.int .i32 2097152)) .nil)) (.chk none (.convI .u8) (.cons (.op (.bin .sub) (.cons (.inp 1) (.cons (.cst (.int .i32 2097152)) .nil))) .nil) (.eff (.bsl 5 1 1 #[(.int .u8 0)] [0]) (.cons (.op (.convI .u8) (.cons (.op (.bin .sub) (.cons (.inp 1) (.cons (.cst (.int .i32 2097152)) .nil))) .nil)) .nil) (.eff (.app 157 157 5 1 1 (.int .u8 0)) (.cons (.inp 0) (.cons (.bv 0) .nil)) (.done [(2, (.bv 1))] none)))))) .ret) Q env w := rfl
def h99_2 : HC := (.seq (.br (.chk none (.bin .geq) (.cons (.inp 1) (.cons (.cst (.int .i32 2097152)) .nil)) (.done [] (some (.op (.bin .geq) (.cons (.inp 1) (.cons (.cst (.int .i32 2097152)) .nil)))))) h99_1 .skip) h99_0)
@[simp] theorem h99_2_wp {P : Program} {F : PF P} {Q : EX → List Value → World → Prop} {env : List Value} {w : World} : h99_2.wp F Q env w = HC.wp F (.seq (.br (.chk none (.bin .geq) (.cons (.inp 1) (.cons (.cst (.int .i32 2097152)) .nil)) (.done [] (some (.op (.bin .geq) (.cons (.inp 1) (.cons (.cst (.int .i32 2097152)) .nil)))))) h99_1 .skip) h99_0) Q env w := rfl
def l99 : Lifted := ⟨[0, 1, 4], 16, [.slot 2], (.seq (.reg (.done [(2, (.cst (.slice none 0 0)))] none)) h99_2)⟩
theorem l99_ok : liftFn F4 99 400 = some l99 := by kernel_rfl

-- bazaar/name.text
def h85_0 : HC := (.seq (.reg (.eff (.b2s 157 9) (.cons (.inp 2) .nil) (.done [(1, (.bv 0))] none))) .ret)
@[simp] theorem h85_0_wp {P : Program} {F : PF P} {Q : EX → List Value → World → Prop} {env : List Value} {w : World} : h85_0.wp F Q env w = HC.wp F (.seq (.reg (.eff (.b2s 157 9) (.cons (.inp 2) .nil) (.done [(1, (.bv 0))] none))) .ret) Q env w := rfl
def h85_1 : HC := (.reg (.chk none (.bin .add) (.cons (.inp 6) (.cons (.cst (.int .i64 1)) .nil)) (.done [(6, (.op (.bin .add) (.cons (.inp 6) (.cons (.cst (.int .i64 1)) .nil))))] none)))
@[simp] theorem h85_1_wp {P : Program} {F : PF P} {Q : EX → List Value → World → Prop} {env : List Value} {w : World} : h85_1.wp F Q env w = HC.wp F (.reg (.chk none (.bin .add) (.cons (.inp 6) (.cons (.cst (.int .i64 1)) .nil)) (.done [(6, (.op (.bin .add) (.cons (.inp 6) (.cons (.cst (.int .i64 1)) .nil))))] none))) Q env w := rfl
def h85_2 : HC := (.reg (.eff (.call 99) (.cons (.inp 2) (.cons (.inp 3) .nil)) (.done [(2, (.bv 0))] none)))
@[simp] theorem h85_2_wp {P : Program} {F : PF P} {Q : EX → List Value → World → Prop} {env : List Value} {w : World} : h85_2.wp F Q env w = HC.wp F (.reg (.eff (.call 99) (.cons (.inp 2) (.cons (.inp 3) .nil)) (.done [(2, (.bv 0))] none))) Q env w := rfl
def h85_3 : HC := (.seq (.reg (.chk none (.idxL 1) (.cons (.inp 4) (.cons (.inp 6) .nil)) (.eff (.ld false 1) (.cons (.op (.idxL 1) (.cons (.inp 4) (.cons (.inp 6) .nil))) .nil) (.done [(3, (.bv 0))] none)))) h85_2)
@[simp] theorem h85_3_wp {P : Program} {F : PF P} {Q : EX → List Value → World → Prop} {env : List Value} {w : World} : h85_3.wp F Q env w = HC.wp F (.seq (.reg (.chk none (.idxL 1) (.cons (.inp 4) (.cons (.inp 6) .nil)) (.eff (.ld false 1) (.cons (.op (.idxL 1) (.cons (.inp 4) (.cons (.inp 6) .nil))) .nil) (.done [(3, (.bv 0))] none)))) h85_2) Q env w := rfl
def h85_4 : HC := (.seq (.block 1 h85_3) h85_1)
@[simp] theorem h85_4_wp {P : Program} {F : PF P} {Q : EX → List Value → World → Prop} {env : List Value} {w : World} : h85_4.wp F Q env w = HC.wp F (.seq (.block 1 h85_3) h85_1) Q env w := rfl
def h85_5 : HC := (.seq (.br (.chk none (.bin .lss) (.cons (.inp 6) (.cons (.inp 5) .nil)) (.done [] (some (.op (.bin .lss) (.cons (.inp 6) (.cons (.inp 5) .nil)))))) .skip (.exit 0)) h85_4)
@[simp] theorem h85_5_wp {P : Program} {F : PF P} {Q : EX → List Value → World → Prop} {env : List Value} {w : World} : h85_5.wp F Q env w = HC.wp F (.seq (.br (.chk none (.bin .lss) (.cons (.inp 6) (.cons (.inp 5) .nil)) (.done [] (some (.op (.bin .lss) (.cons (.inp 6) (.cons (.inp 5) .nil)))))) .skip (.exit 0)) h85_4) Q env w := rfl
def h85_6 : HC := (.loop h85_5)
@[simp] theorem h85_6_wp {P : Program} {F : PF P} {Q : EX → List Value → World → Prop} {env : List Value} {w : World} : h85_6.wp F Q env w = HC.wp F (.loop h85_5) Q env w := rfl
def h85_7 : HC := (.seq (.block 0 h85_6) h85_0)
@[simp] theorem h85_7_wp {P : Program} {F : PF P} {Q : EX → List Value → World → Prop} {env : List Value} {w : World} : h85_7.wp F Q env w = HC.wp F (.seq (.block 0 h85_6) h85_0) Q env w := rfl
def h85_8 : HC := (.seq (.reg (.chk none .lenL (.cons (.inp 0) .nil) (.done [(4, (.inp 0)), (5, (.op .lenL (.cons (.inp 0) .nil))), (6, (.cst (.int .i64 0)))] none))) h85_7)
@[simp] theorem h85_8_wp {P : Program} {F : PF P} {Q : EX → List Value → World → Prop} {env : List Value} {w : World} : h85_8.wp F Q env w = HC.wp F (.seq (.reg (.chk none .lenL (.cons (.inp 0) .nil) (.done [(4, (.inp 0)), (5, (.op .lenL (.cons (.inp 0) .nil))), (6, (.cst (.int .i64 0)))] none))) h85_7) Q env w := rfl
def h85_9 : HC := (.seq (.reg (.done [(2, (.cst (.slice none 0 0)))] none)) h85_8)
@[simp] theorem h85_9_wp {P : Program} {F : PF P} {Q : EX → List Value → World → Prop} {env : List Value} {w : World} : h85_9.wp F Q env w = HC.wp F (.seq (.reg (.done [(2, (.cst (.slice none 0 0)))] none)) h85_8) Q env w := rfl
def l85 : Lifted := ⟨[0, 2, 3, 5, 6, 7, 8], 18, [.slot 1], (.seq (.reg (.done [(1, (.cst (.string ⟨#[]⟩)))] none)) h85_9)⟩
theorem l85_ok : liftFn F4 85 400 = some l85 := by kernel_rfl


theorem nonascii_spec (n : Nat) (bs : List UInt8) (v : Value) (w0 w : World) (A : Asn) (hl : bs.length ≤ 16777216) (hu : okU n) (h128 : 128 ≤ n) (hbad : n < 2097152) (s : St w0 (A * own 5 1 v bs.length (bytesV bs)) w) :
    CallW Try.prog 109 [v, .int .i32 n] (fun r w' => St w0 (A * own 5 1 r (bs.length + (encU n).length) (bytesV (bs ++ encU n))) w') w := by
  have hn : n ≤ 1114111 ∧ ¬ (55296 ≤ n ∧ n < 57344) := by unfold okU at hu; omega
  have hlen : (encU n).length = (encN n).length := by simp [encU]
  rw [bytesV_app, encV n hu, hlen]
  refine callW_of_lift l109_ok (by simp [l109]) ?_
  simp [l109]
  try simp (disch := omega) only [wrapu32]
  refine cndI (fun h1 => ?_) (fun h1 => ?_)
  · simp at h1
    have e : encN n = [192 + n / 64, 128 + n % 64] := by unfold encN; rw [if_neg (by omega), if_neg (by omega), if_pos (by omega)]
    rw [e]
    simp
    try simp (disch := omega) only [fd6, and63, wrapu8, or192, or128]
    refine eff_bsl2 s rfl rfl ?_
    intro b w1 s1
    simp
    refine eff_app (n := bs.length) (m := 2) (news := [.int .u8 (192 + n / 64), .int .u8 (128 + n % 64)]) s1.swap rfl s1.cells_look (by simp [Value.oneCell']) (by decide) rfl (by unfold maxLen; omega) (by omega) ?_
    intro v' w2 s2
    simp
    exact s2.swap.drop
  simp at h1
  simp
  refine cndI (fun h2 => ?_) (fun h2 => ?_)
  · simp at h2
    simp [h2]
    have e : encN n = [224 + n / 4096, 128 + n / 64 % 64, 128 + n % 64] := by unfold encN; rw [if_neg (by omega), if_neg (by omega), if_neg (by omega), if_pos (by omega)]
    rw [e]
    simp
    try simp (disch := omega) only [fd12, fd6, and63, wrapu8, or224, or128]
    refine eff_bsl3 s rfl rfl rfl ?_
    intro b w1 s1
    simp
    refine eff_app (n := bs.length) (m := 3) (news := [.int .u8 (224 + n / 4096), .int .u8 (128 + n / 64 % 64), .int .u8 (128 + n % 64)]) s1.swap rfl s1.cells_look (by simp [Value.oneCell']) (by decide) rfl (by unfold maxLen; omega) (by omega) ?_
    intro v' w2 s2
    simp
    exact s2.swap.drop
  simp at h2
  have h2' : ¬ (n : Int) < 55296 := by omega
  have h57 : (57343 : Int) < n := by omega
  simp [h57]
  refine cndI (fun h3 => ?_) (fun h3 => ?_)
  · simp at h3
    have e : encN n = [224 + n / 4096, 128 + n / 64 % 64, 128 + n % 64] := by unfold encN; rw [if_neg (by omega), if_neg (by omega), if_neg (by omega), if_pos (by omega)]
    rw [e]
    simp
    try simp (disch := omega) only [fd12, fd6, and63, wrapu8, or224, or128]
    refine eff_bsl3 s rfl rfl rfl ?_
    intro b w1 s1
    simp
    refine eff_app (n := bs.length) (m := 3) (news := [.int .u8 (224 + n / 4096), .int .u8 (128 + n / 64 % 64), .int .u8 (128 + n % 64)]) s1.swap rfl s1.cells_look (by simp [Value.oneCell']) (by decide) rfl (by unfold maxLen; omega) (by omega) ?_
    intro v' w2 s2
    simp
    exact s2.swap.drop
  simp at h3
  have h4 : (65535 : Int) < n := by omega
  have h5 : (n : Int) ≤ 1114111 := by omega
  have e : encN n = [240 + n / 262144, 128 + n / 4096 % 64, 128 + n / 64 % 64, 128 + n % 64] := by unfold encN; rw [if_neg (by omega), if_neg (by omega), if_neg (by omega), if_neg (by omega)]
  rw [e]
  simp [h4, h5]
  try simp (disch := omega) only [fd18, fd12, fd6, and63, wrapu8, or240, or128]
  refine eff_bsl4 s rfl rfl rfl rfl ?_
  intro b w1 s1
  simp
  refine eff_app (n := bs.length) (m := 4) (news := [.int .u8 (240 + n / 262144), .int .u8 (128 + n / 4096 % 64), .int .u8 (128 + n / 64 % 64), .int .u8 (128 + n % 64)]) s1.swap rfl s1.cells_look (by simp [Value.oneCell']) (by decide) rfl (by unfold maxLen; omega) (by omega) ?_
  intro v' w2 s2
  simp
  exact s2.swap.drop
theorem apprune_spec (n : Nat) (bs : List UInt8) (v : Value) (w0 w : World) (A : Asn) (hl : bs.length ≤ 16777216) (hu : okU n) (hbad : n < 2097152) (s : St w0 (A * own 5 1 v bs.length (bytesV bs)) w) :
    CallW Try.prog 107 [v, .int .i32 n] (fun r w' => St w0 (A * own 5 1 r (bs.length + (encU n).length) (bytesV (bs ++ encU n))) w') w := by
  refine callW_of_lift l107_ok (by simp [l107]) ?_
  simp [l107]
  try simp (disch := omega) only [wrapu32]
  refine cndI (fun h1 => ?_) (fun h1 => ?_)
  · simp at h1
    have e : encN n = [n] := by unfold encN; rw [if_neg (by omega), if_pos (by omega)]
    have hlen : (encU n).length = 1 := by simp [encU, e]
    rw [bytesV_app, encV n hu, hlen, e]
    simp
    try simp (disch := omega) only [wrapu8]
    refine eff_bsl1 s rfl ?_
    intro b w1 s1
    simp
    refine eff_app (n := bs.length) (m := 1) (news := [.int .u8 n]) s1.swap rfl s1.cells_look (by simp [Value.oneCell']) (by decide) rfl (by unfold maxLen; omega) (by omega) ?_
    intro v' w2 s2
    simp
    exact s2.swap.drop
  simp at h1
  simp
  refine eff_call ((nonascii_spec n bs v w0 w A hl hu (by omega) hbad s).mono ?_)
  intro r w2 s2
  simp
  exact s2
theorem put_spec (n : Nat) (bs : List UInt8) (v : Value) (w0 w : World) (A : Asn) (hl : bs.length ≤ 16777216) (hu : okU n) (s : St w0 (A * own 5 1 v bs.length (bytesV bs)) w) :
    CallW Try.prog 99 [v, .int .i32 n] (fun r w' => St w0 (A * own 5 1 r (bs.length + (encU n).length) (bytesV (bs ++ encU n))) w') w := by
  refine callW_of_lift l99_ok (by simp [l99]) ?_
  simp [l99]
  refine cndI (fun h1 => ?_) (fun h1 => ?_)
  · simp at h1
    have hn : n < 2097408 := by unfold okU at hu; omega
    have e : encN n = [n - 2097152] := by unfold encN; rw [if_pos (by omega)]
    have hlen : (encU n).length = 1 := by simp [encU, e]
    have hsub : ((n - 2097152 : Nat) : Int) = (n : Int) - 2097152 := by omega
    rw [bytesV_app, encV n hu, hlen, e]
    simp
    try simp (disch := omega) only [wrapu8, wrap32]
    refine eff_bsl1 s rfl ?_
    intro b w1 s1
    simp
    refine eff_app (n := bs.length) (m := 1) (news := [.int .u8 (n - 2097152)]) s1.swap rfl s1.cells_look (by simp [Value.oneCell']) (by decide) rfl (by unfold maxLen; omega) (by omega) ?_
    intro v' w2 s2
    simp
    rw [hsub]
    exact s2.swap.drop
  simp at h1
  simp
  refine eff_call ((apprune_spec n bs v w0 w A hl hu (by omega) s).mono ?_)
  intro r w2 s2
  simp
  exact s2
theorem text_spec (us : List Int) (v : Value) (w0 w : World) (A : Asn) (hl : us.length ≤ 4194304) (hok : ∀ u ∈ us, okU u) (s : St w0 (A * own 21 1 v us.length (ints32 us)) w) :
    CallW Try.prog 85 [v] (fun r w' => r = .string (mk (encAll us)) ∧ St w0 (A * own 21 1 v us.length (ints32 us)) w') w := by
  obtain ⟨a1, c1, rfl, hc1, hn1⟩ := s.own_val
  refine callW_of_lift l85_ok (by simp [l85]) ?_
  simp [l85]
  refine loopI (fun env w' => ∃ (i : Nat) (v x : Value), env = [.slice a1 us.length c1, .string (mk []), v, x, .slice a1 us.length c1, .int .i64 us.length, .int .i64 i] ∧ i ≤ us.length ∧
      St w0 (A * own 21 1 (.slice a1 us.length c1) us.length (ints32 us) * own 5 1 v (encAll (us.take i)).length (bytesV (encAll (us.take i)))) w')
    (fun env _ => us.length - slotN env 6) ⟨0, _, _, rfl, by omega, by simpa [encAll, bytesV] using s.own_nil 5 1⟩ ?_
  rintro LQ env w' ⟨i, v, x, rfl, hi, s'⟩ hN hE hR
  simp
  refine cndI (fun h => ?_) (fun h => ?_)
  · simp at h
    obtain ⟨g1, c1', e1, _, hcell⟩ := s'.swap.own_at (by omega)
    cases e1
    have hui := hcell i (.int .i32 us[i]) (by simp [ints32, h])
    simp
    refine ⟨h, eff_ldc hui ?_⟩
    simp
    have hub := hok us[i] (List.getElem_mem h)
    obtain ⟨m, hm⟩ := Int.eq_ofNat_of_zero_le (show 0 ≤ us[i] by unfold okU at hub; omega)
    rw [hm] at hub
    rw [hm]
    have hfl := encAll_len (us.take i)
    rw [List.length_take] at hfl
    refine eff_call ((put_spec m _ v w0 _ _ (by omega) hub s').mono ?_)
    intro r w2 s2
    simp
    try simp (disch := omega) only [wrap64]
    refine hN _ _ ⟨i + 1, r, _, by simp; rfl, h, ?_⟩ (by simp [slotN]; omega)
    rw [List.take_succ_eq_append_getElem h, encAll_snoc, hm, List.length_append]
    exact s2
  · simp at h
    simp
    refine hE _ _ _ ?_
    simp
    have : i = us.length := by omega
    subst this
    rw [List.take_length] at s'
    refine eff_b2s s' ?_
    simp
    exact s'.drop
end Go.HL.Nm

namespace Go.HL.Nm
open Go.HL Go.Proofs
set_option maxRecDepth 4000
set_option linter.unusedSimpArgs false
set_option linter.unusedVariables false
def likeL : List UInt8 := [48, 206, 191, 208, 190, 49, 206, 177, 208, 176, 209, 129, 208, 181, 209, 145, 206, 185, 206, 186, 208, 186, 207, 129, 209, 128, 207, 132, 209, 130, 207, 133, 206, 189, 207, 135, 209, 133, 206, 179, 209, 131, 32, 95]
def lookL : List UInt8 := [111, 111, 111, 108, 97, 97, 99, 101, 101, 105, 107, 107, 112, 112, 116, 116, 117, 118, 120, 120, 121, 121, 45, 45]
def tabL : List UInt8 := [97, 97, 97, 97, 97, 97, 230, 99, 101, 101, 101, 101, 105, 105, 105, 105, 240, 110, 111, 111, 111, 111, 111, 247, 111, 117, 117, 117, 117, 121, 254, 121]
def likeU : List (Int × Nat) := [(48, 1), (959, 2), (1086, 2), (49, 1), (945, 2), (1072, 2), (1089, 2), (1077, 2), (1105, 2), (953, 2), (954, 2), (1082, 2), (961, 2), (1088, 2), (964, 2), (1090, 2), (965, 2), (957, 2), (967, 2), (1093, 2), (947, 2), (1091, 2), (32, 1), (95, 1)]
end Go.HL.Nm

namespace Go.HL.Nm
open Go.HL Go.Proofs
set_option maxRecDepth 4000
set_option linter.unusedSimpArgs false
set_option linter.unusedVariables false
theorem chkF_ok (b : Int) (r : List UInt8) (v : Int) (n : Nat) (least : Int) (hb : 0 ≤ b ∧ b < 256) (hv : 0 ≤ v) : okU (chkF b r v n least).1 := by
  unfold chkF okU
  split
  · rename_i u hu
    have := tailF_bd n r v u hv hu
    split
    · simp only; omega
    · simp only; omega
  · simp only; omega
theorem oneF_okU {l : List UInt8} (h : l ≠ []) : okU (oneF l).1 := by
  cases l with
  | nil => exact absurd rfl h
  | cons c r =>
    have hc := c.toNat_lt
    rw [oneF_cons]
    split
    · unfold okU; simp only; omega
    split
    · exact chkF_ok c.toNat r (c.toNat - 192) 1 128 (by omega) (by omega)
    split
    · exact chkF_ok c.toNat r (c.toNat - 224) 2 2048 (by omega) (by omega)
    split
    · exact chkF_ok c.toNat r (c.toNat - 240) 3 65536 (by omega) (by omega)
    · unfold okU; simp only; omega
theorem okU_foldF {u : Int} (h : okU u) : okU (foldF u) := by unfold okU at h ⊢; unfold foldF; repeat' split
                                                              all_goals omega
/-- two that look like one -/
def pairF : List Int → List Int
  | 114 :: 110 :: r => 109 :: pairF r
  | 118 :: 118 :: r => 119 :: pairF r
  | u :: r => u :: pairF r
  | [] => []
def lookF (l : List UInt8) : List Int := pairF ((foldedF l).map looksF)
theorem units_ok : ∀ (n : Nat) (l : List UInt8), l.length ≤ n → ∀ u ∈ units l, okU u.1
  | 0, l, h => by
    have : l = [] := List.eq_nil_of_length_eq_zero (by omega)
    subst this
    simp [units_nil]
  | n + 1, l, h => by
    by_cases he : l = []
    · subst he; simp [units_nil]
    · have hb := oneF_bd he
      rw [units_cons he]
      intro u hu
      rcases List.mem_cons.1 hu with rfl | hu
      · exact oneF_okU he
      · exact units_ok n _ (by simp; omega) u hu
theorem folded_ok (l : List UInt8) : ∀ u ∈ foldedF l, okU u := by
  intro u hu
  simp only [foldedF, foldAll, List.mem_flatMap] at hu
  obtain ⟨x, hx, hu⟩ := hu
  have hk := units_ok _ l (Nat.le_refl _) x hx
  unfold foldU at hu
  split at hu
  · have : u = 115 := by simpa using hu
    subst this
    exact .inl (by omega)
  · have : u = foldF x.1 := by simpa using hu
    subst this
    exact okU_foldF hk
theorem folded_len (l : List UInt8) : (foldedF l).length ≤ 2 * l.length := by
  have h1 := foldAll_len (units l)
  have h2 := units_len l
  unfold foldedF
  omega
-- bazaar/name.Fold
def h73_0 : HC := (.seq (.reg (.eff (.call 86) (.cons (.inp 0) .nil) (.eff (.call 85) (.cons (.bv 0) .nil) (.done [(1, (.bv 1))] none)))) .ret)
@[simp] theorem h73_0_wp {P : Program} {F : PF P} {Q : EX → List Value → World → Prop} {env : List Value} {w : World} : h73_0.wp F Q env w = HC.wp F (.seq (.reg (.eff (.call 86) (.cons (.inp 0) .nil) (.eff (.call 85) (.cons (.bv 0) .nil) (.done [(1, (.bv 1))] none)))) .ret) Q env w := rfl
def l73 : Lifted := ⟨[0, 2], 6, [.slot 1], (.seq (.reg (.done [(1, (.cst (.string ⟨#[]⟩)))] none)) h73_0)⟩
theorem l73_ok : liftFn F4 73 400 = some l73 := by kernel_rfl


theorem Fold_spec (l : List UInt8) (w0 w : World) (A : Asn) (hl : l.length ≤ 1048576) (s : St w0 A w) :
    CallW Try.prog 73 [.string (mk l)] (fun r w' => r = .string (mk (encAll (foldedF l))) ∧ St w0 A w') w := by
  have hfl := folded_len l
  refine callW_of_lift l73_ok (by simp [l73]) ?_
  simp [l73]
  refine eff_call ((folded_spec l w0 w A hl s).mono ?_)
  intro v w1 s1
  simp
  refine eff_call ((text_spec _ v w0 w1 A (by omega) (folded_ok l) s1).mono ?_)
  rintro r w2 ⟨rfl, s2⟩
  simp
  exact s2.drop
end Go.HL.Nm

namespace Go.HL.Nm
open Go.HL Go.Proofs
set_option maxRecDepth 4000
set_option linter.unusedSimpArgs false
set_option linter.unusedVariables false
/-- the first i turned -/
def half (f : Int → Int) : Nat → List Int → List Int
  | _, [] => []
  | 0, a :: l => a :: l
  | i + 1, a :: l => f a :: half f i l
theorem ints_at {l : List Int} {i : Nat} {x : Int} (h : l[i]? = some x) : (ints l)[i]? = some (.int .i64 x) := by simp [ints, h]
end Go.HL.Nm

namespace Go.HL.Nm
open Go.HL Go.Proofs
set_option maxRecDepth 4000
set_option linter.unusedSimpArgs false
set_option linter.unusedVariables false
/-- a slice of numbers, as_ it is seen while A holds -/
def View (w0 : World) (A : Asn) (k : IntKind) (v : Value) (xs : List Int) : Prop :=
  ∃ a cap, v = .slice a xs.length cap ∧ xs.length ≤ cap ∧ (0 < xs.length → ∃ g o, a = some ⟨g, o, none⟩ ∧ ∀ w, St w0 A w → ∀ j u, xs[j]? = some u → w.cell? ⟨g, o + j, none⟩ = some (.int k u))
theorem View.mono {w0 : World} {A B : Asn} {k : IntKind} {v : Value} {xs : List Int} (h : View w0 A k v xs) (hs : ∀ w, St w0 B w → St w0 A w) : View w0 B k v xs := by
  obtain ⟨a, cap, hv, hc, h⟩ := h
  refine ⟨a, cap, hv, hc, fun h0 => ?_⟩
  obtain ⟨g, o, ha, h⟩ := h h0
  exact ⟨g, o, ha, fun w s => h w (hs w s)⟩
end Go.HL.Nm

namespace Go.HL.Nm
open Go.HL Go.Proofs
set_option maxRecDepth 4000
set_option linter.unusedSimpArgs false
set_option linter.unusedVariables false
/-- may this unit not stand here? (j: a joiner may not) -/
def badAt (j : Bool) (u : Int) : Bool := !letterF u && (j || !joinerF u)
/-- the first place at fault; the last unit may be no joiner -/
def faultF : Bool → Nat → List (Int × Nat) → Option Nat
  | _, _, [] => none
  | j, p, u :: r => if badAt (j || r.isEmpty) u.1 then some p else faultF (joinerF u.1) (p + u.2) r
/-- the same, but for the last unit -/
def faultP : Bool → Nat → List (Int × Nat) → Option Nat
  | _, _, [] => none
  | j, p, u :: r => if badAt j u.1 then some p else faultP (joinerF u.1) (p + u.2) r
def lastJ : Bool → List (Int × Nat) → Bool
  | j, [] => j
  | _, u :: r => lastJ (joinerF u.1) r
def lastP : Nat → Nat → List (Int × Nat) → Nat
  | d, _, [] => d
  | _, p, u :: r => lastP p (p + u.2) r
theorem joiner_letter {u : Int} (h : joinerF u = true) : letterF u = false := by
  simp only [joinerF, Bool.or_eq_true, decide_eq_true_eq] at h
  rcases h with (h | h) | h <;> subst h <;> decide
theorem fault_eq : ∀ (r : List (Int × Nat)) (j : Bool) (p d : Nat), r ≠ [] → faultF j p r = (match faultP j p r with | some q => some q | none => if lastJ j r then some (lastP d p r) else none)
  | [], _, _, _, h => absurd rfl h
  | [u], j, p, d, _ => by
    cases hj : joinerF u.1 <;> cases hl : letterF u.1 <;> cases j <;> (first | (simp [faultF, faultP, lastJ, lastP, badAt, hj, hl]; done) | (have := joiner_letter hj; rw [hl] at this; cases this))
  | u :: v :: r, j, p, d, _ => by
    have ih := fault_eq (v :: r) (joinerF u.1) (p + u.2) p (by simp)
    rw [faultF, faultP]
    simp only [List.isEmpty_cons, Bool.or_false]
    cases badAt j u.1
    · simp only [Bool.false_eq_true, if_false]; rw [ih]; rfl
    · rfl
theorem faultP_snoc : ∀ (r : List (Int × Nat)) (u : Int × Nat) (j : Bool) (p : Nat), faultP j p (r ++ [u]) = (match faultP j p r with | some q => some q | none => if badAt (lastJ j r) u.1 then some (p + sumW r) else none)
  | [], u, j, p => by cases h : badAt j u.1 <;> simp [faultP, lastJ, sumW, h]
  | v :: r, u, j, p => by
    have ih := faultP_snoc r u (joinerF v.1) (p + v.2)
    cases h : badAt j v.1
    · simp only [List.cons_append, faultP, lastJ, sumW, h, Bool.false_eq_true, if_false]
      rw [ih, Nat.add_assoc]
      rfl
    · simp [faultP, h]
theorem lastJ_snoc : ∀ (r : List (Int × Nat)) (u : Int × Nat) (j : Bool), lastJ j (r ++ [u]) = joinerF u.1
  | [], u, j => rfl
  | v :: r, u, j => by simp only [List.cons_append, lastJ]; exact lastJ_snoc r u _
theorem lastP_snoc : ∀ (r : List (Int × Nat)) (u : Int × Nat) (d p : Nat), lastP d p (r ++ [u]) = p + sumW r
  | [], u, d, p => by simp [lastP, sumW]
  | v :: r, u, d, p => by simp only [List.cons_append, lastP, sumW]; rw [lastP_snoc r u]; omega
def optI : Option Nat → Int
  | some q => q
  | none => -1
/-- the answer: a place, an error's number -/
def checkF (l : List UInt8) : Int × Int :=
  if l = [] then (0, 41)
  else if 24 < (units l).length then (sumW ((units l).take 24), 42)
  else match faultF true 0 (units l) with
    | some p => (p, 40)
    | none => (0, 0)
-- bazaar/name.Check
def h54_0 : HC := (.seq (.reg (.done [(1, (.cst (.int .i64 0))), (2, (.cst (.int .i64 0)))] none)) .ret)
@[simp] theorem h54_0_wp {P : Program} {F : PF P} {Q : EX → List Value → World → Prop} {env : List Value} {w : World} : h54_0.wp F Q env w = HC.wp F (.seq (.reg (.done [(1, (.cst (.int .i64 0))), (2, (.cst (.int .i64 0)))] none)) .ret) Q env w := rfl
def h54_1 : HC := (.seq (.reg (.done [(1, (.inp 4)), (2, (.cst (.int .i64 40)))] none)) .ret)
@[simp] theorem h54_1_wp {P : Program} {F : PF P} {Q : EX → List Value → World → Prop} {env : List Value} {w : World} : h54_1.wp F Q env w = HC.wp F (.seq (.reg (.done [(1, (.inp 4)), (2, (.cst (.int .i64 40)))] none)) .ret) Q env w := rfl
def h54_2 : HC := (.seq (.br (.chk none (.bin .geq) (.cons (.inp 4) (.cons (.cst (.int .i64 0)) .nil)) (.done [] (some (.op (.bin .geq) (.cons (.inp 4) (.cons (.cst (.int .i64 0)) .nil)))))) h54_1 .skip) h54_0)
@[simp] theorem h54_2_wp {P : Program} {F : PF P} {Q : EX → List Value → World → Prop} {env : List Value} {w : World} : h54_2.wp F Q env w = HC.wp F (.seq (.br (.chk none (.bin .geq) (.cons (.inp 4) (.cons (.cst (.int .i64 0)) .nil)) (.done [] (some (.op (.bin .geq) (.cons (.inp 4) (.cons (.cst (.int .i64 0)) .nil)))))) h54_1 .skip) h54_0) Q env w := rfl
def h54_3 : HC := (.reg (.done [(4, (.inp 5))] none))
@[simp] theorem h54_3_wp {P : Program} {F : PF P} {Q : EX → List Value → World → Prop} {env : List Value} {w : World} : h54_3.wp F Q env w = HC.wp F (.reg (.done [(4, (.inp 5))] none)) Q env w := rfl
def h54_4 : HC := (.seq (.br (.chk none (.bin .lss) (.cons (.inp 4) (.cons (.cst (.int .i64 0)) .nil)) (.bnd (.op (.bin .lss) (.cons (.inp 4) (.cons (.cst (.int .i64 0)) .nil))) (.isb none (.bv 0) (.done [] (some (.ite (.bv 0) true (.inp 6) (.cst (.bool false)))))))) h54_3 .skip) h54_2)
@[simp] theorem h54_4_wp {P : Program} {F : PF P} {Q : EX → List Value → World → Prop} {env : List Value} {w : World} : h54_4.wp F Q env w = HC.wp F (.seq (.br (.chk none (.bin .lss) (.cons (.inp 4) (.cons (.cst (.int .i64 0)) .nil)) (.bnd (.op (.bin .lss) (.cons (.inp 4) (.cons (.cst (.int .i64 0)) .nil))) (.isb none (.bv 0) (.done [] (some (.ite (.bv 0) true (.inp 6) (.cst (.bool false)))))))) h54_3 .skip) h54_2) Q env w := rfl
def h54_5 : HC := (.reg (.done [(5, (.inp 7))] none))
@[simp] theorem h54_5_wp {P : Program} {F : PF P} {Q : EX → List Value → World → Prop} {env : List Value} {w : World} : h54_5.wp F Q env w = HC.wp F (.reg (.done [(5, (.inp 7))] none)) Q env w := rfl
def h54_6 : HC := (.seq (.reg (.chk none (.cal 72) (.cons (.inp 9) .nil) (.done [(6, (.op (.cal 72) (.cons (.inp 9) .nil)))] none))) h54_5)
@[simp] theorem h54_6_wp {P : Program} {F : PF P} {Q : EX → List Value → World → Prop} {env : List Value} {w : World} : h54_6.wp F Q env w = HC.wp F (.seq (.reg (.chk none (.cal 72) (.cons (.inp 9) .nil) (.done [(6, (.op (.cal 72) (.cons (.inp 9) .nil)))] none))) h54_5) Q env w := rfl
def h54_7 : HC := (.reg (.done [(4, (.inp 7))] none))
@[simp] theorem h54_7_wp {P : Program} {F : PF P} {Q : EX → List Value → World → Prop} {env : List Value} {w : World} : h54_7.wp F Q env w = HC.wp F (.reg (.done [(4, (.inp 7))] none)) Q env w := rfl
def h54_8 : HC := (.seq (.br (.chk none (.bin .lss) (.cons (.inp 4) (.cons (.cst (.int .i64 0)) .nil)) (.bnd (.op (.bin .lss) (.cons (.inp 4) (.cons (.cst (.int .i64 0)) .nil))) (.chk (some ((.bv 0), true)) (.cal 71) (.cons (.inp 9) .nil) (.chk (some ((.bv 0), true)) (.un .not) (.cons (.op (.cal 71) (.cons (.inp 9) .nil)) .nil) (.isb none (.bv 0) (.bnd (.ite (.bv 0) true (.op (.un .not) (.cons (.op (.cal 71) (.cons (.inp 9) .nil)) .nil)) (.cst (.bool false))) (.bnd (.ite (.bv 1) true (.inp 6) (.cst (.tuple #[]))) (.chk (some ((.bv 2), false)) (.cal 72) (.cons (.inp 9) .nil) (.chk (some ((.bv 2), false)) (.un .not) (.cons (.op (.cal 72) (.cons (.inp 9) .nil)) .nil) (.isb (some ((.bv 1), true)) (.bv 2) (.isb none (.bv 1) (.done [] (some (.ite (.bv 1) true (.ite (.bv 2) true (.cst (.bool true)) (.op (.un .not) (.cons (.op (.cal 72) (.cons (.inp 9) .nil)) .nil))) (.cst (.bool false)))))))))))))))) h54_7 .skip) h54_6)
@[simp] theorem h54_8_wp {P : Program} {F : PF P} {Q : EX → List Value → World → Prop} {env : List Value} {w : World} : h54_8.wp F Q env w = HC.wp F (.seq (.br (.chk none (.bin .lss) (.cons (.inp 4) (.cons (.cst (.int .i64 0)) .nil)) (.bnd (.op (.bin .lss) (.cons (.inp 4) (.cons (.cst (.int .i64 0)) .nil))) (.chk (some ((.bv 0), true)) (.cal 71) (.cons (.inp 9) .nil) (.chk (some ((.bv 0), true)) (.un .not) (.cons (.op (.cal 71) (.cons (.inp 9) .nil)) .nil) (.isb none (.bv 0) (.bnd (.ite (.bv 0) true (.op (.un .not) (.cons (.op (.cal 71) (.cons (.inp 9) .nil)) .nil)) (.cst (.bool false))) (.bnd (.ite (.bv 1) true (.inp 6) (.cst (.tuple #[]))) (.chk (some ((.bv 2), false)) (.cal 72) (.cons (.inp 9) .nil) (.chk (some ((.bv 2), false)) (.un .not) (.cons (.op (.cal 72) (.cons (.inp 9) .nil)) .nil) (.isb (some ((.bv 1), true)) (.bv 2) (.isb none (.bv 1) (.done [] (some (.ite (.bv 1) true (.ite (.bv 2) true (.cst (.bool true)) (.op (.un .not) (.cons (.op (.cal 72) (.cons (.inp 9) .nil)) .nil))) (.cst (.bool false)))))))))))))))) h54_7 .skip) h54_6) Q env w := rfl
def h54_9 : HC := (.seq (.reg (.chk none (.cal 70) (.cons (.inp 0) (.cons (.inp 7) (.cons (.inp 8) .nil))) (.done [(9, (.op (.cal 70) (.cons (.inp 0) (.cons (.inp 7) (.cons (.inp 8) .nil)))))] none))) h54_8)
@[simp] theorem h54_9_wp {P : Program} {F : PF P} {Q : EX → List Value → World → Prop} {env : List Value} {w : World} : h54_9.wp F Q env w = HC.wp F (.seq (.reg (.chk none (.cal 70) (.cons (.inp 0) (.cons (.inp 7) (.cons (.inp 8) .nil))) (.done [(9, (.op (.cal 70) (.cons (.inp 0) (.cons (.inp 7) (.cons (.inp 8) .nil)))))] none))) h54_8) Q env w := rfl
def h54_10 : HC := (.seq (.reg (.chk none (.bin .add) (.cons (.inp 3) (.cons (.cst (.int .i64 1)) .nil)) (.done [(3, (.op (.bin .add) (.cons (.inp 3) (.cons (.cst (.int .i64 1)) .nil))))] none))) h54_9)
@[simp] theorem h54_10_wp {P : Program} {F : PF P} {Q : EX → List Value → World → Prop} {env : List Value} {w : World} : h54_10.wp F Q env w = HC.wp F (.seq (.reg (.chk none (.bin .add) (.cons (.inp 3) (.cons (.cst (.int .i64 1)) .nil)) (.done [(3, (.op (.bin .add) (.cons (.inp 3) (.cons (.cst (.int .i64 1)) .nil))))] none))) h54_9) Q env w := rfl
def h54_11 : HC := (.seq (.reg (.done [(1, (.inp 7)), (2, (.cst (.int .i64 42)))] none)) .ret)
@[simp] theorem h54_11_wp {P : Program} {F : PF P} {Q : EX → List Value → World → Prop} {env : List Value} {w : World} : h54_11.wp F Q env w = HC.wp F (.seq (.reg (.done [(1, (.inp 7)), (2, (.cst (.int .i64 42)))] none)) .ret) Q env w := rfl
def h54_12 : HC := (.seq (.br (.chk none (.bin .eql) (.cons (.inp 3) (.cons (.cst (.int .i64 24)) .nil)) (.done [] (some (.op (.bin .eql) (.cons (.inp 3) (.cons (.cst (.int .i64 24)) .nil)))))) h54_11 .skip) h54_10)
@[simp] theorem h54_12_wp {P : Program} {F : PF P} {Q : EX → List Value → World → Prop} {env : List Value} {w : World} : h54_12.wp F Q env w = HC.wp F (.seq (.br (.chk none (.bin .eql) (.cons (.inp 3) (.cons (.cst (.int .i64 24)) .nil)) (.done [] (some (.op (.bin .eql) (.cons (.inp 3) (.cons (.cst (.int .i64 24)) .nil)))))) h54_11 .skip) h54_10) Q env w := rfl
def h54_13 : HC := (.seq (.reg (.chk none (.ext 1) (.cons (.inp 11) .nil) (.chk none (.ext 2) (.cons (.inp 11) .nil) (.done [(7, (.op (.ext 1) (.cons (.inp 11) .nil))), (8, (.op (.ext 2) (.cons (.inp 11) .nil)))] none)))) h54_12)
@[simp] theorem h54_13_wp {P : Program} {F : PF P} {Q : EX → List Value → World → Prop} {env : List Value} {w : World} : h54_13.wp F Q env w = HC.wp F (.seq (.reg (.chk none (.ext 1) (.cons (.inp 11) .nil) (.chk none (.ext 2) (.cons (.inp 11) .nil) (.done [(7, (.op (.ext 1) (.cons (.inp 11) .nil))), (8, (.op (.ext 2) (.cons (.inp 11) .nil)))] none)))) h54_12) Q env w := rfl
def h54_14 : HC := (.block 1 h54_13)
@[simp] theorem h54_14_wp {P : Program} {F : PF P} {Q : EX → List Value → World → Prop} {env : List Value} {w : World} : h54_14.wp F Q env w = HC.wp F (.block 1 h54_13) Q env w := rfl
def h54_15 : HC := (.seq (.br (.eff (.nxt true 0) (.cons (.inp 10) .nil) (.chk none (.ext 0) (.cons (.bv 0) .nil) (.done [(11, (.bv 0))] (some (.op (.ext 0) (.cons (.bv 0) .nil)))))) .skip (.exit 0)) h54_14)
@[simp] theorem h54_15_wp {P : Program} {F : PF P} {Q : EX → List Value → World → Prop} {env : List Value} {w : World} : h54_15.wp F Q env w = HC.wp F (.seq (.br (.eff (.nxt true 0) (.cons (.inp 10) .nil) (.chk none (.ext 0) (.cons (.bv 0) .nil) (.done [(11, (.bv 0))] (some (.op (.ext 0) (.cons (.bv 0) .nil)))))) .skip (.exit 0)) h54_14) Q env w := rfl
def h54_16 : HC := (.loop h54_15)
@[simp] theorem h54_16_wp {P : Program} {F : PF P} {Q : EX → List Value → World → Prop} {env : List Value} {w : World} : h54_16.wp F Q env w = HC.wp F (.loop h54_15) Q env w := rfl
def h54_17 : HC := (.seq (.block 0 h54_16) h54_4)
@[simp] theorem h54_17_wp {P : Program} {F : PF P} {Q : EX → List Value → World → Prop} {env : List Value} {w : World} : h54_17.wp F Q env w = HC.wp F (.seq (.block 0 h54_16) h54_4) Q env w := rfl
def h54_18 : HC := (.seq (.reg (.eff (.rngS 9) (.cons (.inp 0) .nil) (.done [(10, (.bv 0))] none))) h54_17)
@[simp] theorem h54_18_wp {P : Program} {F : PF P} {Q : EX → List Value → World → Prop} {env : List Value} {w : World} : h54_18.wp F Q env w = HC.wp F (.seq (.reg (.eff (.rngS 9) (.cons (.inp 0) .nil) (.done [(10, (.bv 0))] none))) h54_17) Q env w := rfl
def h54_19 : HC := (.seq (.reg (.done [(6, (.cst (.bool true)))] none)) h54_18)
@[simp] theorem h54_19_wp {P : Program} {F : PF P} {Q : EX → List Value → World → Prop} {env : List Value} {w : World} : h54_19.wp F Q env w = HC.wp F (.seq (.reg (.done [(6, (.cst (.bool true)))] none)) h54_18) Q env w := rfl
def h54_20 : HC := (.seq (.reg (.done [(3, (.cst (.int .i64 0))), (4, (.cst (.int .i64 (-1)))), (5, (.cst (.int .i64 0)))] none)) h54_19)
@[simp] theorem h54_20_wp {P : Program} {F : PF P} {Q : EX → List Value → World → Prop} {env : List Value} {w : World} : h54_20.wp F Q env w = HC.wp F (.seq (.reg (.done [(3, (.cst (.int .i64 0))), (4, (.cst (.int .i64 (-1)))), (5, (.cst (.int .i64 0)))] none)) h54_19) Q env w := rfl
def h54_21 : HC := (.seq (.reg (.done [(1, (.cst (.int .i64 0))), (2, (.cst (.int .i64 41)))] none)) .ret)
@[simp] theorem h54_21_wp {P : Program} {F : PF P} {Q : EX → List Value → World → Prop} {env : List Value} {w : World} : h54_21.wp F Q env w = HC.wp F (.seq (.reg (.done [(1, (.cst (.int .i64 0))), (2, (.cst (.int .i64 41)))] none)) .ret) Q env w := rfl
def h54_22 : HC := (.seq (.br (.chk none (.bin .eql) (.cons (.inp 0) (.cons (.cst (.string ⟨#[]⟩)) .nil)) (.done [] (some (.op (.bin .eql) (.cons (.inp 0) (.cons (.cst (.string ⟨#[]⟩)) .nil)))))) h54_21 .skip) h54_20)
@[simp] theorem h54_22_wp {P : Program} {F : PF P} {Q : EX → List Value → World → Prop} {env : List Value} {w : World} : h54_22.wp F Q env w = HC.wp F (.seq (.br (.chk none (.bin .eql) (.cons (.inp 0) (.cons (.cst (.string ⟨#[]⟩)) .nil)) (.done [] (some (.op (.bin .eql) (.cons (.inp 0) (.cons (.cst (.string ⟨#[]⟩)) .nil)))))) h54_21 .skip) h54_20) Q env w := rfl
def l54 : Lifted := ⟨[0, 2, 3, 4, 5, 6, 7, 8, 9, 10, 14, 15], 56, [.slot 1, .slot 2], (.seq (.reg (.done [(1, (.cst (.int .i64 0))), (2, (.cst (.int .i64 0)))] none)) h54_22)⟩
theorem l54_ok : liftFn F4 54 400 = some l54 := by kernel_rfl


theorem check_spec (l : List UInt8) (w0 w : World) (A : Asn) (hl : l.length ≤ 1048576) (s : St w0 A w) :
    CallW Try.prog 54 [.string (mk l)] (fun r w' => r = .tuple #[.int .i64 (checkF l).1, .int .i64 (checkF l).2] ∧ St w0 A w') w := by
  refine callW_of_lift l54_ok (by simp [l54]) ?_
  simp [l54]
  refine cndI (fun h => ?_) (fun h => ?_)
  · simp at h
    subst h
    simp [checkF]
    exact s
  simp at h
  simp
  refine eff_rngS s ?_
  intro b w1 s1
  simp
  refine loopI (fun env w' => ∃ (i : Nat) (done : List (Int × Nat)) (x y z t : Value), env = [.string (mk l), .int .i64 0, .int .i64 0, .int .i64 done.length, .int .i64 (optI (faultP true 0 done)), .int .i64 (lastP 0 0 done), .bool (lastJ true done), x, y, z, .pointer (some ⟨b, 0, none⟩), t] ∧
      i ≤ l.length ∧ units l = done ++ units (l.drop i) ∧ i = sumW done ∧ done.length ≤ 24 ∧ St w0 (A * pt b (.stringIter (mk l) i)) w')
    (fun env _ => 25 - slotN env 3) ⟨0, [], _, _, _, _, by simp [optI, faultP, lastP, lastJ]; exact ⟨rfl, rfl, rfl, rfl⟩, by omega, by simp, rfl, by simp, s1⟩ ?_
  rintro LQ env w' ⟨i, done, x, y, z, t, rfl, hi, hu, hsum, hd24, s'⟩ hN hE hR
  simp
  refine eff_nxtS s' (fun h w2 s2 => ?_) (fun h => ?_)
  · simp at h
    have hle := oneF_le (l := l) (i := i) h
    have hob := oneF_bd (l := l.drop i) (by simp; omega)
    rw [decode_decL, decL_oneF _ (by simp; omega)] at s2
    have hstep := units_step hu h
    rw [decode_decL, decL_oneF _ (by simp; omega)]
    simp
    refine cndI (fun h2 => ?_) (fun h2 => ?_)
    · simp at h2
      simp
      refine hR _ _ ?_
      simp
      refine ⟨?_, s2.drop⟩
      have hlen : 24 < (units l).length := by rw [hstep]; simp; omega
      unfold checkF
      rw [if_neg (by assumption), if_pos hlen, hu, show (24 : Nat) = done.length by omega, List.take_left, ← hsum]
      simp
    · simp at h2
      simp
      try simp (disch := omega) only [wrap64]
      refine ⟨⟨hl, h⟩, ?_⟩
      have hsn := faultP_snoc done (oneF (l.drop i)) true 0
      -- how the round ends
      have fin : ∀ fv : Int, fv = optI (faultP true 0 (done ++ [oneF (l.drop i)])) → LQ .nrm [.string (mk l), .int .i64 0, .int .i64 0, .int .i64 (done.length + 1), .int .i64 fv, .int .i64 i, .bool (joinerF (oneF (l.drop i)).1), .int .i64 i, .int .i32 (runeOf (oneF (l.drop i)).1), .int .i32 (oneF (l.drop i)).1, .pointer (some ⟨b, 0, none⟩), .tuple #[.bool true, .int .i64 i, .int .i32 (runeOf (oneF (l.drop i)).1)]] w2 := by
        intro fv hfv
        refine hN _ _ ⟨i + (oneF (l.drop i)).2, done ++ [oneF (l.drop i)], .int .i64 i, .int .i32 (runeOf (oneF (l.drop i)).1), .int .i32 (oneF (l.drop i)).1, .tuple #[.bool true, .int .i64 i, .int .i32 (runeOf (oneF (l.drop i)).1)], ?_, hle.1, hstep, by simp [sumW_append, sumW, hsum], by simp; omega, s2⟩ (by simp [slotN]; omega)
        rw [hfv, lastP_snoc, lastJ_snoc, Nat.zero_add, ← hsum]
        simp
      cases hf : faultP true 0 done with
      | some q =>
        have e0 : optI (some q) = (q : Int) := rfl
        rw [hf] at hsn
        have e1 : ¬ ((q : Int) < 0) := by omega
        rw [e0]
        simp [e1]
        exact fin _ (by rw [hsn]; rfl)
      | none =>
        have e0 : optI none = -1 := rfl
        rw [hf] at hsn
        simp only at hsn
        rw [e0]
        cases hlt : letterF (oneF (l.drop i)).1
        · simp
          refine cndI (fun h3 => ?_) (fun h3 => ?_)
          · simp
            refine fin _ ?_
            rw [hsn, badAt, hlt, h3]
            simp [optI, hsum]
          · simp
            refine fin _ ?_
            rw [hsn, badAt, hlt, h3]
            rfl
        · simp
          refine fin _ ?_
          rw [hsn, badAt, hlt]
          rfl
  · simp at h
    simp
    refine hE _ _ _ ?_
    simp
    have : i = l.length := by omega
    subst this
    rw [List.drop_length, units_nil, List.append_nil] at hu
    have hne : units l ≠ [] := by intro e; have := sumW_units l; rw [e] at this; simp [sumW] at this; exact absurd (List.eq_nil_of_length_eq_zero this.symm) (by assumption)
    have hck : checkF l = (match faultF true 0 (units l) with | some p => ((p : Int), 40) | none => (0, 0)) := by
      unfold checkF
      rw [if_neg (by assumption), if_neg (by rw [hu]; omega)]
    rw [fault_eq _ _ _ 0 hne, hu] at hck
    cases hf : faultP true 0 done with
    | some q =>
      rw [hf] at hck
      simp only at hck
      have e0 : optI (some q) = (q : Int) := rfl
      rw [e0, hck]
      have e1 : decide ((q : Int) < 0) = false := by simp
      simp [e1]
      exact s'.drop
    | none =>
      rw [hf] at hck
      simp only at hck
      have e0 : optI none = -1 := rfl
      rw [e0, hck]
      cases hj : lastJ true done
      · simp
        exact s'.drop
      · simp
        exact s'.drop

end Go.HL.Nm

namespace Go.HL
set_option maxRecDepth 4000
set_option linter.unusedSimpArgs false
set_option linter.unusedVariables false
section
variable {P : Program} {F0 : PF P} {F : Asn} {K : Value → World → Prop} {w w0 : World}
def entF : List (List UInt8) → Nat → List MapEntry
  | [], _ => []
  | x :: r, i => ⟨.string (mk x), .int .i64 (i : Int), i⟩ :: entF r (i + 1)
def mapE (ks : List (List UInt8)) : Array MapEntry := (entF ks 0).toArray
def lookK (k : List UInt8) : List (List UInt8) → Nat → Option Nat
  | [], _ => none
  | x :: r, i => if k = x then some i else lookK k r (i + 1)
theorem entF_snoc (k : List UInt8) : ∀ (ks : List (List UInt8)) (i : Nat), entF (ks ++ [k]) i = entF ks i ++ [⟨.string (mk k), .int .i64 ((i + ks.length : Nat) : Int), i + ks.length⟩]
  | [], i => by simp [entF]
  | x :: r, i => by
    simp only [List.cons_append, entF, entF_snoc k r (i + 1), List.length_cons]
    have : i + 1 + r.length = i + (r.length + 1) := by omega
    rw [this]
theorem mapE_snoc (k : List UInt8) (ks : List (List UInt8)) : (mapE ks).push ⟨.string (mk k), .int .i64 (ks.length : Int), ks.length⟩ = mapE (ks ++ [k]) := by
  apply Array.ext'
  simp [mapE, entF_snoc]
theorem mk_inj {a b : List UInt8} (h : mk a = mk b) : a = b := by
  have h2 : (mk a).data.toList = (mk b).data.toList := by rw [h]
  exact h2
theorem mk_eq_iff (a b : List UInt8) : (mk a == mk b) = decide (a = b) := by
  rw [Bool.eq_iff_iff, MapKept.bytes_beq]
  exact ⟨fun h => decide_eq_true (mk_inj h), fun h => by rw [of_decide_eq_true h]⟩
theorem find_keys (k : List UInt8) : ∀ (ks : List (List UInt8)) (i j : Nat), Instr.findNow .string (.string (mk k)) (entF ks j) i = some ((lookK k ks j).map fun n => (i + (n - j), .int .i64 (n : Int)))
  | [], _, _ => rfl
  | x :: r, i, j => by
    simp only [entF, Instr.findNow, Instr.sameNow, mk_eq_iff, lookK]
    by_cases h : k = x
    · simp [h]
    · simp only [h, decide_false, if_false]
      rw [find_keys k r (i + 1) (j + 1)]
      cases hl : lookK k r (j + 1) with
      | none => rfl
      | some n =>
        have : j + 1 ≤ n := by
          have key : ∀ (l : List (List UInt8)) (j n : Nat), lookK k l j = some n → j ≤ n := by
            intro l
            induction l with
            | nil => intro j n h; cases h
            | cons y t ih =>
              intro j n h
              simp only [lookK] at h
              split at h
              · cases h; exact Nat.le_refl _
              · have := ih _ _ h; omega
          exact key r _ _ hl
        simp only [Option.map_some, Option.some.injEq, Prod.mk.injEq, and_true]
        omega
/-- a new map -/
theorem eff_mkm {t : TypeId} (s : St w0 F w) (hk : ∀ b w', St w0 (F * pt b (.map (mapE []) 0)) w' → K (.map (some b)) w') : EffW P (.mkm t false) [] K w := by
  intro _
  refine upon_val (s := Instr.makeMap t none) (v := .map (some w.heap.size)) (w' := w.alloc (.map (mapE []) 0)) ?_ (hk _ _ (s.alloc trivial))
  simp [Instr.makeMap, newObj, Sem.run, mapE, entF, Sem.bind]
/-- what a map with texts for keys answers -/
def askN (k : List UInt8) (ks : List (List UInt8)) : Int := ((lookK k ks 0).getD 0 : Nat)
def askB (k : List UInt8) (ks : List (List UInt8)) : Bool := (lookK k ks 0).isSome
abbrev askK (k : List UInt8) (ks : List (List UInt8)) : Value := .tuple #[.int .i64 (askN k ks), .bool (askB k ks)]
structure MapT (P : Program) (t kt ke : TypeId) : Prop where
  ty : P.underlying t = some (.map kt ke)
  key : P.underlying kt = some .string
  zero : (P.info? ke).bind (·.zero) = some (.int .i64 0)
theorem look_run {t kt ke : TypeId} (T : MapT P t kt ke) {m : Nat} {ks : List (List UInt8)} {c : Nat} (hb : w.heap[m]? = some (.map (mapE ks) c)) (k : List UInt8) :
    (Instr.lookup t (.map (some m)) (.string (mk k)) true).run P w = .ok (askK k ks) w := by
  obtain ⟨i, hi, hz⟩ := Option.bind_eq_some_iff.1 T.zero
  have hf := find_keys k ks 0 0
  have he : (mapE ks).toList = entF ks 0 := by simp [mapE]
  have hck := fun e => MapKept.run_checkKey (P := P) (w := w) T.key (show MapKept.IsKey .string (.string (mk k)) from trivial) e 9999
  have hfk := MapKept.run_findKey (P := P) (w := w) T.key hf
  rw [← he] at hfk
  simp only [Instr.lookup, Sem.run_bind, run_underlying T.ty, MapKept.run_getObj_map hb, Result.andThen_ok, Sem.run_pure, hck, hfk]
  unfold askK askN askB
  cases hl : lookK k ks 0 with
  | none => simp [zeroValue, typeInfo, hi, hz]
  | some n => simp
theorem effm_look {C : List Value → World → Prop} {q : Nat → List Value → Value} {n : Nat} {vs : List Value} {t kt ke : TypeId} (T : MapT P t kt ke) {m : Nat} {ks : List (List UInt8)} {c : Nat} {k : List UInt8} {K : Value → List Value → Prop}
    (hb : ∀ vs' w, era n vs' = era n vs → C vs' w → w.heap[m]? = some (.map (mapE ks) c)) (hk : K (askK k ks) vs) : EffM F0 C q n (.look t true) [.map (some m), .string (mk k)] vs K :=
  effm_val (s := Instr.lookup t (.map (some m)) (.string (mk k)) true) rfl (fun vs' w he hw => look_run T (hb vs' w he hw) k) hk
/-- a new key is entered -/
theorem eff_upd {t kt ke : TypeId} (T : MapT P t kt ke) {m : Nat} {ks : List (List UInt8)} {k : List UInt8} (s : St w0 (F * pt m (.map (mapE ks) ks.length)) w) (hn : lookK k ks 0 = none)
    (hk : ∀ w', St w0 (F * pt m (.map (mapE (ks ++ [k])) (ks ++ [k]).length)) w' → K undef w') : EffW P (.upd t) [.map (some m), .string (mk k), .int .i64 (ks.length : Int)] K w := by
  have hb := s.look
  have hf := find_keys k ks 0 0
  rw [hn] at hf
  have he : (mapE ks).toList = entF ks 0 := by simp [mapE]
  have hck := fun e => MapKept.run_checkKey (P := P) (w := w) T.key (show MapKept.IsKey .string (.string (mk k)) from trivial) e 9999
  have hfk := MapKept.run_findKey (P := P) (w := w) T.key hf
  rw [← he] at hfk
  have hs := MapKept.heap_set (o' := .map (mapE (ks ++ [k])) (ks ++ [k]).length) hb
  intro _
  refine upon_unit (s := Instr.mapUpdate t (.map (some m)) (.string (mk k)) (.int .i64 (ks.length : Int))) (w' := { w with heap := w.heap.setIfInBounds m (.map (mapE (ks ++ [k])) (ks ++ [k]).length) }) ?_ (hk _ (s.turn (o' := .map (mapE (ks ++ [k])) (ks ++ [k]).length) hs.1 hs.2 (by simp) rfl rfl (fun _ _ _ h => by cases h)))
  simp only [Instr.mapUpdate, Sem.run_bind, run_underlying T.ty, MapKept.run_getObj_map hb, Result.andThen_ok, hck, hfk, Option.map_none, mapE_snoc]
  rw [MapKept.run_setObj_map _ hb]
  simp
end
end Go.HL

namespace Go.HL
set_option maxRecDepth 4000
set_option linter.unusedSimpArgs false
set_option linter.unusedVariables false
section
variable {P : Program}
inductive PV where
  | int (k : IntKind) (a : Int)
  | str (b : List UInt8)
  | bool (b : Bool)
deriving DecidableEq
inductive PK where
  | int (k : IntKind)
  | str
  | bool
deriving DecidableEq
def PV.val : PV → Value
  | .int k a => .int k a
  | .str b => .string (mk b)
  | .bool b => .bool b
def PV.kind : PV → PK
  | .int k _ => .int k
  | .str _ => .str
  | .bool _ => .bool
def PK.of : PK → TypeDesc → Bool
  | .int _, .int _ => true
  | .str, .string => true
  | .bool, .bool => true
  | _, _ => false
def primFields (P : Program) : List Field → List PK → Nat → Bool
  | [], [], _ => true
  | f :: fs, k :: ks, o => (f.name != "_") && (f.offset == o) && (match P.underlying f.type with | some d => k.of d | none => false) && primFields P fs ks (o + 1)
  | _, _, _ => false
def holdsP (xs : Array Value) (o : Nat) (as_ : List PV) : Prop := ∀ j u, as_[j]? = some u → xs[o + j]? = some u.val
/-- what is known of a struct of such -/
structure PrimStruct (P : Program) (t : TypeId) (ks : List PK) : Prop where
  und : P.underlying t = some (.struct (P.fieldsOf t))
  stood : P.stoodInHeld t = false
  guard : P.eqGuardType P.depth t = false
  prims : primFields P (P.fieldsOf t).toList ks 0 = true
variable {K : Value → World → Prop} {w w0 : World} {A : Asn} {C : World → Prop}
end
end Go.HL

namespace Go.HL.Pu
open Go.HL Go.HL.Nm Go.Proofs
set_option maxRecDepth 4000
set_option linter.unusedSimpArgs false
set_option linter.unusedVariables false
/-- an account -/
structure Ac where
  name : List UInt8
  coins : Int
deriving DecidableEq
def Ac.cs (x : Ac) : List Value := [.string (HL.mk x.name), .int .u64 x.coins]
def flat (l : List Ac) : List Value := l.flatMap Ac.cs
theorem cs_len (x : Ac) : x.cs.length = 2 := rfl
theorem flat_len (l : List Ac) : (flat l).length = l.length * 2 := flat_length Ac.cs 2 cs_len l
theorem cs_one (x : Ac) : ∀ u ∈ x.cs, u.oneCell' = true := by
  intro u hu
  simp only [Ac.cs, List.mem_cons, List.not_mem_nil, or_false] at hu
  rcases hu with rfl | rfl <;> rfl
theorem flat_one (l : List Ac) : ∀ u ∈ flat l, u.oneCell' = true := by
  intro u hu
  obtain ⟨x, _, hx⟩ := List.mem_flatMap.1 hu
  exact cs_one x u hx
theorem flat_at {its : List Ac} {i : Nat} (h : i < its.length) : ∀ j u, (its[i].cs)[j]? = some u → (flat its)[i * 2 + j]? = some u := by
  intro j u hu
  have hj : j < 2 := (List.getElem?_eq_some_iff.1 hu).1
  rw [← hu]
  exact flat_get Ac.cs 2 cs_len its i j h hj
theorem flat_name {its : List Ac} {i : Nat} (h : i < its.length) : (flat its)[i * 2]? = some (.string (mk its[i].name)) := flat_at h 0 _ rfl
theorem flat_coins {its : List Ac} {i : Nat} (h : i < its.length) : (flat its)[i * 2 + 1]? = some (.int .u64 its[i].coins) := flat_at h 1 _ rfl
theorem flat_set1 {its : List Ac} {i : Nat} (h : i < its.length) (c : Int) : (flat its).set (i * 2 + 1) (.int .u64 c) = flat (its.set i ⟨its[i].name, c⟩) := by
  have e := flat_set Ac.cs 2 cs_len (⟨its[i].name, c⟩ : Ac) its i h
  show _ = List.flatMap Ac.cs _
  rw [← e]
  have hl := flat_len its
  have hf : flat its = its.flatMap Ac.cs := rfl
  apply List.ext_getElem?
  intro k
  have hlen : i * 2 + 2 ≤ (its.flatMap Ac.cs).length := by rw [← hf]; omega
  have tl : ((its.flatMap Ac.cs).take (i * 2)).length = i * 2 := by rw [List.length_take]; omega
  rw [hf]
  have c4 : (⟨its[i].name, c⟩ : Ac).cs.length = 2 := rfl
  by_cases k1 : k < i * 2
  · rw [List.getElem?_set_ne (by omega), List.append_assoc, List.getElem?_append_left (by omega), List.getElem?_take, if_pos k1]
  by_cases k2 : k < i * 2 + 2
  · rw [List.append_assoc, List.getElem?_append_right (by omega), tl, List.getElem?_append_left (by rw [c4]; omega)]
    obtain ⟨j, rfl⟩ : ∃ j, k = i * 2 + j := ⟨k - i * 2, by omega⟩
    have hj : j < 2 := by omega
    rw [Nat.add_sub_cancel_left]
    have : j = 0 ∨ j = 1 := by omega
    rcases this with rfl | rfl
    · rw [List.getElem?_set_ne (by omega), flat_get Ac.cs 2 cs_len its i 0 h (by omega)]; rfl
    · rw [List.getElem?_set_self (by omega)]; rfl
  · rw [List.getElem?_set_ne (by omega), List.append_assoc, List.getElem?_append_right (by omega), tl, List.getElem?_append_right (by rw [c4]; omega), List.getElem?_drop, c4]
    congr 1
    omega
def keyF (l : List UInt8) : List UInt8 := encAll (foldedF l)
def seemF (l : List UInt8) : List UInt8 := encAll (lookF l)
def keys (l : List Ac) : List (List UInt8) := l.map fun x => keyF x.name
/-- a purse's numbers -/
structure Ps where
  lim : Int
  rows : List Ac
  sup : Int
  held : Int
deriving DecidableEq
/-- a purse at p -/
abbrev pt4 (p : Nat) (P : Ps) (m : Nat) (v : Value) : Asn := pt p (.cells #[.map (some m), .int .i64 P.lim, v, .int .u64 P.sup, .int .u64 P.held] 81 (0, 0))
abbrev mpt (m : Nat) (l : List Ac) : Asn := pt m (.map (mapE (keys l)) (keys l).length)
def pur (p : Nat) (P : Ps) : Asn := fun h => ∃ m v, (pt4 p P m v * mpt m P.rows * own 76 2 v P.rows.length (flat P.rows)) h
theorem popen {w0 w : World} {A : Asn} {p : Nat} {P : Ps} (s : St w0 (A * pur p P) w) :
    ∃ m v, St w0 (A * pt4 p P m v * mpt m P.rows * own 76 2 v P.rows.length (flat P.rows)) w := by
  obtain ⟨g, h1, h2, h3, d, e, a, m, v, b⟩ := s.holds
  refine ⟨m, v, ?_⟩
  rw [sep_assoc, sep_assoc, ← sep_assoc (pt4 p P m v)]
  exact s.of ⟨g, h1, h2, h3, d, e, a, b⟩
theorem pclose {w0 w : World} {A : Asn} {p : Nat} {P : Ps} {m : Nat} {v : Value}
    (s : St w0 (A * pt4 p P m v * mpt m P.rows * own 76 2 v P.rows.length (flat P.rows)) w) : St w0 (A * pur p P) w := by
  rw [sep_assoc, sep_assoc, ← sep_assoc (pt4 p P m v)] at s
  obtain ⟨g, h1, h2, h3, d, e, a, b⟩ := s.holds
  exact s.of ⟨g, h1, h2, h3, d, e, a, m, v, b⟩
theorem regT : MapT Try.prog 77 9 3 := ⟨by kernel_rfl, by kernel_rfl, by kernel_rfl⟩
noncomputable abbrev U0 : PF Try.prog := PF.none _
-- (*bazaar/purse.register).known
def h55_0 : HC := (.seq (.reg (.done [(2, (.inp 4)), (3, (.inp 5))] none)) .ret)
@[simp] theorem h55_0_wp {P : Program} {F : PF P} {Q : EX → List Value → World → Prop} {env : List Value} {w : World} : h55_0.wp F Q env w = HC.wp F (.seq (.reg (.done [(2, (.inp 4)), (3, (.inp 5))] none)) .ret) Q env w := rfl
def h55_1 : HC := (.seq (.regq (some 2) (.chk none .chkp (.cons (.inp 0) .nil) (.chk none (.fld 0) (.cons (.op .chkp (.cons (.inp 0) .nil)) .nil) (.eff (.ld false 1) (.cons (.op (.fld 0) (.cons (.op .chkp (.cons (.inp 0) .nil)) .nil)) .nil) (.eff (.call 73) (.cons (.inp 1) .nil) (.eff (.look 77 true) (.cons (.bv 0) (.cons (.bv 1) .nil)) (.chk none (.ext 0) (.cons (.bv 2) .nil) (.chk none (.ext 1) (.cons (.bv 2) .nil) (.done [(4, (.op (.ext 0) (.cons (.bv 2) .nil))), (5, (.op (.ext 1) (.cons (.bv 2) .nil)))] none))))))))) h55_0)
@[simp] theorem h55_1_wp {P : Program} {F : PF P} {Q : EX → List Value → World → Prop} {env : List Value} {w : World} : h55_1.wp F Q env w = HC.wp F (.seq (.regq (some 2) (.chk none .chkp (.cons (.inp 0) .nil) (.chk none (.fld 0) (.cons (.op .chkp (.cons (.inp 0) .nil)) .nil) (.eff (.ld false 1) (.cons (.op (.fld 0) (.cons (.op .chkp (.cons (.inp 0) .nil)) .nil)) .nil) (.eff (.call 73) (.cons (.inp 1) .nil) (.eff (.look 77 true) (.cons (.bv 0) (.cons (.bv 1) .nil)) (.chk none (.ext 0) (.cons (.bv 2) .nil) (.chk none (.ext 1) (.cons (.bv 2) .nil) (.done [(4, (.op (.ext 0) (.cons (.bv 2) .nil))), (5, (.op (.ext 1) (.cons (.bv 2) .nil)))] none))))))))) h55_0) Q env w := rfl
def l55 : Lifted := ⟨[0, 1, 4, 5, 6, 7], 20, [.slot 2, .slot 3], (.seq (.reg (.done [(2, (.cst (.int .i64 0))), (3, (.cst (.bool false)))] none)) h55_1)⟩
theorem l55_ok : liftFn U0 55 400 = some l55 := by kernel_rfl

-- (*bazaar/purse.register).enter

def l56 : Lifted := ⟨[0, 1, 2], 13, [], (.regq (some 2) (.chk none .chkp (.cons (.inp 0) .nil) (.chk none (.fld 0) (.cons (.op .chkp (.cons (.inp 0) .nil)) .nil) (.eff (.ld false 1) (.cons (.op (.fld 0) (.cons (.op .chkp (.cons (.inp 0) .nil)) .nil)) .nil) (.eff (.call 73) (.cons (.inp 1) .nil) (.eff (.upd 77) (.cons (.bv 0) (.cons (.bv 1) (.cons (.inp 2) .nil))) (.done [] none)))))))⟩
theorem l56_ok : liftFn U0 56 400 = some l56 := by kernel_rfl

-- slices.Clip[[]bazaar/api.Account,bazaar/api.Account]
def h44_0 : HC := (.seq (.reg (.chk none .lenL (.cons (.inp 0) .nil) (.chk none .lenL (.cons (.inp 0) .nil) (.chk none (.slL 2 false true true) (.cons (.inp 0) (.cons (.op .lenL (.cons (.inp 0) .nil)) (.cons (.op .lenL (.cons (.inp 0) .nil)) .nil))) (.done [(1, (.op (.slL 2 false true true) (.cons (.inp 0) (.cons (.op .lenL (.cons (.inp 0) .nil)) (.cons (.op .lenL (.cons (.inp 0) .nil)) .nil)))))] none))))) .ret)
@[simp] theorem h44_0_wp {P : Program} {F : PF P} {Q : EX → List Value → World → Prop} {env : List Value} {w : World} : h44_0.wp F Q env w = HC.wp F (.seq (.reg (.chk none .lenL (.cons (.inp 0) .nil) (.chk none .lenL (.cons (.inp 0) .nil) (.chk none (.slL 2 false true true) (.cons (.inp 0) (.cons (.op .lenL (.cons (.inp 0) .nil)) (.cons (.op .lenL (.cons (.inp 0) .nil)) .nil))) (.done [(1, (.op (.slL 2 false true true) (.cons (.inp 0) (.cons (.op .lenL (.cons (.inp 0) .nil)) (.cons (.op .lenL (.cons (.inp 0) .nil)) .nil)))))] none))))) .ret) Q env w := rfl
def l44 : Lifted := ⟨[0, 2], 9, [.slot 1], (.seq (.reg (.done [(1, (.cst (.slice none 0 0)))] none)) h44_0)⟩
theorem l44_ok : liftFn U0 44 400 = some l44 := by kernel_rfl

-- slices.Clone[[]bazaar/api.Account,bazaar/api.Account]
def h45_0 : HC := (.seq (.reg (.eff (.bsl 76 0 2 #[] []) .nil (.eff (.app 22 22 76 2 24 (.agg #[(.string ⟨#[]⟩), (.int .u64 0)])) (.cons (.bv 0) (.cons (.inp 0) .nil)) (.done [(1, (.bv 1))] none)))) .ret)
@[simp] theorem h45_0_wp {P : Program} {F : PF P} {Q : EX → List Value → World → Prop} {env : List Value} {w : World} : h45_0.wp F Q env w = HC.wp F (.seq (.reg (.eff (.bsl 76 0 2 #[] []) .nil (.eff (.app 22 22 76 2 24 (.agg #[(.string ⟨#[]⟩), (.int .u64 0)])) (.cons (.bv 0) (.cons (.inp 0) .nil)) (.done [(1, (.bv 1))] none)))) .ret) Q env w := rfl
def h45_1 : HC := (.seq (.reg (.done [(1, (.cst (.slice none 0 0)))] none)) .ret)
@[simp] theorem h45_1_wp {P : Program} {F : PF P} {Q : EX → List Value → World → Prop} {env : List Value} {w : World} : h45_1.wp F Q env w = HC.wp F (.seq (.reg (.done [(1, (.cst (.slice none 0 0)))] none)) .ret) Q env w := rfl
def h45_2 : HC := (.seq (.br (.chk none (.eqNil false (.slice 76) (.slice none 0 0)) (.cons (.inp 0) .nil) (.done [] (some (.op (.eqNil false (.slice 76) (.slice none 0 0)) (.cons (.inp 0) .nil))))) h45_1 .skip) h45_0)
@[simp] theorem h45_2_wp {P : Program} {F : PF P} {Q : EX → List Value → World → Prop} {env : List Value} {w : World} : h45_2.wp F Q env w = HC.wp F (.seq (.br (.chk none (.eqNil false (.slice 76) (.slice none 0 0)) (.cons (.inp 0) .nil) (.done [] (some (.op (.eqNil false (.slice 76) (.slice none 0 0)) (.cons (.inp 0) .nil))))) h45_1 .skip) h45_0) Q env w := rfl
def l45 : Lifted := ⟨[0, 2], 8, [.slot 1], (.seq (.reg (.done [(1, (.cst (.slice none 0 0)))] none)) h45_2)⟩
theorem l45_ok : liftFn U0 45 400 = some l45 := by kernel_rfl

-- bazaar/count.Take
def h33_0 : HC := (.seq (.reg (.chk none (.bin .sub) (.cons (.inp 0) (.cons (.inp 1) .nil)) (.done [(2, (.op (.bin .sub) (.cons (.inp 0) (.cons (.inp 1) .nil)))), (3, (.cst (.int .i64 0)))] none))) .ret)
@[simp] theorem h33_0_wp {P : Program} {F : PF P} {Q : EX → List Value → World → Prop} {env : List Value} {w : World} : h33_0.wp F Q env w = HC.wp F (.seq (.reg (.chk none (.bin .sub) (.cons (.inp 0) (.cons (.inp 1) .nil)) (.done [(2, (.op (.bin .sub) (.cons (.inp 0) (.cons (.inp 1) .nil)))), (3, (.cst (.int .i64 0)))] none))) .ret) Q env w := rfl
def h33_1 : HC := (.seq (.reg (.done [(2, (.cst (.int .u64 0))), (3, (.cst (.int .i64 11)))] none)) .ret)
@[simp] theorem h33_1_wp {P : Program} {F : PF P} {Q : EX → List Value → World → Prop} {env : List Value} {w : World} : h33_1.wp F Q env w = HC.wp F (.seq (.reg (.done [(2, (.cst (.int .u64 0))), (3, (.cst (.int .i64 11)))] none)) .ret) Q env w := rfl
def h33_2 : HC := (.seq (.br (.chk none (.bin .gtr) (.cons (.inp 1) (.cons (.inp 0) .nil)) (.done [] (some (.op (.bin .gtr) (.cons (.inp 1) (.cons (.inp 0) .nil)))))) h33_1 .skip) h33_0)
@[simp] theorem h33_2_wp {P : Program} {F : PF P} {Q : EX → List Value → World → Prop} {env : List Value} {w : World} : h33_2.wp F Q env w = HC.wp F (.seq (.br (.chk none (.bin .gtr) (.cons (.inp 1) (.cons (.inp 0) .nil)) (.done [] (some (.op (.bin .gtr) (.cons (.inp 1) (.cons (.inp 0) .nil)))))) h33_1 .skip) h33_0) Q env w := rfl
def l33 : Lifted := ⟨[0, 1, 4, 5], 12, [.slot 2, .slot 3], (.seq (.reg (.done [(2, (.cst (.int .u64 0))), (3, (.cst (.int .i64 0)))] none)) h33_2)⟩
theorem l33_ok : liftFn U0 33 400 = some l33 := by kernel_rfl


theorem known_spec (p : Nat) (c : Array Value) (t : TypeId) (m : Nat) (ks : List (List UInt8)) (n : Nat) (x : List UInt8) (w0 w : World) (A : Asn) (hc : c[0]? = some (.map (some m))) (hx : x.length ≤ 1048576)
    (s : St w0 (A * pt p (.cells c t (0, 0)) * pt m (.map (mapE ks) n)) w) :
    CallW Try.prog 55 [.pointer (some ⟨p, 0, none⟩), .string (mk x)] (fun r w' => r = .tuple #[.int .i64 (askN (keyF x) ks), .bool (askB (keyF x) ks)] ∧ St w0 (A * pt p (.cells c t (0, 0)) * pt m (.map (mapE ks) n)) w') w := by
  refine callW_of_lift l55_ok (by simp [l55]) ?_
  simp [l55]
  refine regmI (fun vs w => match vs with
    | [] => St w0 (A * pt p (.cells c t (0, 0)) * pt m (.map (mapE ks) n)) w
    | r :: _ => r = .string (mk (keyF x)) ∧ St w0 (A * pt p (.cells c t (0, 0)) * pt m (.map (mapE ks) n)) w) s.drew ?_
  have base : ∀ {vs' : List Value} {w : World}, (match vs' with
    | [] => St w0 (A * pt p (.cells c t (0, 0)) * pt m (.map (mapE ks) n)) w
    | r :: _ => r = .string (mk (keyF x)) ∧ St w0 (A * pt p (.cells c t (0, 0)) * pt m (.map (mapE ks) n)) w) → St w0 (A * pt p (.cells c t (0, 0)) * pt m (.map (mapE ks) n)) w := by
    intro vs' w h
    cases vs' with
    | nil => exact h
    | cons r l => exact h.2
  simp
  refine effm_ldc (v := .map (some m)) (fun vs' w _ hw => by rw [cell_of (base hw).drop.look]; exact hc) ?_
  simp
  refine effm_mv rfl (fun w hw => eff_call ((Fold_spec x w0 w _ hx hw).mono fun r w' h => h)) (fun r hr => ?_)
  obtain ⟨_, rfl, _⟩ := hr
  simp
  refine effm_look regT (fun vs' w _ hw => (base hw).look) ?_
  simp
theorem enter_spec (p : Nat) (c : Array Value) (t : TypeId) (m : Nat) (ks : List (List UInt8)) (x : List UInt8) (w0 w : World) (A : Asn) (hc : c[0]? = some (.map (some m))) (hx : x.length ≤ 1048576) (hn : lookK (keyF x) ks 0 = none)
    (s : St w0 (A * pt p (.cells c t (0, 0)) * pt m (.map (mapE ks) ks.length)) w) :
    CallW Try.prog 56 [.pointer (some ⟨p, 0, none⟩), .string (mk x), .int .i64 (ks.length : Int)] (fun r w' => St w0 (A * pt p (.cells c t (0, 0)) * pt m (.map (mapE (ks ++ [keyF x])) (ks ++ [keyF x]).length)) w') w := by
  refine callW_of_lift l56_ok (by simp [l56]) ?_
  simp [l56]
  refine regmI (fun vs w => match vs with
    | [] => St w0 (A * pt p (.cells c t (0, 0)) * pt m (.map (mapE ks) ks.length)) w
    | [r] => r = .string (mk (keyF x)) ∧ St w0 (A * pt p (.cells c t (0, 0)) * pt m (.map (mapE ks) ks.length)) w
    | _ => St w0 (A * pt p (.cells c t (0, 0)) * pt m (.map (mapE (ks ++ [keyF x])) (ks ++ [keyF x]).length)) w) s.drew ?_
  simp
  refine effm_ldc (v := .map (some m)) (fun vs' w he hw => ?_) ?_
  · match vs', hw with
    | [], hw => rw [cell_of (St.drop hw).look]; exact hc
    | [_], hw => rw [cell_of (St.drop hw.2).look]; exact hc
    | _ :: _ :: _, hw => simp [era] at he
  simp
  refine effm_mv rfl (fun w hw => eff_call ((Fold_spec x w0 w _ hx hw).mono fun r w' h => h)) (fun r hr => ?_)
  obtain ⟨_, rfl, _⟩ := hr
  simp
  refine effm_mv rfl (fun w hw => eff_upd regT hw.2 hn fun w' h => by simpa using h) (fun r hr => ?_)
  simp
theorem take_spec (a b : Int) (w : World) (ha : 0 ≤ a ∧ a < 18446744073709551616) (hb : 0 ≤ b ∧ b < 18446744073709551616) : CallW Try.prog 33 [.int .u64 a, .int .u64 b] (fun r w' => r = .tuple #[.int .u64 (if a < b then 0 else a - b), .int .i64 (if a < b then 11 else 0)] ∧ w' = w) w := by
  refine callW_of_lift l33_ok (by simp [l33]) ?_
  simp [l33]
  refine cndI (fun h => ?_) (fun h => ?_)
  · simp at h
    simp [h]
  · simp at h
    simp
    try simp (disch := omega) only [wrapu64]
    exact ⟨by rw [if_neg (by omega)], by omega⟩
def clipV : Value → Value
  | .slice a n _ => .slice a n n
  | v => v
theorem clip_own {w0 w : World} {A : Asn} {e size n : Nat} {v : Value} {xs : List Value} (s : St w0 (A * own e size v n xs) w) : St w0 (A * own e size (clipV v) n xs) w := by
  rcases s.own with ⟨hl, ⟨rfl, rfl, rfl, s'⟩ | ⟨g, cap, cur, rfl, h1, h2, h3, h4, s'⟩⟩
  · exact s
  · exact s'.own_mk' (Nat.le_refl n) (Nat.le_trans h1 h2) (Nat.le_trans (Nat.mul_le_mul_right _ h1) h3) h4
theorem add_zero : (fun x : Addr => x.add 0) = id := by funext x; cases x; rfl
theorem clipA_spec (v : Value) (n : Nat) (xs : List Value) (e : Nat) (w0 w : World) (A : Asn) (hn : n ≤ 1048576) (s : St w0 (A * own e 2 v n xs) w) :
    CallW Try.prog 44 [v] (fun r w' => St w0 (A * own e 2 r n xs) w') w := by
  obtain ⟨a, cap, rfl, hc, _⟩ := s.own_val
  refine callW_of_lift l44_ok (by simp [l44]) ?_
  simp [l44, add_zero]
  exact ⟨hc, clip_own s⟩
theorem clone_spec (v : Value) (rows : List Ac) (w0 w : World) (A : Asn) (hl : rows.length ≤ 1048576) (s : St w0 (A * own 76 2 v rows.length (flat rows)) w) :
    CallW Try.prog 45 [v] (fun r w' => St w0 (A * own 76 2 v rows.length (flat rows) * own 76 2 r rows.length (flat rows)) w') w := by
  obtain ⟨a, cap, rfl, hcap, _⟩ := s.own_val
  refine callW_of_lift l45_ok (by simp [l45]) ?_
  simp [l45]
  cases a with
  | none =>
    simp
    rcases s.own.2 with ⟨h, h0, _⟩ | ⟨_, _, _, h, _⟩
    · have hi : rows = [] := List.eq_nil_of_length_eq_zero h0
      subst hi
      exact s.own_nil _ _
    · cases h
  | some a =>
    simp
    refine eff_bsl0 s ?_
    intro v0 w1 s1
    simp
    have hr : Row w0 (A * own 76 2 (.slice (some a) rows.length cap) rows.length (flat rows) * own 76 2 v0 0 []) (.slice (some a) rows.length cap) rows.length 2 (flat rows) := (row_own s).mono fun w s => s.drop
    refine eff_appR s1 hr (flat_one _) (by decide) rfl (by unfold maxLen; omega) (by omega) ?_
    intro v' w2 s2
    simp
    simpa using s2
end Go.HL.Pu

namespace Go.HL.Pu
open Go.HL Go.HL.Nm Go.Proofs
set_option maxRecDepth 4000
set_option linter.unusedSimpArgs false
set_option linter.unusedVariables false
/-- coins within bounds -/
structure Bd (P : Ps) : Prop where
  coins : ∀ i, i < P.rows.length → 0 ≤ (P.rows.getD i ⟨[], 0⟩).coins ∧ (P.rows.getD i ⟨[], 0⟩).coins ≤ 4611686018427387904
  held : 0 ≤ P.held ∧ P.held ≤ 4611686018427387904
  sup : 0 ≤ P.sup ∧ P.sup ≤ 4611686018427387904
  len : P.rows.length ≤ 64
def coin (l : List Ac) (i : Nat) : Int := (l.getD i ⟨[], 0⟩).coins
def setC (l : List Ac) (i : Nat) (c : Int) : List Ac := l.set i ⟨(l.getD i ⟨[], 0⟩).name, c⟩
theorem coin_at {l : List Ac} {i : Nat} (h : i < l.length) : coin l i = l[i].coins := by simp [coin, h]
theorem setC_at {l : List Ac} {i : Nat} (h : i < l.length) (c : Int) : (flat l).set (i * 2 + 1) (.int .u64 c) = flat (setC l i c) := by
  rw [flat_set1 h]; simp [setC, h]
theorem setC_len (l : List Ac) (i : Nat) (c : Int) : (setC l i c).length = l.length := by simp [setC]
theorem keys_setC (l : List Ac) (i : Nat) (c : Int) : keys (setC l i c) = keys l := by
  unfold keys setC
  rw [List.map_set]
  by_cases h : i < l.length
  · have e : keyF (l.getD i ⟨[], 0⟩).name = (l.map fun x => keyF x.name)[i]'(by simpa using h) := by simp [h]
    show (l.map fun x => keyF x.name).set i (keyF (l.getD i ⟨[], 0⟩).name) = _
    rw [e]; exact List.set_getElem_self _
  · rw [List.set_eq_of_length_le (by simp; omega)]
def accE (l : List Ac) (n : Int) : Int := if 0 ≤ n ∧ n < l.length then 0 else 142
-- (*bazaar/purse.Purse).account
def h66_0 : HC := (.seq (.reg (.done [(2, (.cst (.int .i64 0)))] none)) .ret)
@[simp] theorem h66_0_wp {P : Program} {F : PF P} {Q : EX → List Value → World → Prop} {env : List Value} {w : World} : h66_0.wp F Q env w = HC.wp F (.seq (.reg (.done [(2, (.cst (.int .i64 0)))] none)) .ret) Q env w := rfl
def h66_1 : HC := (.seq (.reg (.done [(2, (.cst (.int .i64 142)))] none)) .ret)
@[simp] theorem h66_1_wp {P : Program} {F : PF P} {Q : EX → List Value → World → Prop} {env : List Value} {w : World} : h66_1.wp F Q env w = HC.wp F (.seq (.reg (.done [(2, (.cst (.int .i64 142)))] none)) .ret) Q env w := rfl
def h66_2 : HC := (.seq (.br (.chk none (.bin .lss) (.cons (.inp 1) (.cons (.cst (.int .i64 0)) .nil)) (.bnd (.op (.bin .lss) (.cons (.inp 1) (.cons (.cst (.int .i64 0)) .nil))) (.chk (some ((.bv 0), false)) .chkp (.cons (.inp 0) .nil) (.chk (some ((.bv 0), false)) (.fld 2) (.cons (.op .chkp (.cons (.inp 0) .nil)) .nil) (.ite (.bv 0) false (.eff (.ld false 1) (.cons (.ite (.bv 0) false (.op (.fld 2) (.cons (.op .chkp (.cons (.inp 0) .nil)) .nil)) (.cst (.tuple #[]))) .nil) (.chk none .lenL (.cons (.bv 1) .nil) (.chk none (.bin .geq) (.cons (.ite (.bv 0) false (.inp 1) (.cst (.tuple #[]))) (.cons (.op .lenL (.cons (.bv 1) .nil)) .nil)) (.isb none (.bv 0) (.done [] (some (.op (.bin .geq) (.cons (.ite (.bv 0) false (.inp 1) (.cst (.tuple #[]))) (.cons (.op .lenL (.cons (.bv 1) .nil)) .nil))))))))) (.isb none (.bv 0) (.done [] (some (.cst (.bool true)))))))))) h66_1 .skip) h66_0)
@[simp] theorem h66_2_wp {P : Program} {F : PF P} {Q : EX → List Value → World → Prop} {env : List Value} {w : World} : h66_2.wp F Q env w = HC.wp F (.seq (.br (.chk none (.bin .lss) (.cons (.inp 1) (.cons (.cst (.int .i64 0)) .nil)) (.bnd (.op (.bin .lss) (.cons (.inp 1) (.cons (.cst (.int .i64 0)) .nil))) (.chk (some ((.bv 0), false)) .chkp (.cons (.inp 0) .nil) (.chk (some ((.bv 0), false)) (.fld 2) (.cons (.op .chkp (.cons (.inp 0) .nil)) .nil) (.ite (.bv 0) false (.eff (.ld false 1) (.cons (.ite (.bv 0) false (.op (.fld 2) (.cons (.op .chkp (.cons (.inp 0) .nil)) .nil)) (.cst (.tuple #[]))) .nil) (.chk none .lenL (.cons (.bv 1) .nil) (.chk none (.bin .geq) (.cons (.ite (.bv 0) false (.inp 1) (.cst (.tuple #[]))) (.cons (.op .lenL (.cons (.bv 1) .nil)) .nil)) (.isb none (.bv 0) (.done [] (some (.op (.bin .geq) (.cons (.ite (.bv 0) false (.inp 1) (.cst (.tuple #[]))) (.cons (.op .lenL (.cons (.bv 1) .nil)) .nil))))))))) (.isb none (.bv 0) (.done [] (some (.cst (.bool true)))))))))) h66_1 .skip) h66_0) Q env w := rfl
def h66_3 : HC := (.seq (.reg (.done [(2, (.cst (.int .i64 1)))] none)) .ret)
@[simp] theorem h66_3_wp {P : Program} {F : PF P} {Q : EX → List Value → World → Prop} {env : List Value} {w : World} : h66_3.wp F Q env w = HC.wp F (.seq (.reg (.done [(2, (.cst (.int .i64 1)))] none)) .ret) Q env w := rfl
def h66_4 : HC := (.seq (.br (.chk none (.eqNil false (.pointer 81) (.pointer none)) (.cons (.inp 0) .nil) (.done [] (some (.op (.eqNil false (.pointer 81) (.pointer none)) (.cons (.inp 0) .nil))))) h66_3 .skip) h66_2)
@[simp] theorem h66_4_wp {P : Program} {F : PF P} {Q : EX → List Value → World → Prop} {env : List Value} {w : World} : h66_4.wp F Q env w = HC.wp F (.seq (.br (.chk none (.eqNil false (.pointer 81) (.pointer none)) (.cons (.inp 0) .nil) (.done [] (some (.op (.eqNil false (.pointer 81) (.pointer none)) (.cons (.inp 0) .nil))))) h66_3 .skip) h66_2) Q env w := rfl
def l66 : Lifted := ⟨[0, 1, 4], 18, [.slot 2], (.seq (.reg (.done [(2, (.cst (.int .i64 0)))] none)) h66_4)⟩
theorem l66_ok : liftFn U0 66 400 = some l66 := by kernel_rfl

-- (*bazaar/purse.Purse).Open
def h32_0 : HC := (.seq (.reg (.done [(2, (.inp 6)), (3, (.cst (.int .i64 0)))] none)) .ret)
@[simp] theorem h32_0_wp {P : Program} {F : PF P} {Q : EX → List Value → World → Prop} {env : List Value} {w : World} : h32_0.wp F Q env w = HC.wp F (.seq (.reg (.done [(2, (.inp 6)), (3, (.cst (.int .i64 0)))] none)) .ret) Q env w := rfl
def h32_1 : HC := (.seq (.reg (.chk none .chkp (.cons (.inp 0) .nil) (.chk none (.fld 0) (.cons (.op .chkp (.cons (.inp 0) .nil)) .nil) (.eff (.call 56) (.cons (.op (.fld 0) (.cons (.op .chkp (.cons (.inp 0) .nil)) .nil)) (.cons (.inp 1) (.cons (.inp 6) .nil))) (.done [] none))))) h32_0)
@[simp] theorem h32_1_wp {P : Program} {F : PF P} {Q : EX → List Value → World → Prop} {env : List Value} {w : World} : h32_1.wp F Q env w = HC.wp F (.seq (.reg (.chk none .chkp (.cons (.inp 0) .nil) (.chk none (.fld 0) (.cons (.op .chkp (.cons (.inp 0) .nil)) .nil) (.eff (.call 56) (.cons (.op (.fld 0) (.cons (.op .chkp (.cons (.inp 0) .nil)) .nil)) (.cons (.inp 1) (.cons (.inp 6) .nil))) (.done [] none))))) h32_0) Q env w := rfl
def h32_2 : HC := (.seq (.reg (.chk none .chkp (.cons (.inp 0) .nil) (.chk none (.fld 2) (.cons (.op .chkp (.cons (.inp 0) .nil)) .nil) (.eff (.ld false 1) (.cons (.op (.fld 2) (.cons (.op .chkp (.cons (.inp 0) .nil)) .nil)) .nil) (.chk none (.build #[(.string ⟨#[]⟩), (.int .u64 0)] [(0, 1), (1, 1)] [0]) (.cons (.inp 1) .nil) (.eff (.bsl 76 1 2 #[(.string ⟨#[]⟩), (.int .u64 0)] [0]) (.cons (.op (.build #[(.string ⟨#[]⟩), (.int .u64 0)] [(0, 1), (1, 1)] [0]) (.cons (.inp 1) .nil)) .nil) (.eff (.app 22 22 76 2 24 (.agg #[(.string ⟨#[]⟩), (.int .u64 0)])) (.cons (.bv 0) (.cons (.bv 1) .nil)) (.chk none .chkp (.cons (.inp 0) .nil) (.chk none (.fld 2) (.cons (.op .chkp (.cons (.inp 0) .nil)) .nil) (.eff (.st 1) (.cons (.op (.fld 2) (.cons (.op .chkp (.cons (.inp 0) .nil)) .nil)) (.cons (.bv 2) .nil)) (.done [] none))))))))))) h32_1)
@[simp] theorem h32_2_wp {P : Program} {F : PF P} {Q : EX → List Value → World → Prop} {env : List Value} {w : World} : h32_2.wp F Q env w = HC.wp F (.seq (.reg (.chk none .chkp (.cons (.inp 0) .nil) (.chk none (.fld 2) (.cons (.op .chkp (.cons (.inp 0) .nil)) .nil) (.eff (.ld false 1) (.cons (.op (.fld 2) (.cons (.op .chkp (.cons (.inp 0) .nil)) .nil)) .nil) (.chk none (.build #[(.string ⟨#[]⟩), (.int .u64 0)] [(0, 1), (1, 1)] [0]) (.cons (.inp 1) .nil) (.eff (.bsl 76 1 2 #[(.string ⟨#[]⟩), (.int .u64 0)] [0]) (.cons (.op (.build #[(.string ⟨#[]⟩), (.int .u64 0)] [(0, 1), (1, 1)] [0]) (.cons (.inp 1) .nil)) .nil) (.eff (.app 22 22 76 2 24 (.agg #[(.string ⟨#[]⟩), (.int .u64 0)])) (.cons (.bv 0) (.cons (.bv 1) .nil)) (.chk none .chkp (.cons (.inp 0) .nil) (.chk none (.fld 2) (.cons (.op .chkp (.cons (.inp 0) .nil)) .nil) (.eff (.st 1) (.cons (.op (.fld 2) (.cons (.op .chkp (.cons (.inp 0) .nil)) .nil)) (.cons (.bv 2) .nil)) (.done [] none))))))))))) h32_1) Q env w := rfl
def h32_3 : HC := (.seq (.reg (.done [(2, (.cst (.int .i64 0))), (3, (.cst (.int .i64 141)))] none)) .ret)
@[simp] theorem h32_3_wp {P : Program} {F : PF P} {Q : EX → List Value → World → Prop} {env : List Value} {w : World} : h32_3.wp F Q env w = HC.wp F (.seq (.reg (.done [(2, (.cst (.int .i64 0))), (3, (.cst (.int .i64 141)))] none)) .ret) Q env w := rfl
def h32_4 : HC := (.seq (.br (.chk none .chkp (.cons (.inp 0) .nil) (.chk none (.fld 1) (.cons (.op .chkp (.cons (.inp 0) .nil)) .nil) (.eff (.ld false 1) (.cons (.op (.fld 1) (.cons (.op .chkp (.cons (.inp 0) .nil)) .nil)) .nil) (.chk none (.bin .eql) (.cons (.inp 6) (.cons (.bv 0) .nil)) (.done [] (some (.op (.bin .eql) (.cons (.inp 6) (.cons (.bv 0) .nil))))))))) h32_3 .skip) h32_2)
@[simp] theorem h32_4_wp {P : Program} {F : PF P} {Q : EX → List Value → World → Prop} {env : List Value} {w : World} : h32_4.wp F Q env w = HC.wp F (.seq (.br (.chk none .chkp (.cons (.inp 0) .nil) (.chk none (.fld 1) (.cons (.op .chkp (.cons (.inp 0) .nil)) .nil) (.eff (.ld false 1) (.cons (.op (.fld 1) (.cons (.op .chkp (.cons (.inp 0) .nil)) .nil)) .nil) (.chk none (.bin .eql) (.cons (.inp 6) (.cons (.bv 0) .nil)) (.done [] (some (.op (.bin .eql) (.cons (.inp 6) (.cons (.bv 0) .nil))))))))) h32_3 .skip) h32_2) Q env w := rfl
def h32_5 : HC := (.seq (.reg (.chk none .chkp (.cons (.inp 0) .nil) (.chk none (.fld 2) (.cons (.op .chkp (.cons (.inp 0) .nil)) .nil) (.eff (.ld false 1) (.cons (.op (.fld 2) (.cons (.op .chkp (.cons (.inp 0) .nil)) .nil)) .nil) (.chk none .lenL (.cons (.bv 0) .nil) (.done [(6, (.op .lenL (.cons (.bv 0) .nil)))] none)))))) h32_4)
@[simp] theorem h32_5_wp {P : Program} {F : PF P} {Q : EX → List Value → World → Prop} {env : List Value} {w : World} : h32_5.wp F Q env w = HC.wp F (.seq (.reg (.chk none .chkp (.cons (.inp 0) .nil) (.chk none (.fld 2) (.cons (.op .chkp (.cons (.inp 0) .nil)) .nil) (.eff (.ld false 1) (.cons (.op (.fld 2) (.cons (.op .chkp (.cons (.inp 0) .nil)) .nil)) .nil) (.chk none .lenL (.cons (.bv 0) .nil) (.done [(6, (.op .lenL (.cons (.bv 0) .nil)))] none)))))) h32_4) Q env w := rfl
def h32_6 : HC := (.seq (.reg (.done [(2, (.cst (.int .i64 0))), (3, (.cst (.int .i64 140)))] none)) .ret)
@[simp] theorem h32_6_wp {P : Program} {F : PF P} {Q : EX → List Value → World → Prop} {env : List Value} {w : World} : h32_6.wp F Q env w = HC.wp F (.seq (.reg (.done [(2, (.cst (.int .i64 0))), (3, (.cst (.int .i64 140)))] none)) .ret) Q env w := rfl
def h32_7 : HC := (.seq (.br (.done [] (some (.inp 5))) h32_6 .skip) h32_5)
@[simp] theorem h32_7_wp {P : Program} {F : PF P} {Q : EX → List Value → World → Prop} {env : List Value} {w : World} : h32_7.wp F Q env w = HC.wp F (.seq (.br (.done [] (some (.inp 5))) h32_6 .skip) h32_5) Q env w := rfl
def h32_8 : HC := (.seq (.reg (.chk none .chkp (.cons (.inp 0) .nil) (.chk none (.fld 0) (.cons (.op .chkp (.cons (.inp 0) .nil)) .nil) (.eff (.call 55) (.cons (.op (.fld 0) (.cons (.op .chkp (.cons (.inp 0) .nil)) .nil)) (.cons (.inp 1) .nil)) (.chk none (.ext 0) (.cons (.bv 0) .nil) (.chk none (.ext 1) (.cons (.bv 0) .nil) (.done [(5, (.op (.ext 1) (.cons (.bv 0) .nil)))] none))))))) h32_7)
@[simp] theorem h32_8_wp {P : Program} {F : PF P} {Q : EX → List Value → World → Prop} {env : List Value} {w : World} : h32_8.wp F Q env w = HC.wp F (.seq (.reg (.chk none .chkp (.cons (.inp 0) .nil) (.chk none (.fld 0) (.cons (.op .chkp (.cons (.inp 0) .nil)) .nil) (.eff (.call 55) (.cons (.op (.fld 0) (.cons (.op .chkp (.cons (.inp 0) .nil)) .nil)) (.cons (.inp 1) .nil)) (.chk none (.ext 0) (.cons (.bv 0) .nil) (.chk none (.ext 1) (.cons (.bv 0) .nil) (.done [(5, (.op (.ext 1) (.cons (.bv 0) .nil)))] none))))))) h32_7) Q env w := rfl
def h32_9 : HC := (.seq (.reg (.done [(2, (.cst (.int .i64 0))), (3, (.inp 4))] none)) .ret)
@[simp] theorem h32_9_wp {P : Program} {F : PF P} {Q : EX → List Value → World → Prop} {env : List Value} {w : World} : h32_9.wp F Q env w = HC.wp F (.seq (.reg (.done [(2, (.cst (.int .i64 0))), (3, (.inp 4))] none)) .ret) Q env w := rfl
def h32_10 : HC := (.seq (.br (.chk none (.bin .neq) (.cons (.inp 4) (.cons (.cst (.int .i64 0)) .nil)) (.done [] (some (.op (.bin .neq) (.cons (.inp 4) (.cons (.cst (.int .i64 0)) .nil)))))) h32_9 .skip) h32_8)
@[simp] theorem h32_10_wp {P : Program} {F : PF P} {Q : EX → List Value → World → Prop} {env : List Value} {w : World} : h32_10.wp F Q env w = HC.wp F (.seq (.br (.chk none (.bin .neq) (.cons (.inp 4) (.cons (.cst (.int .i64 0)) .nil)) (.done [] (some (.op (.bin .neq) (.cons (.inp 4) (.cons (.cst (.int .i64 0)) .nil)))))) h32_9 .skip) h32_8) Q env w := rfl
def h32_11 : HC := (.seq (.reg (.eff (.call 54) (.cons (.inp 1) .nil) (.chk none (.ext 0) (.cons (.bv 0) .nil) (.chk none (.ext 1) (.cons (.bv 0) .nil) (.done [(4, (.op (.ext 1) (.cons (.bv 0) .nil)))] none))))) h32_10)
@[simp] theorem h32_11_wp {P : Program} {F : PF P} {Q : EX → List Value → World → Prop} {env : List Value} {w : World} : h32_11.wp F Q env w = HC.wp F (.seq (.reg (.eff (.call 54) (.cons (.inp 1) .nil) (.chk none (.ext 0) (.cons (.bv 0) .nil) (.chk none (.ext 1) (.cons (.bv 0) .nil) (.done [(4, (.op (.ext 1) (.cons (.bv 0) .nil)))] none))))) h32_10) Q env w := rfl
def h32_12 : HC := (.seq (.reg (.done [(2, (.cst (.int .i64 0))), (3, (.cst (.int .i64 1)))] none)) .ret)
@[simp] theorem h32_12_wp {P : Program} {F : PF P} {Q : EX → List Value → World → Prop} {env : List Value} {w : World} : h32_12.wp F Q env w = HC.wp F (.seq (.reg (.done [(2, (.cst (.int .i64 0))), (3, (.cst (.int .i64 1)))] none)) .ret) Q env w := rfl
def h32_13 : HC := (.seq (.br (.chk none (.eqNil false (.pointer 81) (.pointer none)) (.cons (.inp 0) .nil) (.done [] (some (.op (.eqNil false (.pointer 81) (.pointer none)) (.cons (.inp 0) .nil))))) h32_12 .skip) h32_11)
@[simp] theorem h32_13_wp {P : Program} {F : PF P} {Q : EX → List Value → World → Prop} {env : List Value} {w : World} : h32_13.wp F Q env w = HC.wp F (.seq (.br (.chk none (.eqNil false (.pointer 81) (.pointer none)) (.cons (.inp 0) .nil) (.done [] (some (.op (.eqNil false (.pointer 81) (.pointer none)) (.cons (.inp 0) .nil))))) h32_12 .skip) h32_11) Q env w := rfl
def l32 : Lifted := ⟨[0, 1, 4, 5, 7, 9, 10], 59, [.slot 2, .slot 3], (.seq (.reg (.done [(2, (.cst (.int .i64 0))), (3, (.cst (.int .i64 0)))] none)) h32_13)⟩
theorem l32_ok : liftFn U0 32 400 = some l32 := by kernel_rfl

-- (*bazaar/purse.Purse).Mint
def h48_0 : HC := (.seq (.reg (.done [(3, (.cst (.int .i64 0)))] none)) .ret)
@[simp] theorem h48_0_wp {P : Program} {F : PF P} {Q : EX → List Value → World → Prop} {env : List Value} {w : World} : h48_0.wp F Q env w = HC.wp F (.seq (.reg (.done [(3, (.cst (.int .i64 0)))] none)) .ret) Q env w := rfl
def h48_1 : HC := (.seq (.reg (.chk none .chkp (.cons (.inp 0) .nil) (.chk none (.fld 2) (.cons (.op .chkp (.cons (.inp 0) .nil)) .nil) (.eff (.ld false 1) (.cons (.op (.fld 2) (.cons (.op .chkp (.cons (.inp 0) .nil)) .nil)) .nil) (.chk none (.idxL 2) (.cons (.bv 0) (.cons (.inp 1) .nil)) (.chk none (.fld 1) (.cons (.op (.idxL 2) (.cons (.bv 0) (.cons (.inp 1) .nil))) .nil) (.eff (.ld false 1) (.cons (.op (.fld 1) (.cons (.op (.idxL 2) (.cons (.bv 0) (.cons (.inp 1) .nil))) .nil)) .nil) (.chk none (.bin .add) (.cons (.bv 1) (.cons (.inp 2) .nil)) (.chk none (.idxL 2) (.cons (.bv 0) (.cons (.inp 1) .nil)) (.chk none (.fld 1) (.cons (.op (.idxL 2) (.cons (.bv 0) (.cons (.inp 1) .nil))) .nil) (.eff (.st 1) (.cons (.op (.fld 1) (.cons (.op (.idxL 2) (.cons (.bv 0) (.cons (.inp 1) .nil))) .nil)) (.cons (.op (.bin .add) (.cons (.bv 1) (.cons (.inp 2) .nil))) .nil)) (.done [] none)))))))))))) h48_0)
@[simp] theorem h48_1_wp {P : Program} {F : PF P} {Q : EX → List Value → World → Prop} {env : List Value} {w : World} : h48_1.wp F Q env w = HC.wp F (.seq (.reg (.chk none .chkp (.cons (.inp 0) .nil) (.chk none (.fld 2) (.cons (.op .chkp (.cons (.inp 0) .nil)) .nil) (.eff (.ld false 1) (.cons (.op (.fld 2) (.cons (.op .chkp (.cons (.inp 0) .nil)) .nil)) .nil) (.chk none (.idxL 2) (.cons (.bv 0) (.cons (.inp 1) .nil)) (.chk none (.fld 1) (.cons (.op (.idxL 2) (.cons (.bv 0) (.cons (.inp 1) .nil))) .nil) (.eff (.ld false 1) (.cons (.op (.fld 1) (.cons (.op (.idxL 2) (.cons (.bv 0) (.cons (.inp 1) .nil))) .nil)) .nil) (.chk none (.bin .add) (.cons (.bv 1) (.cons (.inp 2) .nil)) (.chk none (.idxL 2) (.cons (.bv 0) (.cons (.inp 1) .nil)) (.chk none (.fld 1) (.cons (.op (.idxL 2) (.cons (.bv 0) (.cons (.inp 1) .nil))) .nil) (.eff (.st 1) (.cons (.op (.fld 1) (.cons (.op (.idxL 2) (.cons (.bv 0) (.cons (.inp 1) .nil))) .nil)) (.cons (.op (.bin .add) (.cons (.bv 1) (.cons (.inp 2) .nil))) .nil)) (.done [] none)))))))))))) h48_0) Q env w := rfl
def h48_2 : HC := (.seq (.reg (.chk none .chkp (.cons (.inp 0) .nil) (.chk none (.fld 3) (.cons (.op .chkp (.cons (.inp 0) .nil)) .nil) (.eff (.ld false 1) (.cons (.op (.fld 3) (.cons (.op .chkp (.cons (.inp 0) .nil)) .nil)) .nil) (.chk none (.bin .add) (.cons (.bv 0) (.cons (.inp 2) .nil)) (.chk none .chkp (.cons (.inp 0) .nil) (.chk none (.fld 3) (.cons (.op .chkp (.cons (.inp 0) .nil)) .nil) (.eff (.st 1) (.cons (.op (.fld 3) (.cons (.op .chkp (.cons (.inp 0) .nil)) .nil)) (.cons (.op (.bin .add) (.cons (.bv 0) (.cons (.inp 2) .nil))) .nil)) (.done [] none))))))))) h48_1)
@[simp] theorem h48_2_wp {P : Program} {F : PF P} {Q : EX → List Value → World → Prop} {env : List Value} {w : World} : h48_2.wp F Q env w = HC.wp F (.seq (.reg (.chk none .chkp (.cons (.inp 0) .nil) (.chk none (.fld 3) (.cons (.op .chkp (.cons (.inp 0) .nil)) .nil) (.eff (.ld false 1) (.cons (.op (.fld 3) (.cons (.op .chkp (.cons (.inp 0) .nil)) .nil)) .nil) (.chk none (.bin .add) (.cons (.bv 0) (.cons (.inp 2) .nil)) (.chk none .chkp (.cons (.inp 0) .nil) (.chk none (.fld 3) (.cons (.op .chkp (.cons (.inp 0) .nil)) .nil) (.eff (.st 1) (.cons (.op (.fld 3) (.cons (.op .chkp (.cons (.inp 0) .nil)) .nil)) (.cons (.op (.bin .add) (.cons (.bv 0) (.cons (.inp 2) .nil))) .nil)) (.done [] none))))))))) h48_1) Q env w := rfl
def h48_3 : HC := (.seq (.reg (.done [(3, (.cst (.int .i64 144)))] none)) .ret)
@[simp] theorem h48_3_wp {P : Program} {F : PF P} {Q : EX → List Value → World → Prop} {env : List Value} {w : World} : h48_3.wp F Q env w = HC.wp F (.seq (.reg (.done [(3, (.cst (.int .i64 144)))] none)) .ret) Q env w := rfl
def h48_4 : HC := (.seq (.br (.chk none .chkp (.cons (.inp 0) .nil) (.chk none (.fld 3) (.cons (.op .chkp (.cons (.inp 0) .nil)) .nil) (.eff (.ld false 1) (.cons (.op (.fld 3) (.cons (.op .chkp (.cons (.inp 0) .nil)) .nil)) .nil) (.chk none (.bin .sub) (.cons (.cst (.int .u64 4611686018427387904)) (.cons (.bv 0) .nil)) (.chk none (.bin .gtr) (.cons (.inp 2) (.cons (.op (.bin .sub) (.cons (.cst (.int .u64 4611686018427387904)) (.cons (.bv 0) .nil))) .nil)) (.done [] (some (.op (.bin .gtr) (.cons (.inp 2) (.cons (.op (.bin .sub) (.cons (.cst (.int .u64 4611686018427387904)) (.cons (.bv 0) .nil))) .nil)))))))))) h48_3 .skip) h48_2)
@[simp] theorem h48_4_wp {P : Program} {F : PF P} {Q : EX → List Value → World → Prop} {env : List Value} {w : World} : h48_4.wp F Q env w = HC.wp F (.seq (.br (.chk none .chkp (.cons (.inp 0) .nil) (.chk none (.fld 3) (.cons (.op .chkp (.cons (.inp 0) .nil)) .nil) (.eff (.ld false 1) (.cons (.op (.fld 3) (.cons (.op .chkp (.cons (.inp 0) .nil)) .nil)) .nil) (.chk none (.bin .sub) (.cons (.cst (.int .u64 4611686018427387904)) (.cons (.bv 0) .nil)) (.chk none (.bin .gtr) (.cons (.inp 2) (.cons (.op (.bin .sub) (.cons (.cst (.int .u64 4611686018427387904)) (.cons (.bv 0) .nil))) .nil)) (.done [] (some (.op (.bin .gtr) (.cons (.inp 2) (.cons (.op (.bin .sub) (.cons (.cst (.int .u64 4611686018427387904)) (.cons (.bv 0) .nil))) .nil)))))))))) h48_3 .skip) h48_2) Q env w := rfl
def h48_5 : HC := (.seq (.reg (.done [(3, (.cst (.int .i64 2)))] none)) .ret)
@[simp] theorem h48_5_wp {P : Program} {F : PF P} {Q : EX → List Value → World → Prop} {env : List Value} {w : World} : h48_5.wp F Q env w = HC.wp F (.seq (.reg (.done [(3, (.cst (.int .i64 2)))] none)) .ret) Q env w := rfl
def h48_6 : HC := (.seq (.br (.chk none (.bin .eql) (.cons (.inp 2) (.cons (.cst (.int .u64 0)) .nil)) (.done [] (some (.op (.bin .eql) (.cons (.inp 2) (.cons (.cst (.int .u64 0)) .nil)))))) h48_5 .skip) h48_4)
@[simp] theorem h48_6_wp {P : Program} {F : PF P} {Q : EX → List Value → World → Prop} {env : List Value} {w : World} : h48_6.wp F Q env w = HC.wp F (.seq (.br (.chk none (.bin .eql) (.cons (.inp 2) (.cons (.cst (.int .u64 0)) .nil)) (.done [] (some (.op (.bin .eql) (.cons (.inp 2) (.cons (.cst (.int .u64 0)) .nil)))))) h48_5 .skip) h48_4) Q env w := rfl
def h48_7 : HC := (.seq (.reg (.done [(3, (.inp 4))] none)) .ret)
@[simp] theorem h48_7_wp {P : Program} {F : PF P} {Q : EX → List Value → World → Prop} {env : List Value} {w : World} : h48_7.wp F Q env w = HC.wp F (.seq (.reg (.done [(3, (.inp 4))] none)) .ret) Q env w := rfl
def h48_8 : HC := (.seq (.br (.chk none (.bin .neq) (.cons (.inp 4) (.cons (.cst (.int .i64 0)) .nil)) (.done [] (some (.op (.bin .neq) (.cons (.inp 4) (.cons (.cst (.int .i64 0)) .nil)))))) h48_7 .skip) h48_6)
@[simp] theorem h48_8_wp {P : Program} {F : PF P} {Q : EX → List Value → World → Prop} {env : List Value} {w : World} : h48_8.wp F Q env w = HC.wp F (.seq (.br (.chk none (.bin .neq) (.cons (.inp 4) (.cons (.cst (.int .i64 0)) .nil)) (.done [] (some (.op (.bin .neq) (.cons (.inp 4) (.cons (.cst (.int .i64 0)) .nil)))))) h48_7 .skip) h48_6) Q env w := rfl
def h48_9 : HC := (.seq (.reg (.eff (.call 66) (.cons (.inp 0) (.cons (.inp 1) .nil)) (.done [(4, (.bv 0))] none))) h48_8)
@[simp] theorem h48_9_wp {P : Program} {F : PF P} {Q : EX → List Value → World → Prop} {env : List Value} {w : World} : h48_9.wp F Q env w = HC.wp F (.seq (.reg (.eff (.call 66) (.cons (.inp 0) (.cons (.inp 1) .nil)) (.done [(4, (.bv 0))] none))) h48_8) Q env w := rfl
def l48 : Lifted := ⟨[0, 1, 2, 6, 7], 43, [.slot 3], (.seq (.reg (.done [(3, (.cst (.int .i64 0)))] none)) h48_9)⟩
theorem l48_ok : liftFn U0 48 400 = some l48 := by kernel_rfl

-- (*bazaar/purse.Purse).Take
def h63_0 : HC := (.seq (.reg (.done [(3, (.cst (.int .i64 0)))] none)) .ret)
@[simp] theorem h63_0_wp {P : Program} {F : PF P} {Q : EX → List Value → World → Prop} {env : List Value} {w : World} : h63_0.wp F Q env w = HC.wp F (.seq (.reg (.done [(3, (.cst (.int .i64 0)))] none)) .ret) Q env w := rfl
def h63_1 : HC := (.seq (.reg (.chk none .chkp (.cons (.inp 0) .nil) (.chk none (.fld 4) (.cons (.op .chkp (.cons (.inp 0) .nil)) .nil) (.eff (.ld false 1) (.cons (.op (.fld 4) (.cons (.op .chkp (.cons (.inp 0) .nil)) .nil)) .nil) (.chk none (.bin .add) (.cons (.bv 0) (.cons (.inp 2) .nil)) (.chk none .chkp (.cons (.inp 0) .nil) (.chk none (.fld 4) (.cons (.op .chkp (.cons (.inp 0) .nil)) .nil) (.eff (.st 1) (.cons (.op (.fld 4) (.cons (.op .chkp (.cons (.inp 0) .nil)) .nil)) (.cons (.op (.bin .add) (.cons (.bv 0) (.cons (.inp 2) .nil))) .nil)) (.done [] none))))))))) h63_0)
@[simp] theorem h63_1_wp {P : Program} {F : PF P} {Q : EX → List Value → World → Prop} {env : List Value} {w : World} : h63_1.wp F Q env w = HC.wp F (.seq (.reg (.chk none .chkp (.cons (.inp 0) .nil) (.chk none (.fld 4) (.cons (.op .chkp (.cons (.inp 0) .nil)) .nil) (.eff (.ld false 1) (.cons (.op (.fld 4) (.cons (.op .chkp (.cons (.inp 0) .nil)) .nil)) .nil) (.chk none (.bin .add) (.cons (.bv 0) (.cons (.inp 2) .nil)) (.chk none .chkp (.cons (.inp 0) .nil) (.chk none (.fld 4) (.cons (.op .chkp (.cons (.inp 0) .nil)) .nil) (.eff (.st 1) (.cons (.op (.fld 4) (.cons (.op .chkp (.cons (.inp 0) .nil)) .nil)) (.cons (.op (.bin .add) (.cons (.bv 0) (.cons (.inp 2) .nil))) .nil)) (.done [] none))))))))) h63_0) Q env w := rfl
def h63_2 : HC := (.seq (.reg (.chk none .chkp (.cons (.inp 0) .nil) (.chk none (.fld 2) (.cons (.op .chkp (.cons (.inp 0) .nil)) .nil) (.eff (.ld false 1) (.cons (.op (.fld 2) (.cons (.op .chkp (.cons (.inp 0) .nil)) .nil)) .nil) (.chk none (.idxL 2) (.cons (.bv 0) (.cons (.inp 1) .nil)) (.chk none (.fld 1) (.cons (.op (.idxL 2) (.cons (.bv 0) (.cons (.inp 1) .nil))) .nil) (.eff (.st 1) (.cons (.op (.fld 1) (.cons (.op (.idxL 2) (.cons (.bv 0) (.cons (.inp 1) .nil))) .nil)) (.cons (.inp 5) .nil)) (.done [] none)))))))) h63_1)
@[simp] theorem h63_2_wp {P : Program} {F : PF P} {Q : EX → List Value → World → Prop} {env : List Value} {w : World} : h63_2.wp F Q env w = HC.wp F (.seq (.reg (.chk none .chkp (.cons (.inp 0) .nil) (.chk none (.fld 2) (.cons (.op .chkp (.cons (.inp 0) .nil)) .nil) (.eff (.ld false 1) (.cons (.op (.fld 2) (.cons (.op .chkp (.cons (.inp 0) .nil)) .nil)) .nil) (.chk none (.idxL 2) (.cons (.bv 0) (.cons (.inp 1) .nil)) (.chk none (.fld 1) (.cons (.op (.idxL 2) (.cons (.bv 0) (.cons (.inp 1) .nil))) .nil) (.eff (.st 1) (.cons (.op (.fld 1) (.cons (.op (.idxL 2) (.cons (.bv 0) (.cons (.inp 1) .nil))) .nil)) (.cons (.inp 5) .nil)) (.done [] none)))))))) h63_1) Q env w := rfl
def h63_3 : HC := (.seq (.reg (.done [(3, (.cst (.int .i64 143)))] none)) .ret)
@[simp] theorem h63_3_wp {P : Program} {F : PF P} {Q : EX → List Value → World → Prop} {env : List Value} {w : World} : h63_3.wp F Q env w = HC.wp F (.seq (.reg (.done [(3, (.cst (.int .i64 143)))] none)) .ret) Q env w := rfl
def h63_4 : HC := (.seq (.br (.chk none (.bin .neq) (.cons (.inp 6) (.cons (.cst (.int .i64 0)) .nil)) (.done [] (some (.op (.bin .neq) (.cons (.inp 6) (.cons (.cst (.int .i64 0)) .nil)))))) h63_3 .skip) h63_2)
@[simp] theorem h63_4_wp {P : Program} {F : PF P} {Q : EX → List Value → World → Prop} {env : List Value} {w : World} : h63_4.wp F Q env w = HC.wp F (.seq (.br (.chk none (.bin .neq) (.cons (.inp 6) (.cons (.cst (.int .i64 0)) .nil)) (.done [] (some (.op (.bin .neq) (.cons (.inp 6) (.cons (.cst (.int .i64 0)) .nil)))))) h63_3 .skip) h63_2) Q env w := rfl
def h63_5 : HC := (.seq (.reg (.chk none .chkp (.cons (.inp 0) .nil) (.chk none (.fld 2) (.cons (.op .chkp (.cons (.inp 0) .nil)) .nil) (.eff (.ld false 1) (.cons (.op (.fld 2) (.cons (.op .chkp (.cons (.inp 0) .nil)) .nil)) .nil) (.chk none (.idxL 2) (.cons (.bv 0) (.cons (.inp 1) .nil)) (.chk none (.fld 1) (.cons (.op (.idxL 2) (.cons (.bv 0) (.cons (.inp 1) .nil))) .nil) (.eff (.ld false 1) (.cons (.op (.fld 1) (.cons (.op (.idxL 2) (.cons (.bv 0) (.cons (.inp 1) .nil))) .nil)) .nil) (.eff (.call 33) (.cons (.bv 1) (.cons (.inp 2) .nil)) (.chk none (.ext 0) (.cons (.bv 2) .nil) (.chk none (.ext 1) (.cons (.bv 2) .nil) (.done [(5, (.op (.ext 0) (.cons (.bv 2) .nil))), (6, (.op (.ext 1) (.cons (.bv 2) .nil)))] none))))))))))) h63_4)
@[simp] theorem h63_5_wp {P : Program} {F : PF P} {Q : EX → List Value → World → Prop} {env : List Value} {w : World} : h63_5.wp F Q env w = HC.wp F (.seq (.reg (.chk none .chkp (.cons (.inp 0) .nil) (.chk none (.fld 2) (.cons (.op .chkp (.cons (.inp 0) .nil)) .nil) (.eff (.ld false 1) (.cons (.op (.fld 2) (.cons (.op .chkp (.cons (.inp 0) .nil)) .nil)) .nil) (.chk none (.idxL 2) (.cons (.bv 0) (.cons (.inp 1) .nil)) (.chk none (.fld 1) (.cons (.op (.idxL 2) (.cons (.bv 0) (.cons (.inp 1) .nil))) .nil) (.eff (.ld false 1) (.cons (.op (.fld 1) (.cons (.op (.idxL 2) (.cons (.bv 0) (.cons (.inp 1) .nil))) .nil)) .nil) (.eff (.call 33) (.cons (.bv 1) (.cons (.inp 2) .nil)) (.chk none (.ext 0) (.cons (.bv 2) .nil) (.chk none (.ext 1) (.cons (.bv 2) .nil) (.done [(5, (.op (.ext 0) (.cons (.bv 2) .nil))), (6, (.op (.ext 1) (.cons (.bv 2) .nil)))] none))))))))))) h63_4) Q env w := rfl
def h63_6 : HC := (.seq (.reg (.done [(3, (.inp 4))] none)) .ret)
@[simp] theorem h63_6_wp {P : Program} {F : PF P} {Q : EX → List Value → World → Prop} {env : List Value} {w : World} : h63_6.wp F Q env w = HC.wp F (.seq (.reg (.done [(3, (.inp 4))] none)) .ret) Q env w := rfl
def h63_7 : HC := (.seq (.br (.chk none (.bin .neq) (.cons (.inp 4) (.cons (.cst (.int .i64 0)) .nil)) (.done [] (some (.op (.bin .neq) (.cons (.inp 4) (.cons (.cst (.int .i64 0)) .nil)))))) h63_6 .skip) h63_5)
@[simp] theorem h63_7_wp {P : Program} {F : PF P} {Q : EX → List Value → World → Prop} {env : List Value} {w : World} : h63_7.wp F Q env w = HC.wp F (.seq (.br (.chk none (.bin .neq) (.cons (.inp 4) (.cons (.cst (.int .i64 0)) .nil)) (.done [] (some (.op (.bin .neq) (.cons (.inp 4) (.cons (.cst (.int .i64 0)) .nil)))))) h63_6 .skip) h63_5) Q env w := rfl
def h63_8 : HC := (.seq (.reg (.eff (.call 66) (.cons (.inp 0) (.cons (.inp 1) .nil)) (.done [(4, (.bv 0))] none))) h63_7)
@[simp] theorem h63_8_wp {P : Program} {F : PF P} {Q : EX → List Value → World → Prop} {env : List Value} {w : World} : h63_8.wp F Q env w = HC.wp F (.seq (.reg (.eff (.call 66) (.cons (.inp 0) (.cons (.inp 1) .nil)) (.done [(4, (.bv 0))] none))) h63_7) Q env w := rfl
def l63 : Lifted := ⟨[0, 1, 2, 6, 7, 8, 9], 47, [.slot 3], (.seq (.reg (.done [(3, (.cst (.int .i64 0)))] none)) h63_8)⟩
theorem l63_ok : liftFn U0 63 400 = some l63 := by kernel_rfl

-- (*bazaar/purse.Purse).Put
def h78_0 : HC := (.seq (.reg (.done [(3, (.cst (.int .i64 0)))] none)) .ret)
@[simp] theorem h78_0_wp {P : Program} {F : PF P} {Q : EX → List Value → World → Prop} {env : List Value} {w : World} : h78_0.wp F Q env w = HC.wp F (.seq (.reg (.done [(3, (.cst (.int .i64 0)))] none)) .ret) Q env w := rfl
def h78_1 : HC := (.seq (.reg (.chk none .chkp (.cons (.inp 0) .nil) (.chk none (.fld 2) (.cons (.op .chkp (.cons (.inp 0) .nil)) .nil) (.eff (.ld false 1) (.cons (.op (.fld 2) (.cons (.op .chkp (.cons (.inp 0) .nil)) .nil)) .nil) (.chk none (.idxL 2) (.cons (.bv 0) (.cons (.inp 1) .nil)) (.chk none (.fld 1) (.cons (.op (.idxL 2) (.cons (.bv 0) (.cons (.inp 1) .nil))) .nil) (.eff (.ld false 1) (.cons (.op (.fld 1) (.cons (.op (.idxL 2) (.cons (.bv 0) (.cons (.inp 1) .nil))) .nil)) .nil) (.chk none (.bin .add) (.cons (.bv 1) (.cons (.inp 2) .nil)) (.chk none (.idxL 2) (.cons (.bv 0) (.cons (.inp 1) .nil)) (.chk none (.fld 1) (.cons (.op (.idxL 2) (.cons (.bv 0) (.cons (.inp 1) .nil))) .nil) (.eff (.st 1) (.cons (.op (.fld 1) (.cons (.op (.idxL 2) (.cons (.bv 0) (.cons (.inp 1) .nil))) .nil)) (.cons (.op (.bin .add) (.cons (.bv 1) (.cons (.inp 2) .nil))) .nil)) (.done [] none)))))))))))) h78_0)
@[simp] theorem h78_1_wp {P : Program} {F : PF P} {Q : EX → List Value → World → Prop} {env : List Value} {w : World} : h78_1.wp F Q env w = HC.wp F (.seq (.reg (.chk none .chkp (.cons (.inp 0) .nil) (.chk none (.fld 2) (.cons (.op .chkp (.cons (.inp 0) .nil)) .nil) (.eff (.ld false 1) (.cons (.op (.fld 2) (.cons (.op .chkp (.cons (.inp 0) .nil)) .nil)) .nil) (.chk none (.idxL 2) (.cons (.bv 0) (.cons (.inp 1) .nil)) (.chk none (.fld 1) (.cons (.op (.idxL 2) (.cons (.bv 0) (.cons (.inp 1) .nil))) .nil) (.eff (.ld false 1) (.cons (.op (.fld 1) (.cons (.op (.idxL 2) (.cons (.bv 0) (.cons (.inp 1) .nil))) .nil)) .nil) (.chk none (.bin .add) (.cons (.bv 1) (.cons (.inp 2) .nil)) (.chk none (.idxL 2) (.cons (.bv 0) (.cons (.inp 1) .nil)) (.chk none (.fld 1) (.cons (.op (.idxL 2) (.cons (.bv 0) (.cons (.inp 1) .nil))) .nil) (.eff (.st 1) (.cons (.op (.fld 1) (.cons (.op (.idxL 2) (.cons (.bv 0) (.cons (.inp 1) .nil))) .nil)) (.cons (.op (.bin .add) (.cons (.bv 1) (.cons (.inp 2) .nil))) .nil)) (.done [] none)))))))))))) h78_0) Q env w := rfl
def h78_2 : HC := (.seq (.reg (.chk none .chkp (.cons (.inp 0) .nil) (.chk none (.fld 4) (.cons (.op .chkp (.cons (.inp 0) .nil)) .nil) (.eff (.st 1) (.cons (.op (.fld 4) (.cons (.op .chkp (.cons (.inp 0) .nil)) .nil)) (.cons (.inp 5) .nil)) (.done [] none))))) h78_1)
@[simp] theorem h78_2_wp {P : Program} {F : PF P} {Q : EX → List Value → World → Prop} {env : List Value} {w : World} : h78_2.wp F Q env w = HC.wp F (.seq (.reg (.chk none .chkp (.cons (.inp 0) .nil) (.chk none (.fld 4) (.cons (.op .chkp (.cons (.inp 0) .nil)) .nil) (.eff (.st 1) (.cons (.op (.fld 4) (.cons (.op .chkp (.cons (.inp 0) .nil)) .nil)) (.cons (.inp 5) .nil)) (.done [] none))))) h78_1) Q env w := rfl
def h78_3 : HC := (.seq (.reg (.done [(3, (.cst (.int .i64 143)))] none)) .ret)
@[simp] theorem h78_3_wp {P : Program} {F : PF P} {Q : EX → List Value → World → Prop} {env : List Value} {w : World} : h78_3.wp F Q env w = HC.wp F (.seq (.reg (.done [(3, (.cst (.int .i64 143)))] none)) .ret) Q env w := rfl
def h78_4 : HC := (.seq (.br (.chk none (.bin .neq) (.cons (.inp 6) (.cons (.cst (.int .i64 0)) .nil)) (.done [] (some (.op (.bin .neq) (.cons (.inp 6) (.cons (.cst (.int .i64 0)) .nil)))))) h78_3 .skip) h78_2)
@[simp] theorem h78_4_wp {P : Program} {F : PF P} {Q : EX → List Value → World → Prop} {env : List Value} {w : World} : h78_4.wp F Q env w = HC.wp F (.seq (.br (.chk none (.bin .neq) (.cons (.inp 6) (.cons (.cst (.int .i64 0)) .nil)) (.done [] (some (.op (.bin .neq) (.cons (.inp 6) (.cons (.cst (.int .i64 0)) .nil)))))) h78_3 .skip) h78_2) Q env w := rfl
def h78_5 : HC := (.seq (.reg (.chk none .chkp (.cons (.inp 0) .nil) (.chk none (.fld 4) (.cons (.op .chkp (.cons (.inp 0) .nil)) .nil) (.eff (.ld false 1) (.cons (.op (.fld 4) (.cons (.op .chkp (.cons (.inp 0) .nil)) .nil)) .nil) (.eff (.call 33) (.cons (.bv 0) (.cons (.inp 2) .nil)) (.chk none (.ext 0) (.cons (.bv 1) .nil) (.chk none (.ext 1) (.cons (.bv 1) .nil) (.done [(5, (.op (.ext 0) (.cons (.bv 1) .nil))), (6, (.op (.ext 1) (.cons (.bv 1) .nil)))] none)))))))) h78_4)
@[simp] theorem h78_5_wp {P : Program} {F : PF P} {Q : EX → List Value → World → Prop} {env : List Value} {w : World} : h78_5.wp F Q env w = HC.wp F (.seq (.reg (.chk none .chkp (.cons (.inp 0) .nil) (.chk none (.fld 4) (.cons (.op .chkp (.cons (.inp 0) .nil)) .nil) (.eff (.ld false 1) (.cons (.op (.fld 4) (.cons (.op .chkp (.cons (.inp 0) .nil)) .nil)) .nil) (.eff (.call 33) (.cons (.bv 0) (.cons (.inp 2) .nil)) (.chk none (.ext 0) (.cons (.bv 1) .nil) (.chk none (.ext 1) (.cons (.bv 1) .nil) (.done [(5, (.op (.ext 0) (.cons (.bv 1) .nil))), (6, (.op (.ext 1) (.cons (.bv 1) .nil)))] none)))))))) h78_4) Q env w := rfl
def h78_6 : HC := (.seq (.reg (.done [(3, (.inp 4))] none)) .ret)
@[simp] theorem h78_6_wp {P : Program} {F : PF P} {Q : EX → List Value → World → Prop} {env : List Value} {w : World} : h78_6.wp F Q env w = HC.wp F (.seq (.reg (.done [(3, (.inp 4))] none)) .ret) Q env w := rfl
def h78_7 : HC := (.seq (.br (.chk none (.bin .neq) (.cons (.inp 4) (.cons (.cst (.int .i64 0)) .nil)) (.done [] (some (.op (.bin .neq) (.cons (.inp 4) (.cons (.cst (.int .i64 0)) .nil)))))) h78_6 .skip) h78_5)
@[simp] theorem h78_7_wp {P : Program} {F : PF P} {Q : EX → List Value → World → Prop} {env : List Value} {w : World} : h78_7.wp F Q env w = HC.wp F (.seq (.br (.chk none (.bin .neq) (.cons (.inp 4) (.cons (.cst (.int .i64 0)) .nil)) (.done [] (some (.op (.bin .neq) (.cons (.inp 4) (.cons (.cst (.int .i64 0)) .nil)))))) h78_6 .skip) h78_5) Q env w := rfl
def h78_8 : HC := (.seq (.reg (.eff (.call 66) (.cons (.inp 0) (.cons (.inp 1) .nil)) (.done [(4, (.bv 0))] none))) h78_7)
@[simp] theorem h78_8_wp {P : Program} {F : PF P} {Q : EX → List Value → World → Prop} {env : List Value} {w : World} : h78_8.wp F Q env w = HC.wp F (.seq (.reg (.eff (.call 66) (.cons (.inp 0) (.cons (.inp 1) .nil)) (.done [(4, (.bv 0))] none))) h78_7) Q env w := rfl
def l78 : Lifted := ⟨[0, 1, 2, 6, 7, 8, 9], 43, [.slot 3], (.seq (.reg (.done [(3, (.cst (.int .i64 0)))] none)) h78_8)⟩
theorem l78_ok : liftFn U0 78 400 = some l78 := by kernel_rfl

-- (*bazaar/purse.Purse).Get
def h50_0 : HC := (.seq (.reg (.chk none .chkp (.cons (.inp 0) .nil) (.chk none (.fld 2) (.cons (.op .chkp (.cons (.inp 0) .nil)) .nil) (.eff (.ld false 1) (.cons (.op (.fld 2) (.cons (.op .chkp (.cons (.inp 0) .nil)) .nil)) .nil) (.chk none (.idxL 2) (.cons (.bv 0) (.cons (.inp 1) .nil)) (.eff (.ld true 2) (.cons (.op (.idxL 2) (.cons (.bv 0) (.cons (.inp 1) .nil))) .nil) (.eff (.st 2) (.cons (.inp 2) (.cons (.bv 1) .nil)) (.done [(3, (.cst (.int .i64 0)))] none)))))))) .ret)
@[simp] theorem h50_0_wp {P : Program} {F : PF P} {Q : EX → List Value → World → Prop} {env : List Value} {w : World} : h50_0.wp F Q env w = HC.wp F (.seq (.reg (.chk none .chkp (.cons (.inp 0) .nil) (.chk none (.fld 2) (.cons (.op .chkp (.cons (.inp 0) .nil)) .nil) (.eff (.ld false 1) (.cons (.op (.fld 2) (.cons (.op .chkp (.cons (.inp 0) .nil)) .nil)) .nil) (.chk none (.idxL 2) (.cons (.bv 0) (.cons (.inp 1) .nil)) (.eff (.ld true 2) (.cons (.op (.idxL 2) (.cons (.bv 0) (.cons (.inp 1) .nil))) .nil) (.eff (.st 2) (.cons (.inp 2) (.cons (.bv 1) .nil)) (.done [(3, (.cst (.int .i64 0)))] none)))))))) .ret) Q env w := rfl
def h50_1 : HC := (.seq (.reg (.chk none (.build #[(.string ⟨#[]⟩), (.int .u64 0)] [(0, 1), (1, 1)] []) .nil (.eff (.st 2) (.cons (.inp 2) (.cons (.op (.build #[(.string ⟨#[]⟩), (.int .u64 0)] [(0, 1), (1, 1)] []) .nil) .nil)) (.done [(3, (.inp 4))] none)))) .ret)
@[simp] theorem h50_1_wp {P : Program} {F : PF P} {Q : EX → List Value → World → Prop} {env : List Value} {w : World} : h50_1.wp F Q env w = HC.wp F (.seq (.reg (.chk none (.build #[(.string ⟨#[]⟩), (.int .u64 0)] [(0, 1), (1, 1)] []) .nil (.eff (.st 2) (.cons (.inp 2) (.cons (.op (.build #[(.string ⟨#[]⟩), (.int .u64 0)] [(0, 1), (1, 1)] []) .nil) .nil)) (.done [(3, (.inp 4))] none)))) .ret) Q env w := rfl
def h50_2 : HC := (.seq (.br (.chk none (.bin .neq) (.cons (.inp 4) (.cons (.cst (.int .i64 0)) .nil)) (.done [] (some (.op (.bin .neq) (.cons (.inp 4) (.cons (.cst (.int .i64 0)) .nil)))))) h50_1 .skip) h50_0)
@[simp] theorem h50_2_wp {P : Program} {F : PF P} {Q : EX → List Value → World → Prop} {env : List Value} {w : World} : h50_2.wp F Q env w = HC.wp F (.seq (.br (.chk none (.bin .neq) (.cons (.inp 4) (.cons (.cst (.int .i64 0)) .nil)) (.done [] (some (.op (.bin .neq) (.cons (.inp 4) (.cons (.cst (.int .i64 0)) .nil)))))) h50_1 .skip) h50_0) Q env w := rfl
def h50_3 : HC := (.seq (.reg (.eff (.call 66) (.cons (.inp 0) (.cons (.inp 1) .nil)) (.done [(4, (.bv 0))] none))) h50_2)
@[simp] theorem h50_3_wp {P : Program} {F : PF P} {Q : EX → List Value → World → Prop} {env : List Value} {w : World} : h50_3.wp F Q env w = HC.wp F (.seq (.reg (.eff (.call 66) (.cons (.inp 0) (.cons (.inp 1) .nil)) (.done [(4, (.bv 0))] none))) h50_2) Q env w := rfl
def l50 : Lifted := ⟨[0, 1, 4, 5, 6], 21, [.cell 2 true 2, .slot 3], (.seq (.reg (.eff (.new 76 (.agg #[(.string ⟨#[]⟩), (.int .u64 0)])) .nil (.done [(2, (.bv 0)), (3, (.cst (.int .i64 0)))] none))) h50_3)⟩
theorem l50_ok : liftFn U0 50 400 = some l50 := by kernel_rfl


theorem account_spec (p : Nat) (P : Ps) (n : Int) (w0 w : World) (A : Asn) (s : St w0 (A * pur p P) w) :
    CallW Try.prog 66 [.pointer (some ⟨p, 0, none⟩), .int .i64 n] (fun r w' => r = .int .i64 (accE P.rows n) ∧ St w0 (A * pur p P) w') w := by
  refine callW_of_lift l66_ok (by simp [l66]) ?_
  simp [l66]
  obtain ⟨m, v, s1⟩ := popen s
  obtain ⟨a, cap, rfl, _⟩ := s1.own_val
  by_cases h : n < 0
  · simp [h]
    rw [accE, if_neg (by omega)]
    exact ⟨rfl, s⟩
  · simp [h]
    refine eff_ldc (v := .slice a P.rows.length cap) (by rw [cell_of s1.drop.drop.look]; rfl) ?_
    simp
    refine cndI (fun h2 => ?_) (fun h2 => ?_)
    · simp at h2
      simp
      rw [accE, if_neg (by omega)]
      exact ⟨rfl, s⟩
    · simp at h2
      simp
      rw [accE, if_pos (by omega)]
      exact ⟨rfl, s⟩
theorem known_p (p : Nat) (P : Ps) (m : Nat) (v : Value) (x : List UInt8) (w0 w : World) (A : Asn) (hx : x.length ≤ 1048576) (s : St w0 (A * pt4 p P m v * mpt m P.rows) w) :
    CallW Try.prog 55 [.pointer (some ⟨p, 0, none⟩), .string (mk x)] (fun r w' => r = .tuple #[.int .i64 (askN (keyF x) (keys P.rows)), .bool (askB (keyF x) (keys P.rows))] ∧ St w0 (A * pt4 p P m v * mpt m P.rows) w') w :=
  known_spec p _ _ m (keys P.rows) _ x w0 w A rfl hx s
theorem enter_p (p : Nat) (P : Ps) (m : Nat) (v : Value) (x : List UInt8) (l : List Ac) (w0 w : World) (A : Asn) (hx : x.length ≤ 1048576) (hn : askB (keyF x) (keys l) = false) (s : St w0 (A * pt4 p P m v * mpt m l) w) :
    CallW Try.prog 56 [.pointer (some ⟨p, 0, none⟩), .string (mk x), .int .i64 (l.length : Int)] (fun r w' => St w0 (A * pt4 p P m v * mpt m (l ++ [⟨x, 0⟩])) w') w := by
  have e1 : ((keys l).length : Int) = l.length := by simp [keys]
  have e2 : keys (l ++ [⟨x, 0⟩]) = keys l ++ [keyF x] := by simp [keys]
  rw [← e1]
  show CallW _ _ _ (fun r w' => St w0 (A * pt4 p P m v * pt m (.map (mapE (keys (l ++ [⟨x, 0⟩]))) (keys (l ++ [⟨x, 0⟩])).length)) w') _
  rw [e2]
  exact enter_spec p _ _ m (keys l) x w0 w A rfl hx (by simpa [askB] using hn) s
def openF (P : Ps) (x : List UInt8) : Int × Int × Ps :=
  if (checkF x).2 = 0 then
    if askB (keyF x) (keys P.rows) = true then (0, 140, P)
    else if (P.rows.length : Int) = P.lim then (0, 141, P)
    else ((P.rows.length : Int), 0, { P with rows := P.rows ++ [⟨x, 0⟩] })
  else (0, (checkF x).2, P)
theorem Open_spec (p : Nat) (P : Ps) (x : List UInt8) (w0 w : World) (A : Asn) (hx : x.length ≤ 1048576) (hl : P.rows.length ≤ 1048576) (s : St w0 (A * pur p P) w) :
    CallW Try.prog 32 [.pointer (some ⟨p, 0, none⟩), .string (mk x)] (fun r w' => r = .tuple #[.int .i64 (openF P x).1, .int .i64 (openF P x).2.1] ∧ St w0 (A * pur p (openF P x).2.2) w') w := by
  refine callW_of_lift l32_ok (by simp [l32]) ?_
  simp [l32]
  refine eff_call ((check_spec x w0 w _ hx s).mono ?_)
  rintro r w1 ⟨rfl, s⟩
  simp
  refine cndI (fun h => ?_) (fun h => ?_)
  · simp at h
    simp [openF, h]
    exact s
  simp at h
  simp
  obtain ⟨m, v, s1⟩ := popen s
  refine eff_call ((known_p p P m v x w0 w1 (A * own 76 2 v P.rows.length (flat P.rows)) hx (s1.to (by ac_rfl))).mono ?_)
  rintro r w2 ⟨rfl, s2⟩
  simp
  have s3 := s2.to (B := A * pt4 p P m v * mpt m P.rows * own 76 2 v P.rows.length (flat P.rows)) (by ac_rfl)
  clear s s1 s2
  refine cndI (fun h2 => ?_) (fun h2 => ?_)
  · simp [openF, h, h2]
    exact pclose s3
  simp
  obtain ⟨a, cap, rfl, _⟩ := s3.own_val
  refine eff_ldc (v := .slice a P.rows.length cap) (by rw [cell_of s3.drop.drop.look]; rfl) ?_
  simp
  refine eff_ldc (v := .int .i64 P.lim) (by rw [cell_of s3.drop.drop.look]; rfl) ?_
  simp
  refine cndI (fun h3 => ?_) (fun h3 => ?_)
  · simp at h3
    simp [openF, h, h2, h3]
    exact pclose s3
  simp at h3
  simp
  refine eff_ldc (v := .slice a P.rows.length cap) (by rw [cell_of s3.drop.drop.look]; rfl) ?_
  simp [Instr.fill, Value.cells]
  refine eff_bslV s3 rfl ?_
  intro c w3 s4
  simp
  refine eff_app (m := 1) (news := Ac.cs ⟨x, 0⟩) (s4.to (B := A * pt4 p P m (.slice a P.rows.length cap) * mpt m P.rows * pt c (.cells (Ac.cs ⟨x, 0⟩).toArray 76 (0, 0)) * own 76 2 (.slice a P.rows.length cap) P.rows.length (flat P.rows)) (by ac_rfl)) rfl s4.cells_look (cs_one _) (by decide) rfl (by unfold maxLen; omega) (by omega) ?_
  intro v2 w4 s5
  simp
  have hv2 := s5.own_val
  obtain ⟨a2, cap2, rfl, _⟩ := hv2
  refine eff_st1 (s5.to (B := A * mpt m P.rows * pt c (.cells (Ac.cs ⟨x, 0⟩).toArray 76 (0, 0)) * own 76 2 (.slice a2 (P.rows.length + 1) cap2) (P.rows.length + 1) (flat P.rows ++ Ac.cs ⟨x, 0⟩) * pt4 p P m (.slice a P.rows.length cap)) (by ac_rfl)) rfl (by simp) ?_
  intro w5 s6
  simp at s6
  simp
  have s6 : St w0 (A * mpt m P.rows * pt c (.cells (Ac.cs ⟨x, 0⟩).toArray 76 (0, 0)) * own 76 2 (.slice a2 (P.rows.length + 1) cap2) (P.rows.length + 1) (flat P.rows ++ Ac.cs ⟨x, 0⟩) * pt4 p P m (.slice a2 (P.rows.length + 1) cap2)) w5 := s6
  refine eff_call ((enter_p p P m (.slice a2 (P.rows.length + 1) cap2) x P.rows w0 w5 (A * own 76 2 (.slice a2 (P.rows.length + 1) cap2) (P.rows.length + 1) (flat P.rows ++ Ac.cs ⟨x, 0⟩)) hx h2 (St.cut (pt c (.cells (Ac.cs ⟨x, 0⟩).toArray 76 (0, 0))) s6 (by ac_rfl))).mono ?_)
  intro r w6 s7
  simp [openF, h, h2, h3]
  refine pclose (m := m) (v := .slice a2 (P.rows.length + 1) cap2) ?_
  have e : flat (P.rows ++ [⟨x, 0⟩]) = flat P.rows ++ Ac.cs ⟨x, 0⟩ := by simp [flat]
  show St w0 (A * pt4 p P m (.slice a2 (P.rows.length + 1) cap2) * mpt m (P.rows ++ [(⟨x, 0⟩ : Ac)]) * own 76 2 (.slice a2 (P.rows.length + 1) cap2) (P.rows ++ [(⟨x, 0⟩ : Ac)]).length (flat (P.rows ++ [⟨x, 0⟩]))) w6
  rw [e, List.length_append]
  exact s7.to (by ac_rfl)
/-- what is where -/
theorem acc_in {l : List Ac} {n : Int} (h : accE l n = 0) : ∃ i : Nat, n = i ∧ i < l.length := by
  unfold accE at h
  split at h
  · exact ⟨n.toNat, by omega, by omega⟩
  · cases h
theorem accE_or (l : List Ac) (n : Int) : accE l n = 0 ∨ accE l n = 142 := by unfold accE; split <;> simp
def mintF (P : Ps) (n c : Int) : Int × Ps :=
  if accE P.rows n = 0 then
    if c = 0 then (2, P) else if 4611686018427387904 - P.sup < c then (144, P)
    else (0, { P with sup := P.sup + c, rows := setC P.rows n.toNat (coin P.rows n.toNat + c) })
  else (142, P)
theorem Mint_spec (p : Nat) (P : Ps) (n c : Int) (w0 w : World) (A : Asn) (hP : Bd P) (hc : 0 ≤ c ∧ c < 18446744073709551616) (s : St w0 (A * pur p P) w) :
    CallW Try.prog 48 [.pointer (some ⟨p, 0, none⟩), .int .i64 n, .int .u64 c] (fun r w' => r = .int .i64 (mintF P n c).1 ∧ St w0 (A * pur p (mintF P n c).2) w') w := by
  refine callW_of_lift l48_ok (by simp [l48]) ?_
  simp [l48]
  have hs := hP.sup
  have hlen := hP.len
  refine eff_call ((account_spec p P n w0 w A s).mono ?_)
  rintro r w1 ⟨rfl, s⟩
  simp
  refine cndI (fun h => ?_) (fun h => ?_)
  · simp at h
    have h142 := (accE_or P.rows n).resolve_left h
    simp [mintF, h142]
    exact s
  simp at h
  obtain ⟨i, rfl, hi⟩ := acc_in h
  simp
  refine cndI (fun h1 => ?_) (fun h1 => ?_)
  · simp at h1
    simp [mintF, h, h1]
    exact s
  simp at h1
  simp
  obtain ⟨m, v, s1⟩ := popen s
  refine eff_ldc (v := .int .u64 P.sup) (by rw [cell_of s1.drop.drop.look]; rfl) ?_
  simp
  try simp (disch := omega) only [wrapu64]
  refine cndI (fun h2 => ?_) (fun h2 => ?_)
  · simp at h2
    simp [mintF, h, h1, h2]
    exact s
  simp at h2
  simp
  refine eff_ldc (v := .int .u64 P.sup) (by rw [cell_of s1.drop.drop.look]; rfl) ?_
  simp
  try simp (disch := omega) only [wrapu64]
  refine eff_st1 (s1.to (B := A * mpt m P.rows * own 76 2 v P.rows.length (flat P.rows) * pt4 p P m v) (by ac_rfl)) rfl (by simp) ?_
  intro w2 s2
  simp at s2
  simp
  obtain ⟨g, cap, hv, hcap, _⟩ := s1.own_at (by omega)
  subst hv
  have hco := hP.coins i hi
  have hci : (P.rows.getD i ⟨[], 0⟩).coins = coin P.rows i := rfl
  rw [hci] at hco
  refine eff_ldc (v := .slice (some ⟨g, 0, none⟩) P.rows.length cap) (by rw [cell_of s2.look]; rfl) ?_
  simp [hi]
  have s3 := s2.to (B := A * mpt m P.rows * pt4 p { P with sup := P.sup + c } m (.slice (some ⟨g, 0, none⟩) P.rows.length cap) * own 76 2 (.slice (some ⟨g, 0, none⟩) P.rows.length cap) P.rows.length (flat P.rows)) (by ac_rfl)
  obtain ⟨g', cap', hv, _, hcell⟩ := s3.own_at (by omega)
  cases hv
  refine eff_ldc (v := .int .u64 (coin P.rows i)) (by rw [hcell _ _ (flat_coins hi), coin_at hi]) ?_
  simp [hi]
  try simp (disch := omega) only [wrapu64]
  have hfl := flat_len P.rows
  refine eff_stC (u := .int .u64 (coin P.rows i + c)) s3 (by omega) rfl ?_
  intro w3 s4
  rw [setC_at hi] at s4
  simp [mintF, h, h1]
  rw [if_neg (by omega)]
  refine ⟨rfl, pclose (m := m) (v := .slice (some ⟨g, 0, none⟩) P.rows.length cap) ?_⟩
  rw [mpt, keys_setC, setC_len]
  exact s4.to (by ac_rfl)
end Go.HL.Pu

namespace Go.HL.Pu
open Go.HL Go.HL.Nm Go.Proofs
set_option maxRecDepth 4000
set_option linter.unusedSimpArgs false
set_option linter.unusedVariables false
theorem coin_bd {P : Ps} (hP : Bd P) {i : Nat} (h : i < P.rows.length) : 0 ≤ coin P.rows i ∧ coin P.rows i ≤ 4611686018427387904 := hP.coins i h
theorem coin_set {l : List Ac} {i j : Nat} (h : i < l.length) (c : Int) : coin (setC l i c) j = if j = i then c else coin l j := by
  unfold coin setC
  by_cases e : j = i
  · subst e; simp [h]
  · rw [if_neg e]
    simp [List.getElem?_set_ne (Ne.symm e)]
/-- a change of one account's coins -/
theorem st_coin {w0 w : World} {A : Asn} {p m g cap i : Nat} {P : Ps} {c : Int} {l : List Ac} (hi : i < l.length)
    (s : St w0 (A * own 76 2 (.slice (some ⟨g, 0, none⟩) l.length cap) l.length (flat l)) w) {K : Value → World → Prop}
    (hk : ∀ w', St w0 (A * own 76 2 (.slice (some ⟨g, 0, none⟩) (setC l i c).length cap) (setC l i c).length (flat (setC l i c))) w' → K undef w') :
    EffW Try.prog (.st 1) [.pointer (some ⟨g, i * 2 + 1, none⟩), .int .u64 c] K w := by
  have hfl := flat_len l
  refine eff_stC (u := .int .u64 c) s (by omega) rfl ?_
  intro w3 s4
  rw [setC_at hi] at s4
  refine hk w3 ?_
  rw [setC_len]
  exact s4
def payF (P : Ps) (a b c : Int) : Int × Ps :=
  if accE P.rows a = 0 ∧ accE P.rows b = 0 then
    if a = b then (234, P) else if c = 0 then (2, P) else if coin P.rows a.toNat < c then (143, P)
    else (0, { P with rows := setC (setC P.rows a.toNat (coin P.rows a.toNat - c)) b.toNat (coin P.rows b.toNat + c) })
  else (142, P)
def takeF (P : Ps) (n c : Int) : Int × Ps :=
  if accE P.rows n = 0 then
    if coin P.rows n.toNat < c then (143, P)
    else (0, { P with held := P.held + c, rows := setC P.rows n.toNat (coin P.rows n.toNat - c) })
  else (142, P)
theorem Take_spec (p : Nat) (P : Ps) (n c : Int) (w0 w : World) (A : Asn) (hP : Bd P) (hc : 0 ≤ c ∧ c < 18446744073709551616) (s : St w0 (A * pur p P) w) :
    CallW Try.prog 63 [.pointer (some ⟨p, 0, none⟩), .int .i64 n, .int .u64 c] (fun r w' => r = .int .i64 (takeF P n c).1 ∧ St w0 (A * pur p (takeF P n c).2) w') w := by
  refine callW_of_lift l63_ok (by simp [l63]) ?_
  simp [l63]
  have hlen := hP.len
  have hh := hP.held
  refine eff_call ((account_spec p P n w0 w A s).mono ?_)
  rintro r w1 ⟨rfl, s⟩
  simp
  refine cndI (fun h => ?_) (fun h => ?_)
  · simp at h
    have h142 := (accE_or P.rows n).resolve_left h
    simp [takeF, h142]
    exact s
  simp at h
  obtain ⟨i, rfl, hi⟩ := acc_in h
  simp
  obtain ⟨m, v, s1⟩ := popen s
  clear s
  obtain ⟨g, gcap, hv, hcap, hcell⟩ := s1.own_at (by omega)
  subst hv
  refine eff_ldc (v := .slice (some ⟨g, 0, none⟩) P.rows.length gcap) (by rw [cell_of s1.drop.drop.look]; rfl) ?_
  simp [hi]
  have hci := coin_bd hP hi
  refine eff_ldc (v := .int .u64 (coin P.rows i)) (by rw [hcell _ _ (flat_coins hi), coin_at hi]) ?_
  simp
  refine eff_call ((take_spec (coin P.rows i) c w1 (by omega) hc).mono ?_)
  rintro r w3 ⟨rfl, rfl⟩
  simp
  refine cndI (fun h2 => ?_) (fun h2 => ?_)
  · simp at h2
    simp [takeF, h, h2]
    exact pclose s1
  simp at h2
  simp [h2]
  refine eff_ldc (v := .slice (some ⟨g, 0, none⟩) P.rows.length gcap) (by rw [cell_of s1.drop.drop.look]; rfl) ?_
  simp [hi]
  rw [if_neg (by omega)]
  refine st_coin (p := p) (m := m) (P := P) hi s1 ?_
  intro w4 s2
  simp
  refine eff_ldc (v := .int .u64 P.held) (by rw [cell_of s2.drop.drop.look]; rfl) ?_
  simp
  try simp (disch := omega) only [wrapu64]
  refine eff_st1 (s2.to (B := A * mpt m P.rows * own 76 2 (.slice (some ⟨g, 0, none⟩) (setC P.rows i (coin P.rows i - c)).length gcap) (setC P.rows i (coin P.rows i - c)).length (flat (setC P.rows i (coin P.rows i - c))) * pt4 p P m (.slice (some ⟨g, 0, none⟩) P.rows.length gcap)) (by ac_rfl)) rfl (by simp) ?_
  intro w5 s3
  simp at s3
  simp [takeF, h]
  rw [if_neg (by omega)]
  refine ⟨rfl, pclose (m := m) (v := .slice (some ⟨g, 0, none⟩) P.rows.length gcap) ?_⟩
  rw [mpt, keys_setC]
  rw [setC_len] at s3 ⊢
  exact s3.to (by ac_rfl)
def putF (P : Ps) (n c : Int) : Int × Ps :=
  if accE P.rows n = 0 then
    if P.held < c then (143, P)
    else (0, { P with held := P.held - c, rows := setC P.rows n.toNat (coin P.rows n.toNat + c) })
  else (142, P)
theorem Put_spec (p : Nat) (P : Ps) (n c : Int) (w0 w : World) (A : Asn) (hP : Bd P) (hc : 0 ≤ c ∧ c < 18446744073709551616) (s : St w0 (A * pur p P) w) :
    CallW Try.prog 78 [.pointer (some ⟨p, 0, none⟩), .int .i64 n, .int .u64 c] (fun r w' => r = .int .i64 (putF P n c).1 ∧ St w0 (A * pur p (putF P n c).2) w') w := by
  refine callW_of_lift l78_ok (by simp [l78]) ?_
  simp [l78]
  have hlen := hP.len
  have hh := hP.held
  refine eff_call ((account_spec p P n w0 w A s).mono ?_)
  rintro r w1 ⟨rfl, s⟩
  simp
  refine cndI (fun h => ?_) (fun h => ?_)
  · simp at h
    have h142 := (accE_or P.rows n).resolve_left h
    simp [putF, h142]
    exact s
  simp at h
  obtain ⟨i, rfl, hi⟩ := acc_in h
  simp
  obtain ⟨m, v, s1⟩ := popen s
  clear s
  have hci := coin_bd hP hi
  refine eff_ldc (v := .int .u64 P.held) (by rw [cell_of s1.drop.drop.look]; rfl) ?_
  simp
  refine eff_call ((take_spec P.held c w1 (by omega) hc).mono ?_)
  rintro r w3 ⟨rfl, rfl⟩
  simp
  refine cndI (fun h2 => ?_) (fun h2 => ?_)
  · simp at h2
    simp [putF, h, h2]
    exact pclose s1
  simp at h2
  simp [h2]
  rw [if_neg (by omega)]
  refine eff_st1 (s1.to (B := A * mpt m P.rows * own 76 2 v P.rows.length (flat P.rows) * pt4 p P m v) (by ac_rfl)) rfl (by simp) ?_
  intro w4 s2
  simp at s2
  simp
  obtain ⟨g, gcap, hv, hcap, hcell⟩ := s1.own_at (by omega)
  subst hv
  refine eff_ldc (v := .slice (some ⟨g, 0, none⟩) P.rows.length gcap) (by rw [cell_of s2.look]; rfl) ?_
  simp [hi]
  have s3 := s2.to (B := A * mpt m P.rows * pt4 p { P with held := P.held - c } m (.slice (some ⟨g, 0, none⟩) P.rows.length gcap) * own 76 2 (.slice (some ⟨g, 0, none⟩) P.rows.length gcap) P.rows.length (flat P.rows)) (by ac_rfl)
  obtain ⟨g', cap', hv, _, hcell⟩ := s3.own_at (by omega)
  cases hv
  refine eff_ldc (v := .int .u64 (coin P.rows i)) (by rw [hcell _ _ (flat_coins hi), coin_at hi]) ?_
  simp [hi]
  try simp (disch := omega) only [wrapu64]
  refine st_coin (p := p) (m := m) (P := P) hi s3 ?_
  intro w5 s4
  simp [putF, h, h2]
  rw [if_neg (by omega)]
  refine ⟨rfl, pclose (m := m) (v := .slice (some ⟨g, 0, none⟩) P.rows.length gcap) ?_⟩
  rw [mpt, keys_setC]
  rw [setC_len] at s4 ⊢
  exact s4.to (by ac_rfl)
def getF (P : Ps) (n : Int) : Ac × Int := if accE P.rows n = 0 then (P.rows.getD n.toNat ⟨[], 0⟩, 0) else (⟨[], 0⟩, 142)
theorem Get_spec (p : Nat) (P : Ps) (n : Int) (w0 w : World) (A : Asn) (hP : P.rows.length ≤ 64) (s : St w0 (A * pur p P) w) :
    CallW Try.prog 50 [.pointer (some ⟨p, 0, none⟩), .int .i64 n] (fun r w' => r = .tuple #[.agg (getF P n).1.cs.toArray, .int .i64 (getF P n).2] ∧ St w0 (A * pur p P) w') w := by
  refine callW_of_lift l50_ok (by simp [l50]) ?_
  simp [l50]
  refine eff_new s ?_
  intro b w1 s1
  simp
  refine eff_call ((account_spec p P n w0 w1 (A * pt b (.cells (Ac.cs ⟨[], 0⟩).toArray 76 (0, 0))) (s1.to (by ac_rfl))).mono ?_)
  rintro r w2 ⟨rfl, s2⟩
  simp
  have s2' := s2.swap
  refine cndI (fun h => ?_) (fun h => ?_)
  · simp at h
    simp [getF, h, Instr.fill, Value.cells]
    refine eff_stA (vs := Ac.cs ⟨[], 0⟩) s2' rfl rfl (cs_one _) (by simp [Ac.cs]) ?_
    intro w3 s3
    simp
    have s4 : St w0 (A * pur p P * pt b (.cells (Ac.cs ⟨[], 0⟩).toArray 76 (0, 0))) w3 := by simpa [Ac.cs] using s3
    refine rv_cellA (vs := Ac.cs ⟨[], 0⟩) rfl s4.row_cells rfl ?_
    simp
    refine ⟨?_, s4.drop⟩
    exact (accE_or P.rows n).resolve_left h
  simp at h
  simp
  obtain ⟨i, rfl, hi⟩ := acc_in h
  obtain ⟨m, v, s3⟩ := popen s2
  obtain ⟨g, gcap, hv, hcap, hcell⟩ := s3.own_at (by omega)
  subst hv
  refine eff_ldc (v := .slice (some ⟨g, 0, none⟩) P.rows.length gcap) (by rw [cell_of s3.drop.drop.look]; rfl) ?_
  simp [hi]
  refine eff_ldcs (vs := P.rows[i].cs) (fun j u hu => hcell _ _ (flat_at hi j u hu)) rfl ?_
  simp
  have hg : getF P (i : Int) = (P.rows[i], 0) := by simp [getF, h, hi]
  refine eff_stA (vs := P.rows[i].cs) s2' rfl rfl (cs_one _) (by simp [Ac.cs]) ?_
  intro w3 s3
  simp [hg]
  have s4 : St w0 (A * pur p P * pt b (.cells P.rows[i].cs.toArray 76 (0, 0))) w3 := by simpa [Ac.cs] using s3
  refine rv_cellA (vs := P.rows[i].cs) rfl s4.row_cells rfl ?_
  simp
  exact s4.drop
end Go.HL.Pu

namespace Go.HL.Pu
open Go.HL Go.HL.Nm Go.Proofs
set_option maxRecDepth 4000
set_option linter.unusedSimpArgs false
set_option linter.unusedVariables false
-- (*bazaar/purse.Purse).Held
def h29_0 : HC := (.seq (.reg (.chk none .chkp (.cons (.inp 0) .nil) (.chk none (.fld 4) (.cons (.op .chkp (.cons (.inp 0) .nil)) .nil) (.eff (.ld false 1) (.cons (.op (.fld 4) (.cons (.op .chkp (.cons (.inp 0) .nil)) .nil)) .nil) (.done [(1, (.bv 0))] none))))) .ret)
@[simp] theorem h29_0_wp {P : Program} {F : PF P} {Q : EX → List Value → World → Prop} {env : List Value} {w : World} : h29_0.wp F Q env w = HC.wp F (.seq (.reg (.chk none .chkp (.cons (.inp 0) .nil) (.chk none (.fld 4) (.cons (.op .chkp (.cons (.inp 0) .nil)) .nil) (.eff (.ld false 1) (.cons (.op (.fld 4) (.cons (.op .chkp (.cons (.inp 0) .nil)) .nil)) .nil) (.done [(1, (.bv 0))] none))))) .ret) Q env w := rfl
def h29_1 : HC := (.seq (.reg (.done [(1, (.cst (.int .u64 0)))] none)) .ret)
@[simp] theorem h29_1_wp {P : Program} {F : PF P} {Q : EX → List Value → World → Prop} {env : List Value} {w : World} : h29_1.wp F Q env w = HC.wp F (.seq (.reg (.done [(1, (.cst (.int .u64 0)))] none)) .ret) Q env w := rfl
def h29_2 : HC := (.seq (.br (.chk none (.eqNil false (.pointer 81) (.pointer none)) (.cons (.inp 0) .nil) (.done [] (some (.op (.eqNil false (.pointer 81) (.pointer none)) (.cons (.inp 0) .nil))))) h29_1 .skip) h29_0)
@[simp] theorem h29_2_wp {P : Program} {F : PF P} {Q : EX → List Value → World → Prop} {env : List Value} {w : World} : h29_2.wp F Q env w = HC.wp F (.seq (.br (.chk none (.eqNil false (.pointer 81) (.pointer none)) (.cons (.inp 0) .nil) (.done [] (some (.op (.eqNil false (.pointer 81) (.pointer none)) (.cons (.inp 0) .nil))))) h29_1 .skip) h29_0) Q env w := rfl
def l29 : Lifted := ⟨[0, 2], 9, [.slot 1], (.seq (.reg (.done [(1, (.cst (.int .u64 0)))] none)) h29_2)⟩
theorem l29_ok : liftFn U0 29 400 = some l29 := by kernel_rfl

-- (*bazaar/purse.Purse).Rows
def h21_0 : HC := (.seq (.reg (.chk none .chkp (.cons (.inp 0) .nil) (.chk none (.fld 2) (.cons (.op .chkp (.cons (.inp 0) .nil)) .nil) (.eff (.ld false 1) (.cons (.op (.fld 2) (.cons (.op .chkp (.cons (.inp 0) .nil)) .nil)) .nil) (.eff (.call 45) (.cons (.bv 0) .nil) (.eff (.call 44) (.cons (.bv 1) .nil) (.done [(1, (.bv 2))] none))))))) .ret)
@[simp] theorem h21_0_wp {P : Program} {F : PF P} {Q : EX → List Value → World → Prop} {env : List Value} {w : World} : h21_0.wp F Q env w = HC.wp F (.seq (.reg (.chk none .chkp (.cons (.inp 0) .nil) (.chk none (.fld 2) (.cons (.op .chkp (.cons (.inp 0) .nil)) .nil) (.eff (.ld false 1) (.cons (.op (.fld 2) (.cons (.op .chkp (.cons (.inp 0) .nil)) .nil)) .nil) (.eff (.call 45) (.cons (.bv 0) .nil) (.eff (.call 44) (.cons (.bv 1) .nil) (.done [(1, (.bv 2))] none))))))) .ret) Q env w := rfl
def h21_1 : HC := (.seq (.reg (.done [(1, (.cst (.slice none 0 0)))] none)) .ret)
@[simp] theorem h21_1_wp {P : Program} {F : PF P} {Q : EX → List Value → World → Prop} {env : List Value} {w : World} : h21_1.wp F Q env w = HC.wp F (.seq (.reg (.done [(1, (.cst (.slice none 0 0)))] none)) .ret) Q env w := rfl
def h21_2 : HC := (.seq (.br (.chk none (.eqNil false (.pointer 81) (.pointer none)) (.cons (.inp 0) .nil) (.done [] (some (.op (.eqNil false (.pointer 81) (.pointer none)) (.cons (.inp 0) .nil))))) h21_1 .skip) h21_0)
@[simp] theorem h21_2_wp {P : Program} {F : PF P} {Q : EX → List Value → World → Prop} {env : List Value} {w : World} : h21_2.wp F Q env w = HC.wp F (.seq (.br (.chk none (.eqNil false (.pointer 81) (.pointer none)) (.cons (.inp 0) .nil) (.done [] (some (.op (.eqNil false (.pointer 81) (.pointer none)) (.cons (.inp 0) .nil))))) h21_1 .skip) h21_0) Q env w := rfl
def l21 : Lifted := ⟨[0, 2], 11, [.slot 1], (.seq (.reg (.done [(1, (.cst (.slice none 0 0)))] none)) h21_2)⟩
theorem l21_ok : liftFn U0 21 400 = some l21 := by kernel_rfl


theorem Held_spec (p : Nat) (P : Ps) (w0 w : World) (A : Asn) (s : St w0 (A * pur p P) w) :
    CallW Try.prog 29 [.pointer (some ⟨p, 0, none⟩)] (fun r w' => r = .int .u64 P.held ∧ St w0 (A * pur p P) w') w := by
  refine callW_of_lift l29_ok (by simp [l29]) ?_
  simp [l29]
  obtain ⟨m, v, s1⟩ := popen s
  refine eff_ldc (v := .int .u64 P.held) (by rw [cell_of s1.drop.drop.look]; rfl) ?_
  simp
  exact s
theorem Rows_spec (p : Nat) (P : Ps) (w0 w : World) (A : Asn) (hl : P.rows.length ≤ 1048576) (s : St w0 (A * pur p P) w) :
    CallW Try.prog 21 [.pointer (some ⟨p, 0, none⟩)] (fun r w' => St w0 (A * pur p P * own 76 2 r P.rows.length (flat P.rows)) w') w := by
  refine callW_of_lift l21_ok (by simp [l21]) ?_
  simp [l21]
  obtain ⟨m, v, s1⟩ := popen s
  refine eff_ldc (v := v) (by rw [cell_of s1.drop.drop.look]; rfl) ?_
  simp
  refine eff_call ((clone_spec v P.rows w0 w _ hl s1).mono ?_)
  intro r w2 s2
  simp
  refine eff_call ((clipA_spec r P.rows.length _ _ w0 w2 _ hl s2).mono ?_)
  intro r2 w3 s3
  simp
  have s4 := s3.to (B := A * own 76 2 r2 P.rows.length (flat P.rows) * pt4 p P m v * mpt m P.rows * own 76 2 v P.rows.length (flat P.rows)) (by ac_rfl)
  exact (pclose s4).to (by ac_rfl)
/-- who looks alike -/
def nearF : List Ac → List UInt8 → Nat → List Int
  | [], _, _ => []
  | a :: l, x, i => if seemF a.name = seemF x then (i : Int) :: nearF l x (i + 1) else nearF l x (i + 1)
end Go.HL.Pu
