/-
  What the claim leans on, part 12 of 18. Conditions: as each theorem says.
-/
import Derived.Test.YtiokklaedanjbaaGreatEPMk
import Derived.MapKept
namespace Go.HL
set_option maxRecDepth 4000
set_option linter.unusedSimpArgs false
set_option linter.unusedVariables false
def exA {α : Type} (F : α → Asn) : Asn := fun h => ∃ a, F a h
theorem exA_open {α : Type} {w0 w : World} {A : Asn} {F : α → Asn} (s : St w0 (A * exA F) w) : ∃ a, St w0 (A * F a) w := by
  obtain ⟨g, h1, h2, h3, d, e, a, m, b⟩ := s.holds
  exact ⟨m, s.of ⟨g, h1, h2, h3, d, e, a, b⟩⟩
theorem exA_mk {α : Type} {w0 w : World} {A : Asn} {F : α → Asn} (x : α) (s : St w0 (A * F x) w) : St w0 (A * exA F) w := by
  obtain ⟨g, h1, h2, h3, d, e, a, b⟩ := s.holds
  exact s.of ⟨g, h1, h2, h3, d, e, a, x, b⟩
section
variable {P : Program} {F0 : PF P} {F : Asn} {K : Value → World → Prop} {w w0 : World}
structure En where
  k : Int
  v : Value
  b : Nat
def entA (es : List En) : Array MapEntry := (es.map fun e => (⟨.int .i64 e.k, e.v, e.b⟩ : MapEntry)).toArray
def getI : List En → Int → Option Value
  | [], _ => none
  | e :: r, k => if k = e.k then some e.v else getI r k
def setI : List En → Int → Value → List En
  | [], _, _ => []
  | e :: r, k, v => if k = e.k then ⟨e.k, v, e.b⟩ :: r else e :: setI r k v
def delI : List En → Int → List En
  | [], _ => []
  | e :: r, k => if k = e.k then r else e :: delI r k
def posI : List En → Int → Nat → Option Nat
  | [], _, _ => none
  | e :: r, k, i => if k = e.k then some i else posI r k (i + 1)
theorem find_int (k : Int) : ∀ (es : List En) (i : Nat), Instr.findNow (.int .i64) (.int .i64 k) (entA es).toList i = some ((posI es k i).bind fun j => (getI es k).map fun v => (j, v))
  | [], _ => rfl
  | e :: r, i => by
    have h := find_int k r (i + 1)
    simp only [entA, List.toList_toArray] at h
    simp only [entA, List.toList_toArray, List.map_cons, Instr.findNow, Instr.sameNow, if_true, posI, getI]
    by_cases hk : k = e.k
    · subst hk; simp
    · simp only [beq_eq_false_iff_ne.2 hk, hk, if_false]
      exact h
theorem pos_get (k : Int) : ∀ (es : List En) (i : Nat), (posI es k i).isSome = (getI es k).isSome
  | [], _ => rfl
  | e :: r, i => by
    simp only [posI, getI]
    split
    · rfl
    · exact pos_get k r (i + 1)
theorem pos_ge (k : Int) : ∀ (es : List En) (i j : Nat), posI es k i = some j → i ≤ j
  | [], _, _, h => by cases h
  | e :: r, i, j, h => by
    simp only [posI] at h
    split at h
    · cases h; exact Nat.le_refl _
    · have := pos_ge k r _ _ h; omega
theorem set_at (k : Int) (v : Value) : ∀ (es : List En) (i j : Nat), posI es k i = some j → (entA es).modify (j - i) (fun e => { e with key := .int .i64 k, val := v }) = entA (setI es k v)
  | [], _, _, h => by cases h
  | e :: r, i, j, h => by
    simp only [posI] at h
    apply Array.ext'
    by_cases hk : k = e.k
    · rw [if_pos hk] at h
      cases h
      subst hk
      simp [entA, setI, Array.toList_modify, List.modify]
    · rw [if_neg hk] at h
      have hge := pos_ge k r _ _ h
      have ih := congrArg Array.toList (set_at k v r _ _ h)
      obtain ⟨d, rfl⟩ : ∃ d, j = i + 1 + d := ⟨j - (i + 1), by omega⟩
      have e1 : i + 1 + d - i = d + 1 := by omega
      have e2 : i + 1 + d - (i + 1) = d := by omega
      rw [e2] at ih
      rw [e1]
      simp only [entA, Array.toList_modify, List.toList_toArray, List.map_cons, setI, hk, if_false, List.modify_succ_cons, List.cons.injEq, true_and] at ih ⊢
      exact ih
theorem del_at (k : Int) : ∀ (es : List En) (i j : Nat), posI es k i = some j → (entA es).eraseIdxIfInBounds (j - i) = entA (delI es k)
  | [], _, _, h => by cases h
  | e :: r, i, j, h => by
    simp only [posI] at h
    apply Array.ext'
    by_cases hk : k = e.k
    · rw [if_pos hk] at h
      cases h
      subst hk
      simp [entA, delI, Array.eraseIdxIfInBounds]
    · rw [if_neg hk] at h
      have hge := pos_ge k r _ _ h
      have ih := congrArg Array.toList (del_at k r _ _ h)
      obtain ⟨d, rfl⟩ : ∃ d, j = i + 1 + d := ⟨j - (i + 1), by omega⟩
      have e1 : i + 1 + d - i = d + 1 := by omega
      have e2 : i + 1 + d - (i + 1) = d := by omega
      have key : ∀ (l : List MapEntry) (n : Nat), (l.toArray.eraseIdxIfInBounds n).toList = l.eraseIdx n := by
        intro l n
        unfold Array.eraseIdxIfInBounds
        split
        · simp
        · rename_i hh
          rw [List.eraseIdx_of_length_le (by simpa using hh)]
      simp only [e2, entA, key] at ih
      simp only [e1, entA, key, List.map_cons, delI, hk, if_false, List.eraseIdx_cons_succ, List.toList_toArray, List.cons.injEq, true_and]
      simpa using ih
structure MapI (P : Program) (t kt ke : TypeId) (z : Value) : Prop where
  ty : P.underlying t = some (.map kt ke)
  key : P.underlying kt = some (.int .i64)
  zero : (P.info? ke).bind (·.zero) = some z
abbrev imap (m : Nat) (es : List En) (c : Nat) : Asn := pt m (.map (entA es) c)
variable {t kt ke : TypeId} {z : Value}
theorem chkI (T : MapI P t kt ke z) (e : Bool) (k : Int) : (Instr.checkKey e 10000 kt (.int .i64 k)).run P w = .ok () w := MapKept.run_checkKey (P := P) (w := w) T.key (show MapKept.IsKey (.int .i64) (.int .i64 k) from rfl) e 9999
theorem fndI (T : MapI P t kt ke z) (k : Int) (es : List En) : (Instr.findKey kt (.int .i64 k) (entA es).toList).run P w = .ok ((posI es k 0).bind fun j => (getI es k).map fun v => (j, v)) w := MapKept.run_findKey (P := P) (w := w) T.key (find_int k es 0)
theorem zrI (T : MapI P t kt ke z) : (zeroValue ke).run P w = .ok z w := by
  obtain ⟨i, hi, hz⟩ := Option.bind_eq_some_iff.1 T.zero
  simp [zeroValue, typeInfo, hi, hz]
theorem get_pos {es : List En} {k : Int} : ((posI es k 0).bind fun j => (getI es k).map fun v => (j, v)).map (·.2) = getI es k := by
  have := pos_get k es 0
  cases hp : posI es k 0 with
  | none => rw [hp] at this; cases hg : getI es k with
    | none => rfl
    | some v => rw [hg] at this; cases this
  | some j => cases hg : getI es k <;> rfl
theorem lookI_run (T : MapI P t kt ke z) {m : Nat} {es : List En} {c : Nat} (hb : w.heap[m]? = some (.map (entA es) c)) (k : Int) (ok : Bool) :
    (Instr.lookup t (.map (some m)) (.int .i64 k) ok).run P w = .ok (if ok then .tuple #[(getI es k).getD z, .bool (getI es k).isSome] else (getI es k).getD z) w := by
  have hg := get_pos (es := es) (k := k)
  simp only [Instr.lookup, Sem.run_bind, run_underlying T.ty, MapKept.run_getObj_map hb, Result.andThen_ok, Sem.run_pure, chkI T, fndI T]
  cases hf : ((posI es k 0).bind fun j => (getI es k).map fun v => (j, v)) with
  | none => rw [hf] at hg; rw [← hg]; simp [zrI T]
  | some q => rw [hf] at hg; rw [← hg]; simp
theorem eff_lookI (T : MapI P t kt ke z) {m : Nat} {es : List En} {c : Nat} (hb : w.heap[m]? = some (.map (entA es) c)) {k : Int} (hk : K ((getI es k).getD z) w) : EffW P (.look t false) [.map (some m), .int .i64 k] K w := by
  intro _
  exact upon_val (lookI_run T hb k false) hk
theorem effm_lookI {C : List Value → World → Prop} {q : Nat → List Value → Value} {n : Nat} {vs : List Value} (T : MapI P t kt ke z) {m : Nat} {es : List En} {c : Nat} {k : Int} {K : Value → List Value → Prop}
    (hb : ∀ vs' w, era n vs' = era n vs → C vs' w → w.heap[m]? = some (.map (entA es) c)) (hk : K ((getI es k).getD z) vs) : EffM F0 C q n (.look t false) [.map (some m), .int .i64 k] vs K :=
  effm_val (s := Instr.lookup t (.map (some m)) (.int .i64 k) false) rfl (fun vs' w he hw => lookI_run T (hb vs' w he hw) k false) hk
theorem eff_mkmI (s : St w0 F w) (hk : ∀ b w', St w0 (F * imap b [] 0) w' → K (.map (some b)) w') : EffW P (.mkm t false) [] K w := by
  intro _
  refine upon_val (s := Instr.makeMap t none) (v := .map (some w.heap.size)) (w' := w.alloc (.map (entA []) 0)) ?_ (hk _ _ (s.alloc trivial))
  simp [Instr.makeMap, newObj, Sem.run, entA, Sem.bind]
theorem turnM {m : Nat} {o : Obj} {es' : List En} {c' : Nat} (s : St w0 (F * pt m o) w) : St w0 (F * imap m es' c') { w with heap := w.heap.setIfInBounds m (.map (entA es') c') } := by
  have hs := MapKept.heap_set (o' := .map (entA es') c') s.look
  exact s.turn (o' := .map (entA es') c') hs.1 hs.2 (by simp) rfl rfl (fun _ _ _ h => by cases h)
theorem eff_updI (T : MapI P t kt ke z) {m : Nat} {es : List En} {c : Nat} {k : Int} {v : Value} (s : St w0 (F * imap m es c) w) (hn : getI es k = none)
    (hk : ∀ w', St w0 (F * imap m (es ++ [⟨k, v, c⟩]) (c + 1)) w' → K undef w') : EffW P (.upd t) [.map (some m), .int .i64 k, v] K w := by
  intro _
  refine upon_unit (s := Instr.mapUpdate t (.map (some m)) (.int .i64 k) v) ?_ (hk _ (turnM s))
  have hb := s.look
  have hp : posI es k 0 = none := by
    have := pos_get k es 0
    rw [hn] at this
    simpa using this
  have he : (entA es).push ⟨.int .i64 k, v, c⟩ = entA (es ++ [⟨k, v, c⟩]) := by apply Array.ext'; simp [entA]
  simp only [Instr.mapUpdate, Sem.run_bind, run_underlying T.ty, MapKept.run_getObj_map hb, Result.andThen_ok, chkI T, fndI T, hp, Option.bind_none, he]
  rw [MapKept.run_setObj_map _ hb]
theorem eff_updI2 (T : MapI P t kt ke z) {m : Nat} {es : List En} {c : Nat} {k : Int} {v u : Value} (s : St w0 (F * imap m es c) w) (hn : getI es k = some u)
    (hk : ∀ w', St w0 (F * imap m (setI es k v) c) w' → K undef w') : EffW P (.upd t) [.map (some m), .int .i64 k, v] K w := by
  intro _
  refine upon_unit (s := Instr.mapUpdate t (.map (some m)) (.int .i64 k) v) ?_ (hk _ (turnM s))
  have hb := s.look
  obtain ⟨j, hp⟩ : ∃ j, posI es k 0 = some j := by
    have := pos_get k es 0
    rw [hn] at this
    exact Option.isSome_iff_exists.1 this
  have hs := set_at k v es 0 j hp
  rw [Nat.sub_zero] at hs
  have hkey : ((entA es)[j]?.map (·.key)).getD (.int .i64 k) = .int .i64 k := by
    have key : ∀ (es : List En) (i j : Nat), posI es k i = some j → ∀ e, es[j - i]? = some e → e.k = k := by
      intro es
      induction es with
      | nil => intro i j h; cases h
      | cons x r ih =>
        intro i j h e he
        simp only [posI] at h
        split at h
        · rename_i hx
          cases h
          simp only [Nat.sub_self, List.getElem?_cons_zero, Option.some.injEq] at he
          rw [← he, hx]
        · have hge := pos_ge k r _ _ h
          refine ih (i + 1) j h e ?_
          have : j - i = (j - (i + 1)) + 1 := by omega
          rw [this, List.getElem?_cons_succ] at he
          exact he
    cases hj : es[j]? with
    | none => simp [entA, hj]
    | some e =>
      have := key es 0 j hp e (by simpa using hj)
      simp [entA, hj, this]
  simp only [Instr.mapUpdate, Sem.run_bind, run_underlying T.ty, MapKept.run_getObj_map hb, Result.andThen_ok, chkI T, fndI T, hp, hn, Option.bind_some, Option.map_some, hkey]
  rw [MapKept.run_keyThatStays (show MapKept.IsKey (.int .i64) (.int .i64 k) from rfl)]
  simp only [Result.andThen_ok, hs]
  rw [MapKept.run_setObj_map _ hb]
theorem del_none : ∀ (es : List En) (k : Int), getI es k = none → delI es k = es
  | [], _, _ => rfl
  | e :: r, k, h => by
    simp only [getI] at h
    split at h
    · cases h
    · rename_i hk; simp only [delI, hk, if_false, del_none r k h]
theorem eff_delI {kt' ty : TypeId} {cs : Array Bool} (T : MapI P t kt ke z) {m : Nat} {es : List En} {c : Nat} {k : Int} (s : St w0 (F * imap m es c) w)
    (hk : ∀ w', St w0 (F * imap m (delI es k) c) w' → K (.tuple #[]) w') : EffW P (.bi .delete #[t, kt'] ty cs) [.map (some m), .int .i64 k] K w := by
  intro _
  refine upon_val (s := Builtin.delete_ #[t, kt'] ty #[.map (some m), .int .i64 k]) ?_ (hk _ (turnM s))
  have hb := s.look
  simp only [Builtin.delete_, List.getElem?_toArray, List.getElem?_cons_zero, List.getElem?_cons_succ, Sem.run_bind, run_underlying T.ty, MapKept.run_getObj_map hb, Result.andThen_ok, chkI T, fndI T]
  cases hp : posI es k 0 with
  | none =>
    have hn : getI es k = none := by
      have := pos_get k es 0
      rw [hp] at this
      simpa using this.symm
    simp only [Option.bind_none, del_none es k hn, Sem.run_bind]
    rw [MapKept.run_setObj_map _ hb]
    simp
  | some j =>
    obtain ⟨v, hv⟩ : ∃ v, getI es k = some v := by
      have := pos_get k es 0
      rw [hp] at this
      exact Option.isSome_iff_exists.1 this.symm
    have hs := del_at k es 0 j hp
    rw [Nat.sub_zero] at hs
    simp only [hv, Option.bind_some, Option.map_some, hs, Sem.run_bind]
    rw [MapKept.run_setObj_map _ hb]
    simp
theorem choose_lt (n : Nat) (hn : 0 < n) : ∃ i w', i < n ∧ (choose (.mapNext n)).run P w = .ok i w' ∧ (w' = w ∨ w' = w.drew) := by
  rw [run_choose_drew]
  by_cases h : n ≤ 1
  · exact ⟨0, w, hn, by simp [Question.forced, h], .inl rfl⟩
  · exact ⟨_, w.drew, Nat.mod_lt (w.tape w.drawn (.mapNext n)) hn, by simp [Question.forced, h, Question.cut], .inr rfl⟩
def leftE (es : List En) (seen : Array Nat) : List En := es.filter fun e => !seen.contains e.b
end
structure okE (es : List En) (c : Nat) : Prop where
  lt : ∀ e ∈ es, e.b < c
  bn : (es.map (·.b)).Nodup
  kn : (es.map (·.k)).Nodup
theorem delI_sub (k : Int) : ∀ es : List En, (delI es k).Sublist es
  | [] => .slnil
  | e :: r => by
    simp only [delI]
    split
    · exact List.sublist_cons_self _ _
    · exact (delI_sub k r).cons_cons _
end Go.HL

namespace Go.HL.Es
open Go.HL
set_option maxRecDepth 4000
set_option linter.unusedSimpArgs false
set_option linter.unusedVariables false
abbrev Rw := Int × Int
def cns : List Rw → Int → Int
  | [], _ => 0
  | r :: t, k => if k = r.1 then r.2 else cns t k
def del (k : Int) (l : List Rw) : List Rw := l.filter fun r => decide (r.1 ≠ k)
def ins (k v : Int) : List Rw → List Rw
  | [] => [(k, v)]
  | r :: t => if k < r.1 then (k, v) :: r :: t else r :: ins k v t
def setR (k v : Int) (l : List Rw) : List Rw := if v = 0 then del k l else ins k v (del k l)
def RwOK (l : List Rw) : Prop := l.Pairwise (fun a b => a.1 < b.1) ∧ ∀ r ∈ l, 1 ≤ r.1 ∧ r.1 < 9223372036854775808 ∧ 0 < r.2
theorem ins_perm (k v : Int) : ∀ l : List Rw, (ins k v l).Perm ((k, v) :: l)
  | [] => .refl _
  | r :: t => by
    simp only [ins]
    split
    · exact .refl _
    · exact ((ins_perm k v t).cons r).trans (.swap _ _ _)
theorem ins_mem {k v : Int} {l : List Rw} {x : Rw} : x ∈ ins k v l ↔ x = (k, v) ∨ x ∈ l := by rw [(ins_perm k v l).mem_iff]; simp
theorem del_mem {k : Int} {l : List Rw} {x : Rw} : x ∈ del k l ↔ x ∈ l ∧ x.1 ≠ k := by simp [del]
theorem ins_sorted {k v : Int} : ∀ {l : List Rw}, l.Pairwise (fun a b => a.1 < b.1) → (∀ r ∈ l, r.1 ≠ k) → (ins k v l).Pairwise (fun a b => a.1 < b.1)
  | [], _, _ => by simp [ins]
  | r :: t, h, hk => by
    simp only [List.pairwise_cons] at h
    simp only [ins]
    split
    · rename_i hlt
      simp only [List.pairwise_cons, List.mem_cons]
      refine ⟨?_, h.1, h.2⟩
      rintro x (rfl | hx)
      · exact hlt
      · have := h.1 x hx; omega
    · rename_i hlt
      have hr := hk r (.head _)
      simp only [List.pairwise_cons]
      refine ⟨fun x hx => ?_, ins_sorted h.2 fun y hy => hk y (.tail _ hy)⟩
      rcases ins_mem.1 hx with rfl | hx
      · simp only; omega
      · exact h.1 x hx
theorem setR_ok {k v : Int} {l : List Rw} (h : RwOK l) (hk : 1 ≤ k ∧ k < 9223372036854775808) (hv : 0 ≤ v) : RwOK (setR k v l) := by
  have hd : (del k l).Pairwise (fun a b => a.1 < b.1) := h.1.filter _
  unfold setR
  split
  · exact ⟨hd, fun r hr => h.2 r (del_mem.1 hr).1⟩
  · refine ⟨ins_sorted hd fun r hr => (del_mem.1 hr).2, fun r hr => ?_⟩
    rcases ins_mem.1 hr with rfl | hr
    · exact ⟨hk.1, hk.2, by simp only; omega⟩
    · exact h.2 r (del_mem.1 hr).1
theorem cns_mem {l : List Rw} (h : l.Pairwise (fun a b => a.1 ≠ b.1)) {k v : Int} (hm : (k, v) ∈ l) : cns l k = v := by
  induction l with
  | nil => cases hm
  | cons r t ih =>
    simp only [List.pairwise_cons] at h
    simp only [cns]
    rcases List.mem_cons.1 hm with rfl | hm
    · simp
    · have := h.1 _ hm
      rw [if_neg (fun e => this e.symm)]
      exact ih h.2 hm
theorem cns_none {l : List Rw} {k : Int} (h : ∀ r ∈ l, r.1 ≠ k) : cns l k = 0 := by
  induction l with
  | nil => rfl
  | cons r t ih =>
    simp only [cns]
    rw [if_neg (fun e => h r (.head _) e.symm)]
    exact ih fun x hx => h x (.tail _ hx)
theorem RwOK.ne {l : List Rw} (h : RwOK l) : l.Pairwise (fun a b => a.1 ≠ b.1) := h.1.imp fun h => by omega
theorem cns_cases {l : List Rw} (k : Int) : (∃ v, (k, v) ∈ l) ∨ ∀ r ∈ l, r.1 ≠ k := by
  by_cases h : ∃ v, (k, v) ∈ l
  · exact .inl h
  · refine .inr fun r hr e => h ⟨r.2, ?_⟩
    subst e; exact hr
theorem cns_setR {k v : Int} {l : List Rw} (h : RwOK l) (hk : 1 ≤ k ∧ k < 9223372036854775808) (hv : 0 ≤ v) (j : Int) : cns (setR k v l) j = if j = k then v else cns l j := by
  have ok := setR_ok h hk hv
  by_cases e : j = k
  · subst e
    rw [if_pos rfl]
    by_cases hz : v = 0
    · rw [hz]
      refine cns_none fun r hr => ?_
      simp only [setR, if_true] at hr
      exact (del_mem.1 hr).2
    · refine cns_mem ok.ne ?_
      simp only [setR, hz, if_false]
      exact ins_mem.2 (.inl rfl)
  · rw [if_neg e]
    rcases cns_cases (l := l) j with ⟨u, hu⟩ | hn
    · rw [cns_mem h.ne hu]
      refine cns_mem ok.ne ?_
      have hd : (j, u) ∈ del k l := del_mem.2 ⟨hu, e⟩
      unfold setR
      split
      · exact hd
      · exact ins_mem.2 (.inr hd)
    · rw [cns_none hn]
      refine cns_none fun r hr => ?_
      unfold setR at hr
      split at hr
      · exact hn r (del_mem.1 hr).1
      · rcases ins_mem.1 hr with rfl | hr
        · exact fun h => e h.symm
        · exact hn r (del_mem.1 hr).1
theorem cns_nonneg {l : List Rw} (h : RwOK l) (k : Int) : 0 ≤ cns l k := by
  rcases cns_cases (l := l) k with ⟨u, hu⟩ | hn
  · rw [cns_mem h.ne hu]; have := (h.2 _ hu).2.2; simp only at this; omega
  · rw [cns_none hn]; exact Int.le_refl _
theorem RwOK.tail {r : Rw} {t : List Rw} (h : RwOK (r :: t)) : RwOK t := ⟨(List.pairwise_cons.1 h.1).2, fun x hx => h.2 x (.tail _ hx)⟩
theorem cns_head {r : Rw} {t : List Rw} : cns (r :: t) r.1 = r.2 := by simp [cns]
theorem cns_below {l : List Rw} {k : Int} (h : ∀ r ∈ l, k < r.1) : cns l k = 0 := cns_none fun r hr e => by have := h r hr; omega
theorem rw_ext : ∀ {l l' : List Rw}, RwOK l → RwOK l' → (∀ k, cns l k = cns l' k) → l = l'
  | [], [], _, _, _ => rfl
  | [], r :: t, _, h', he => by
    have h1 := he r.1
    rw [cns_head] at h1
    have h2 := (h'.2 r (.head _)).2.2
    simp only [cns] at h1
    omega
  | r :: t, [], h, _, he => by
    have h1 := he r.1
    rw [cns_head] at h1
    have h2 := (h.2 r (.head _)).2.2
    simp only [cns] at h1
    omega
  | r :: t, r' :: t', h, h', he => by
    have s1 := (List.pairwise_cons.1 h.1).1
    have s2 := (List.pairwise_cons.1 h'.1).1
    have p1 := (h.2 r (.head _)).2.2
    have p2 := (h'.2 r' (.head _)).2.2
    have e1 : r.1 = r'.1 := by
      rcases Int.lt_trichotomy r.1 r'.1 with hlt | he' | hlt
      · have h1 := he r.1
        rw [cns_head, cns_below (fun x hx => by
          rcases List.mem_cons.1 hx with rfl | hx
          · exact hlt
          · have := s2 x hx; omega)] at h1
        omega
      · exact he'
      · have h1 := he r'.1
        rw [cns_head, cns_below (fun x hx => by
          rcases List.mem_cons.1 hx with rfl | hx
          · exact hlt
          · have := s1 x hx; omega)] at h1
        omega
    have e2 : r.2 = r'.2 := by
      have h1 := he r.1
      rw [cns_head, e1, cns_head] at h1
      exact h1
    have er : r = r' := Prod.ext e1 e2
    subst er
    congr 1
    refine rw_ext h.tail h'.tail fun k => ?_
    have h1 := he k
    simp only [cns] at h1
    by_cases hk : k = r.1
    · subst hk
      rw [cns_below s1, cns_below s2]
    · rw [if_neg hk, if_neg hk] at h1
      exact h1
theorem setR_back {k v : Int} {l : List Rw} (h : RwOK l) (hk : 1 ≤ k ∧ k < 9223372036854775808) (hv : 0 ≤ v) : setR k (cns l k) (setR k v l) = l := by
  have h1 := setR_ok h hk hv
  have h0 := cns_nonneg h k
  refine rw_ext (setR_ok h1 hk h0) h fun j => ?_
  rw [cns_setR h1 hk h0, cns_setR h hk hv]
  by_cases e : j = k
  · rw [if_pos e, e]
  · rw [if_neg e, if_neg e]
def prE (e : En) : Int × Value := (e.k, e.v)
def prR (r : Rw) : Int × Value := (r.1, .int .u64 r.2)
structure EH (es : List En) (c : Nat) (l : List Rw) : Prop where
  perm : (es.map prE).Perm (l.map prR)
  keys : (es.map (·.k)).Nodup
  borns : (es.map (·.b)).Nodup
  clock : ∀ e ∈ es, e.b < c
theorem get_mem {es : List En} (h : (es.map (·.k)).Nodup) {k : Int} {v : Value} (hm : (k, v) ∈ es.map prE) : getI es k = some v := by
  induction es with
  | nil => simp at hm
  | cons e t ih =>
    simp only [List.map_cons, List.nodup_cons] at h
    simp only [getI]
    simp only [List.map_cons, List.mem_cons] at hm
    rcases hm with hm | hm
    · simp only [prE, Prod.mk.injEq] at hm
      rw [if_pos hm.1, hm.2]
    · have : k ≠ e.k := by
        rintro rfl
        apply h.1
        obtain ⟨x, hx, hx2⟩ := List.mem_map.1 hm
        simp only [prE, Prod.mk.injEq] at hx2
        exact List.mem_map.2 ⟨x, hx, hx2.1⟩
      rw [if_neg this]
      exact ih h.2 hm
theorem get_none {es : List En} {k : Int} (h : ∀ e ∈ es, e.k ≠ k) : getI es k = none := by
  induction es with
  | nil => rfl
  | cons e t ih =>
    simp only [getI]
    rw [if_neg (fun x => h e (.head _) x.symm)]
    exact ih fun x hx => h x (.tail _ hx)
theorem EH.get {es : List En} {c : Nat} {l : List Rw} (h : EH es c l) (ok : RwOK l) (k : Int) : (getI es k).getD (.int .u64 0) = .int .u64 (cns l k) ∧ (getI es k = none ↔ ∀ r ∈ l, r.1 ≠ k) := by
  rcases cns_cases (l := l) k with ⟨u, hu⟩ | hn
  · have hm : (k, Value.int .u64 u) ∈ es.map prE := h.perm.mem_iff.2 (List.mem_map.2 ⟨_, hu, rfl⟩)
    rw [get_mem h.keys hm, cns_mem ok.ne hu]
    exact ⟨rfl, ⟨fun h => (by cases h), fun h => absurd rfl (h _ hu)⟩⟩
  · have : getI es k = none := get_none fun e he hk => by
      have : prE e ∈ l.map prR := h.perm.mem_iff.1 (List.mem_map.2 ⟨e, he, rfl⟩)
      obtain ⟨r, hr, hr2⟩ := List.mem_map.1 this
      simp only [prE, prR, Prod.mk.injEq] at hr2
      exact hn r hr (hr2.1.trans hk)
    rw [this, cns_none hn]
    exact ⟨rfl, by simpa using hn⟩
theorem delI_sub : ∀ (es : List En) (k : Int), (delI es k).Sublist es
  | [], _ => .slnil
  | e :: r, k => by
    simp only [delI]
    split
    · exact .cons _ (.refl _)
    · exact (delI_sub r k).cons_cons _
theorem delI_pr : ∀ {es : List En} {k : Int}, (es.map (·.k)).Nodup → (delI es k).map prE = (es.map prE).filter fun x => decide (x.1 ≠ k)
  | [], _, _ => rfl
  | e :: r, k, h => by
    simp only [List.map_cons, List.nodup_cons] at h
    simp only [delI, List.map_cons]
    by_cases hk : k = e.k
    · subst hk
      rw [if_pos rfl]
      rw [List.filter_cons_of_neg (by simp [prE])]
      refine (List.filter_eq_self.2 fun x hx => ?_).symm
      obtain ⟨y, hy, rfl⟩ := List.mem_map.1 hx
      exact decide_eq_true fun e => h.1 (List.mem_map.2 ⟨y, hy, e⟩)
    · rw [if_neg hk, List.filter_cons_of_pos (by simp [prE, Ne.symm hk]), List.map_cons, delI_pr h.2]
theorem setI_pr : ∀ {es : List En} {k : Int} {v u : Value}, (es.map (·.k)).Nodup → getI es k = some u → ((setI es k v).map prE).Perm ((k, v) :: (es.map prE).filter fun x => decide (x.1 ≠ k))
  | [], _, _, _, _, h => by cases h
  | e :: r, k, v, u, hn, h => by
    simp only [List.map_cons, List.nodup_cons] at hn
    simp only [getI] at h
    simp only [setI, List.map_cons]
    by_cases hk : k = e.k
    · subst hk
      rw [if_pos rfl, List.filter_cons_of_neg (by simp [prE]), List.map_cons]
      rw [List.filter_eq_self.2 fun x hx => by
        obtain ⟨y, hy, rfl⟩ := List.mem_map.1 hx
        exact decide_eq_true fun e => hn.1 (List.mem_map.2 ⟨y, hy, e⟩)]
      exact .refl _
    · rw [if_neg hk] at h ⊢
      rw [List.filter_cons_of_pos (by simp [prE, Ne.symm hk]), List.map_cons]
      exact ((setI_pr hn.2 h).cons _).trans (.swap _ _ _)
theorem setI_keys : ∀ (es : List En) (k : Int) (v : Value), (setI es k v).map (·.k) = es.map (·.k)
  | [], _, _ => rfl
  | e :: r, k, v => by
    simp only [setI]
    split
    · rfl
    · simp only [List.map_cons, setI_keys r k v]
theorem setI_borns : ∀ (es : List En) (k : Int) (v : Value), (setI es k v).map (·.b) = es.map (·.b)
  | [], _, _ => rfl
  | e :: r, k, v => by
    simp only [setI]
    split
    · rfl
    · simp only [List.map_cons, setI_borns r k v]
theorem filter_pr (k : Int) (l : List Rw) : (l.map prR).filter (fun x => decide (x.1 ≠ k)) = (del k l).map prR := by
  simp only [del, List.filter_map]
  rfl
theorem EH.del {es : List En} {c : Nat} {l : List Rw} (h : EH es c l) (k : Int) : EH (delI es k) c (Es.del k l) where
  perm := by
    rw [delI_pr h.keys, ← filter_pr]
    exact h.perm.filter _
  keys := h.keys.sublist ((delI_sub es k).map _)
  borns := h.borns.sublist ((delI_sub es k).map _)
  clock := fun e he => h.clock e ((delI_sub es k).subset he)
theorem EH.put {es : List En} {c : Nat} {l : List Rw} (h : EH es c l) {k v : Int} (hn : getI es k = none) (hl : ∀ r ∈ l, r.1 ≠ k) : EH (es ++ [⟨k, .int .u64 v, c⟩]) (c + 1) (ins k v (Es.del k l)) where
  perm := by
    have hd : Es.del k l = l := List.filter_eq_self.2 fun r hr => by simpa using hl r hr
    rw [hd, List.map_append]
    refine (List.perm_append_comm).trans ?_
    refine .trans ?_ ((ins_perm k v l).map prR).symm
    exact h.perm.cons _
  keys := by
    rw [List.map_append, List.nodup_append]
    refine ⟨h.keys, by simp, ?_⟩
    intro a ha b hb
    simp only [List.map_cons, List.map_nil, List.mem_singleton] at hb
    subst hb
    rintro rfl
    obtain ⟨e, he, he2⟩ := List.mem_map.1 ha
    have : prE e ∈ l.map prR := h.perm.mem_iff.1 (List.mem_map.2 ⟨e, he, rfl⟩)
    obtain ⟨r, hr, hr2⟩ := List.mem_map.1 this
    simp only [prE, prR, Prod.mk.injEq] at hr2
    exact hl r hr (hr2.1.trans he2)
  borns := by
    rw [List.map_append, List.nodup_append]
    refine ⟨h.borns, by simp, ?_⟩
    intro a ha b hb
    simp only [List.map_cons, List.map_nil, List.mem_singleton] at hb
    subst hb
    rintro rfl
    obtain ⟨e, he, he2⟩ := List.mem_map.1 ha
    have := h.clock e he
    omega
  clock := by
    intro e he
    rcases List.mem_append.1 he with he | he
    · have := h.clock e he; omega
    · simp only [List.mem_singleton] at he; subst he; simp
theorem EH.upd {es : List En} {c : Nat} {l : List Rw} (h : EH es c l) {k v : Int} {u : Value} (hn : getI es k = some u) : EH (setI es k (.int .u64 v)) c (ins k v (Es.del k l)) where
  perm := by
    refine (setI_pr h.keys hn).trans ?_
    refine .trans ?_ ((ins_perm k v (Es.del k l)).map prR).symm
    rw [List.map_cons, ← filter_pr]
    exact (h.perm.filter _).cons _
  keys := by rw [setI_keys]; exact h.keys
  borns := by rw [setI_borns]; exact h.borns
  clock := by
    intro e he
    have : e.b ∈ es.map (·.b) := by rw [← setI_borns es k (.int .u64 v)]; exact List.mem_map.2 ⟨e, he, rfl⟩
    obtain ⟨e', he', h2⟩ := List.mem_map.1 this
    have := h.clock e' he'
    omega
def hmap (m : Nat) (l : List Rw) : Asn := fun h => ∃ es c, EH es c l ∧ imap m es c h
theorem hmap_open {w0 w : World} {A : Asn} {m : Nat} {l : List Rw} (s : St w0 (A * hmap m l) w) : ∃ es c, EH es c l ∧ St w0 (A * imap m es c) w := by
  obtain ⟨g, h1, h2, h3, d, e, a, es, c, hE, b⟩ := s.holds
  exact ⟨es, c, hE, s.of ⟨g, h1, h2, h3, d, e, a, b⟩⟩
theorem hmap_close {w0 w : World} {A : Asn} {m : Nat} {l : List Rw} {es : List En} {c : Nat} (hE : EH es c l) (s : St w0 (A * imap m es c) w) : St w0 (A * hmap m l) w := by
  obtain ⟨g, h1, h2, h3, d, e, a, b⟩ := s.holds
  exact s.of ⟨g, h1, h2, h3, d, e, a, es, c, hE, b⟩
end Go.HL.Es

namespace Go.HL.Nm
open Go.HL Go.Proofs
set_option maxRecDepth 4000
set_option linter.unusedSimpArgs false
set_option linter.unusedVariables false
@[simp] theorem F4_in_val (args : List Value) : F4.val 150 args = inS.val args := rfl
@[simp] theorem F4_in_ok (args : List Value) : F4.ok 150 args = inS.ok args := rfl
@[simp] theorem in_val (u lo hi : Int) (k k' k'' : IntKind) : inS.val [.int k u, .int k' lo, .int k'' hi] = .bool (inF u lo hi) := rfl
@[simp] theorem in_ok (u lo hi : Int) (k k' k'' : IntKind) : inS.ok [.int k u, .int k' lo, .int k'' hi] = (k = .i64 ∧ k' = .i64 ∧ k'' = .i64) := rfl
def foldU (u : Int) : List Int := if u = 223 then [115, 115] else [foldF u]
def foldAll (us : List (Int × Nat)) : List Int := us.flatMap fun u => foldU u.1
def foldedF (l : List UInt8) : List Int := foldAll (units l)
theorem units_bd : ∀ (n : Nat) (l : List UInt8), l.length ≤ n → ∀ u ∈ units l, 0 ≤ u.1 ∧ u.1 < 2097408
  | 0, l, h => by
    have : l = [] := List.eq_nil_of_length_eq_zero (by omega)
    subst this
    simp [units_nil]
  | n + 1, l, h => by
    by_cases he : l = []
    · subst he; simp [units_nil]
    · have hb := oneF_bd he
      rw [units_cons he]
      intro u hu
      rcases List.mem_cons.1 hu with rfl | hu
      · exact ⟨hb.1, hb.2.1⟩
      · exact units_bd n _ (by simp; omega) u hu
theorem units_at (l : List UInt8) {i : Nat} (h : i < (units l).length) : 0 ≤ (units l)[i].1 ∧ (units l)[i].1 < 2097408 := units_bd _ l (Nat.le_refl _) _ (List.getElem_mem h)
theorem foldU_len (u : Int) : (foldU u).length ≤ 2 ∧ 1 ≤ (foldU u).length := by unfold foldU; split <;> simp
theorem foldAll_len : ∀ us : List (Int × Nat), (foldAll us).length ≤ 2 * us.length
  | [] => by simp [foldAll]
  | u :: us => by
    have := foldAll_len us
    have h1 := (foldU_len u.1).1
    simp only [foldAll, List.flatMap_cons, List.length_append, List.length_cons] at this ⊢
    omega
theorem foldAll_snoc (us : List (Int × Nat)) (u : Int × Nat) : foldAll (us ++ [u]) = foldAll us ++ foldU u.1 := by simp [foldAll]
def ints32 (l : List Int) : List Value := l.map (Value.int .i32)
theorem ints_one (l : List Int) : ∀ u ∈ ints l, u.oneCell' = true := by intro u h; simp only [ints, List.mem_map] at h; obtain ⟨x, _, rfl⟩ := h; rfl

def h169_0 : HC := (.seq (.reg (.eff (.bsl 3 1 1 #[(.int .i64 0)] [0]) (.cons (.inp 0) .nil) (.done [(1, (.bv 0))] none))) .ret)
@[simp] theorem h169_0_wp : type_of% (@wpH h169_0 _ h169_0.eq_1) := wpH h169_0.eq_1
def h169_1 : HC := (.seq (.reg (.eff (.bsl 3 2 1 #[(.int .i64 0)] [0, 1]) (.cons (.cst (.int .i64 115)) (.cons (.cst (.int .i64 115)) .nil)) (.done [(1, (.bv 0))] none))) .ret)
@[simp] theorem h169_1_wp : type_of% (@wpH h169_1 _ h169_1.eq_1) := wpH h169_1.eq_1
def h169_2 : HC := (.seq (.reg (.eff (.bsl 3 1 1 #[(.int .i64 0)] [0]) (.cons (.cst (.int .i64 1105)) .nil) (.done [(1, (.bv 0))] none))) .ret)
@[simp] theorem h169_2_wp : type_of% (@wpH h169_2 _ h169_2.eq_1) := wpH h169_2.eq_1
def h169_3 : HC := (.seq (.reg (.eff (.bsl 3 1 1 #[(.int .i64 0)] [0]) (.cons (.cst (.int .i64 963)) .nil) (.done [(1, (.bv 0))] none))) .ret)
@[simp] theorem h169_3_wp : type_of% (@wpH h169_3 _ h169_3.eq_1) := wpH h169_3.eq_1
def h169_4 : HC := (.seq (.reg (.eff (.bsl 3 1 1 #[(.int .i64 0)] [0]) (.cons (.inp 0) .nil) (.done [(1, (.bv 0))] none))) .ret)
@[simp] theorem h169_4_wp : type_of% (@wpH h169_4 _ h169_4.eq_1) := wpH h169_4.eq_1
def h169_5 : HC := (.seq (.reg (.chk none (.bin .add) (.cons (.inp 0) (.cons (.cst (.int .i64 32)) .nil)) (.eff (.bsl 3 1 1 #[(.int .i64 0)] [0]) (.cons (.op (.bin .add) (.cons (.inp 0) (.cons (.cst (.int .i64 32)) .nil))) .nil) (.done [(1, (.bv 0))] none)))) .ret)
@[simp] theorem h169_5_wp : type_of% (@wpH h169_5 _ h169_5.eq_1) := wpH h169_5.eq_1
def h169_6 : HC := (.br (.chk none (.cal 150) (.cons (.inp 0) (.cons (.cst (.int .i64 65)) (.cons (.cst (.int .i64 90)) .nil))) (.bnd (.op (.cal 150) (.cons (.inp 0) (.cons (.cst (.int .i64 65)) (.cons (.cst (.int .i64 90)) .nil)))) (.chk (some ((.bv 0), false)) (.cal 150) (.cons (.inp 0) (.cons (.cst (.int .i64 192)) (.cons (.cst (.int .i64 222)) .nil))) (.isb none (.bv 0) (.bnd (.ite (.bv 0) true (.cst (.bool true)) (.op (.cal 150) (.cons (.inp 0) (.cons (.cst (.int .i64 192)) (.cons (.cst (.int .i64 222)) .nil))))) (.chk (some ((.bv 1), false)) (.cal 150) (.cons (.inp 0) (.cons (.cst (.int .i64 913)) (.cons (.cst (.int .i64 937)) .nil))) (.isb none (.bv 1) (.bnd (.ite (.bv 1) true (.cst (.bool true)) (.op (.cal 150) (.cons (.inp 0) (.cons (.cst (.int .i64 913)) (.cons (.cst (.int .i64 937)) .nil))))) (.chk (some ((.bv 2), false)) (.cal 150) (.cons (.inp 0) (.cons (.cst (.int .i64 1040)) (.cons (.cst (.int .i64 1071)) .nil))) (.isb none (.bv 2) (.done [] (some (.ite (.bv 2) true (.cst (.bool true)) (.op (.cal 150) (.cons (.inp 0) (.cons (.cst (.int .i64 1040)) (.cons (.cst (.int .i64 1071)) .nil))))))))))))))))) h169_5 .skip)
@[simp] theorem h169_6_wp : type_of% (@wpH h169_6 _ h169_6.eq_1) := wpH h169_6.eq_1
def h169_7 : HC := (.br (.chk none (.bin .eql) (.cons (.inp 0) (.cons (.cst (.int .i64 215)) .nil)) (.bnd (.op (.bin .eql) (.cons (.inp 0) (.cons (.cst (.int .i64 215)) .nil))) (.chk (some ((.bv 0), false)) (.bin .eql) (.cons (.inp 0) (.cons (.cst (.int .i64 930)) .nil)) (.isb none (.bv 0) (.done [] (some (.ite (.bv 0) true (.cst (.bool true)) (.op (.bin .eql) (.cons (.inp 0) (.cons (.cst (.int .i64 930)) .nil)))))))))) h169_4 h169_6)
@[simp] theorem h169_7_wp : type_of% (@wpH h169_7 _ h169_7.eq_1) := wpH h169_7.eq_1
def h169_8 : HC := (.br (.chk none (.bin .eql) (.cons (.inp 0) (.cons (.cst (.int .i64 962)) .nil)) (.done [] (some (.op (.bin .eql) (.cons (.inp 0) (.cons (.cst (.int .i64 962)) .nil)))))) h169_3 h169_7)
@[simp] theorem h169_8_wp : type_of% (@wpH h169_8 _ h169_8.eq_1) := wpH h169_8.eq_1
def h169_9 : HC := (.br (.chk none (.bin .eql) (.cons (.inp 0) (.cons (.cst (.int .i64 1025)) .nil)) (.done [] (some (.op (.bin .eql) (.cons (.inp 0) (.cons (.cst (.int .i64 1025)) .nil)))))) h169_2 h169_8)
@[simp] theorem h169_9_wp : type_of% (@wpH h169_9 _ h169_9.eq_1) := wpH h169_9.eq_1
def h169_10 : HC := (.br (.chk none (.bin .eql) (.cons (.inp 0) (.cons (.cst (.int .i64 223)) .nil)) (.done [] (some (.op (.bin .eql) (.cons (.inp 0) (.cons (.cst (.int .i64 223)) .nil)))))) h169_1 h169_9)
@[simp] theorem h169_10_wp : type_of% (@wpH h169_10 _ h169_10.eq_1) := wpH h169_10.eq_1
def h169_11 : HC := (.seq (.block 0 h169_10) h169_0)
@[simp] theorem h169_11_wp : type_of% (@wpH h169_11 _ h169_11.eq_1) := wpH h169_11.eq_1
def l169 : Lifted := ⟨[0, 2], 44, [.slot 1], (.seq (.reg (.done [(1, (.cst (.slice none 0 0)))] none)) h169_11)⟩
theorem l169_ok : liftFn F4 169 400 = some l169 := by kernel_rfl

def h152_0 : HC := (.seq (.reg (.done [(1, (.inp 3))] none)) .ret)
@[simp] theorem h152_0_wp : type_of% (@wpH h152_0 _ h152_0.eq_1) := wpH h152_0.eq_1
def h152_1 : HC := (.reg (.chk none (.bin .add) (.cons (.inp 4) (.cons (.cst (.int .i64 1)) .nil)) (.done [(4, (.op (.bin .add) (.cons (.inp 4) (.cons (.cst (.int .i64 1)) .nil))))] none)))
@[simp] theorem h152_1_wp : type_of% (@wpH h152_1 _ h152_1.eq_1) := wpH h152_1.eq_1
def h152_2 : HC := (.reg (.chk none (.idxL 1) (.cons (.inp 2) (.cons (.inp 4) .nil)) (.eff (.ld false 1) (.cons (.op (.idxL 1) (.cons (.inp 2) (.cons (.inp 4) .nil))) .nil) (.eff (.call 169) (.cons (.bv 0) .nil) (.eff (.app 44 44 3 1 8 (.int .i64 0)) (.cons (.inp 3) (.cons (.bv 1) .nil)) (.done [(3, (.bv 2))] none))))))
@[simp] theorem h152_2_wp : type_of% (@wpH h152_2 _ h152_2.eq_1) := wpH h152_2.eq_1
def h152_3 : HC := (.seq (.block 1 h152_2) h152_1)
@[simp] theorem h152_3_wp : type_of% (@wpH h152_3 _ h152_3.eq_1) := wpH h152_3.eq_1
def h152_4 : HC := (.seq (.br (.chk none .lenL (.cons (.inp 2) .nil) (.chk none (.bin .lss) (.cons (.inp 4) (.cons (.op .lenL (.cons (.inp 2) .nil)) .nil)) (.done [] (some (.op (.bin .lss) (.cons (.inp 4) (.cons (.op .lenL (.cons (.inp 2) .nil)) .nil))))))) .skip (.exit 0)) h152_3)
@[simp] theorem h152_4_wp : type_of% (@wpH h152_4 _ h152_4.eq_1) := wpH h152_4.eq_1
def h152_5 : HC := (.loop h152_4)
@[simp] theorem h152_5_wp : type_of% (@wpH h152_5 _ h152_5.eq_1) := wpH h152_5.eq_1
def h152_6 : HC := (.seq (.block 0 h152_5) h152_0)
@[simp] theorem h152_6_wp : type_of% (@wpH h152_6 _ h152_6.eq_1) := wpH h152_6.eq_1
def h152_7 : HC := (.seq (.reg (.done [(4, (.cst (.int .i64 0)))] none)) h152_6)
@[simp] theorem h152_7_wp : type_of% (@wpH h152_7 _ h152_7.eq_1) := wpH h152_7.eq_1
def h152_8 : HC := (.seq (.reg (.done [(3, (.cst (.slice none 0 0)))] none)) h152_7)
@[simp] theorem h152_8_wp : type_of% (@wpH h152_8 _ h152_8.eq_1) := wpH h152_8.eq_1
def h152_9 : HC := (.seq (.reg (.eff (.call 117) (.cons (.inp 0) .nil) (.chk none (.ext 0) (.cons (.bv 0) .nil) (.chk none (.ext 1) (.cons (.bv 0) .nil) (.done [(2, (.op (.ext 0) (.cons (.bv 0) .nil)))] none))))) h152_8)
@[simp] theorem h152_9_wp : type_of% (@wpH h152_9 _ h152_9.eq_1) := wpH h152_9.eq_1
def l152 : Lifted := ⟨[0, 2, 3, 5, 6], 26, [.slot 1], (.seq (.reg (.done [(1, (.cst (.slice none 0 0)))] none)) h152_9)⟩
theorem l152_ok : liftFn F4 152 400 = some l152 := by kernel_rfl

def h131_0 : HC := (.seq (.reg (.done [(1, (.inp 2))] none)) .ret)
@[simp] theorem h131_0_wp : type_of% (@wpH h131_0 _ h131_0.eq_1) := wpH h131_0.eq_1
def h131_1 : HC := (.reg (.chk none (.cal 160) (.cons (.inp 5) .nil) (.eff (.bsl 21 1 1 #[(.int .i32 0)] [0]) (.cons (.op (.cal 160) (.cons (.inp 5) .nil)) .nil) (.eff (.app 193 193 21 1 4 (.int .i32 0)) (.cons (.inp 2) (.cons (.bv 0) .nil)) (.done [(2, (.bv 1))] none)))))
@[simp] theorem h131_1_wp : type_of% (@wpH h131_1 _ h131_1.eq_1) := wpH h131_1.eq_1
def h131_2 : HC := (.seq (.reg (.eff (.bsl 21 2 1 #[(.int .i32 0)] [0, 1]) (.cons (.cst (.int .i32 115)) (.cons (.cst (.int .i32 115)) .nil)) (.eff (.app 193 193 21 1 4 (.int .i32 0)) (.cons (.inp 2) (.cons (.bv 0) .nil)) (.done [(2, (.bv 1))] none)))) (.exit 1))
@[simp] theorem h131_2_wp : type_of% (@wpH h131_2 _ h131_2.eq_1) := wpH h131_2.eq_1
def h131_3 : HC := (.seq (.br (.chk none (.bin .eql) (.cons (.inp 5) (.cons (.cst (.int .i32 223)) .nil)) (.done [] (some (.op (.bin .eql) (.cons (.inp 5) (.cons (.cst (.int .i32 223)) .nil)))))) h131_2 .skip) h131_1)
@[simp] theorem h131_3_wp : type_of% (@wpH h131_3 _ h131_3.eq_1) := wpH h131_3.eq_1
def h131_4 : HC := (.seq (.reg (.chk none (.cal 101) (.cons (.inp 0) (.cons (.inp 3) (.cons (.inp 4) .nil))) (.done [(5, (.op (.cal 101) (.cons (.inp 0) (.cons (.inp 3) (.cons (.inp 4) .nil)))))] none))) h131_3)
@[simp] theorem h131_4_wp : type_of% (@wpH h131_4 _ h131_4.eq_1) := wpH h131_4.eq_1
def h131_5 : HC := (.seq (.reg (.chk none (.ext 1) (.cons (.inp 7) .nil) (.chk none (.ext 2) (.cons (.inp 7) .nil) (.done [(3, (.op (.ext 1) (.cons (.inp 7) .nil))), (4, (.op (.ext 2) (.cons (.inp 7) .nil)))] none)))) h131_4)
@[simp] theorem h131_5_wp : type_of% (@wpH h131_5 _ h131_5.eq_1) := wpH h131_5.eq_1
def h131_6 : HC := (.block 1 h131_5)
@[simp] theorem h131_6_wp : type_of% (@wpH h131_6 _ h131_6.eq_1) := wpH h131_6.eq_1
def h131_7 : HC := (.seq (.br (.eff (.nxt true 0) (.cons (.inp 6) .nil) (.chk none (.ext 0) (.cons (.bv 0) .nil) (.done [(7, (.bv 0))] (some (.op (.ext 0) (.cons (.bv 0) .nil)))))) .skip (.exit 0)) h131_6)
@[simp] theorem h131_7_wp : type_of% (@wpH h131_7 _ h131_7.eq_1) := wpH h131_7.eq_1
def h131_8 : HC := (.loop h131_7)
@[simp] theorem h131_8_wp : type_of% (@wpH h131_8 _ h131_8.eq_1) := wpH h131_8.eq_1
def h131_9 : HC := (.seq (.block 0 h131_8) h131_0)
@[simp] theorem h131_9_wp : type_of% (@wpH h131_9 _ h131_9.eq_1) := wpH h131_9.eq_1
def h131_10 : HC := (.seq (.reg (.eff (.rngS 9) (.cons (.inp 0) .nil) (.done [(6, (.bv 0))] none))) h131_9)
@[simp] theorem h131_10_wp : type_of% (@wpH h131_10 _ h131_10.eq_1) := wpH h131_10.eq_1
def h131_11 : HC := (.seq (.reg (.chk none .lenS (.cons (.inp 0) .nil) (.eff (.mks 193 21 1 4 (.int .i32 0)) (.cons (.cst (.int .i64 0)) (.cons (.op .lenS (.cons (.inp 0) .nil)) .nil)) (.done [(2, (.bv 0))] none)))) h131_10)
@[simp] theorem h131_11_wp : type_of% (@wpH h131_11 _ h131_11.eq_1) := wpH h131_11.eq_1
def l131 : Lifted := ⟨[0, 2, 3, 4, 5, 6, 11, 12], 31, [.slot 1], (.seq (.reg (.done [(1, (.cst (.slice none 0 0)))] none)) h131_11)⟩
theorem l131_ok : liftFn F4 131 400 = some l131 := by kernel_rfl
theorem rfold_spec (u : Int) (w0 w : World) (A : Asn) (hu : 0 ≤ u ∧ u < 2097408) (s : St w0 A w) :
    CallW Tryz.prog 169 [.int .i64 u] (fun r w' => ∃ b, r = .slice (some ⟨b, 0, none⟩) (foldU u).length (foldU u).length ∧ St w0 (A * pt b (.cells (ints (foldU u)).toArray 3 (0, 0))) w') w := by
  have fin : ∀ x b w', foldU u = [x] → St w0 (A * pt b (.cells #[.int .i64 x] 3 (0, 0))) w' →
      ∃ b', (b = b' ∧ 1 = (foldU u).length) ∧ St w0 (A * pt b' (.cells (ints (foldU u)).toArray 3 (0, 0))) w' := by
    intro x b w' h s
    rw [h]
    exact ⟨b, ⟨rfl, rfl⟩, s⟩
  refine callW_of_lift l169_ok (by simp [l169]) ?_
  simp [l169]
  refine cndI (fun h1 => ?_) (fun h1 => ?_)
  · simp at h1
    subst h1
    simp
    refine eff_bsl2 s rfl rfl ?_
    intro b w1 s1
    simp
    exact ⟨b, ⟨rfl, rfl⟩, s1⟩
  simp at h1
  simp
  refine cndI (fun h2 => ?_) (fun h2 => ?_)
  · simp at h2
    subst h2
    simp
    refine eff_bsl1 s rfl ?_
    intro b w1 s1
    simp
    exact fin _ b w1 (by decide) s1
  simp at h2
  simp
  refine cndI (fun h3 => ?_) (fun h3 => ?_)
  · simp at h3
    subst h3
    simp
    refine eff_bsl1 s rfl ?_
    intro b w1 s1
    simp
    exact fin _ b w1 (by decide) s1
  simp at h3
  simp
  refine cndI (fun h4 => ?_) (fun h4 => ?_)
  · simp at h4
    simp
    refine eff_bsl1 s rfl ?_
    intro b w1 s1
    simp
    exact fin _ b w1 (by rcases h4 with rfl | rfl <;> decide) s1
  simp at h4
  simp
  refine cndI (fun h5 => ?_) (fun h5 => ?_)
  · simp [inF] at h5
    simp
    try simp (disch := omega) only [wrap64]
    refine eff_bsl1 s rfl ?_
    intro b w1 s1
    simp
    exact fin _ b w1 (by unfold foldU foldF; rw [if_neg h1, if_pos (by omega)]) s1
  simp [inF] at h5
  simp
  refine eff_bsl1 s rfl ?_
  intro b w1 s1
  simp
  exact fin _ b w1 (by unfold foldU foldF; rw [if_neg h1, if_neg (by omega), if_neg h2, if_neg h3]) s1
theorem rfolded_spec (l : List UInt8) (w0 w : World) (A : Asn) (hl : l.length ≤ 1048576) (s : St w0 A w) :
    CallW Tryz.prog 152 [.string (mk l)] (fun r w' => St w0 (A * own 3 1 r (foldedF l).length (ints (foldedF l))) w') w := by
  refine callW_of_lift l152_ok (by simp [l152]) ?_
  simp [l152]
  refine eff_call ((units_spec l w0 w A hl s).mono ?_)
  rintro r w1 ⟨v1, v2, rfl, s1⟩
  obtain ⟨a1, c1, rfl, hc1, hn1⟩ := s1.swap.own_val
  have hul := units_len l
  simp
  refine loopI (fun env w' => ∃ (i : Nat) (v : Value), env = [.string (mk l), .slice none 0 0, .slice a1 (units l).length c1, v, .int .i64 i] ∧ i ≤ (units l).length ∧
      St w0 (A * own 3 1 (.slice a1 (units l).length c1) (units l).length (ints ((units l).map (·.1))) * own 3 1 v (foldAll ((units l).take i)).length (ints (foldAll ((units l).take i)))) w')
    (fun env _ => (units l).length - slotN env 4) ⟨0, _, rfl, by omega, by simpa [foldAll, ints] using s1.drop.own_nil 3 1⟩ ?_
  rintro LQ env w' ⟨i, v, rfl, hi, s'⟩ hN hE hR
  simp
  refine cndI (fun h => ?_) (fun h => ?_)
  · simp at h
    obtain ⟨g1, c1', e1, _, hcell⟩ := s'.swap.own_at (by omega)
    cases e1
    have hui := hcell i (.int .i64 (units l)[i].1) (by simp [ints, h])
    simp
    refine ⟨h, eff_ldc hui ?_⟩
    simp
    have hub := units_at l h
    refine eff_call ((rfold_spec _ w0 _ _ hub s').mono ?_)
    rintro r w2 ⟨b, rfl, s2⟩
    have hfl := foldAll_len ((units l).take i)
    rw [List.length_take] at hfl
    have hfu := (foldU_len (units l)[i].1).1
    simp
    refine eff_app (n := (foldAll ((units l).take i)).length) (m := (foldU (units l)[i].1).length) (news := ints (foldU (units l)[i].1)) s2.swap (by simp [ints]) s2.cells_look (ints_one _) (by decide) rfl (by unfold maxLen; omega) (by omega) ?_
    intro v' w3 s3
    simp
    try simp (disch := omega) only [wrap64]
    refine hN _ _ ⟨i + 1, v', by simp, h, ?_⟩ (by simp [slotN]; omega)
    rw [List.take_succ_eq_append_getElem h, foldAll_snoc]
    simpa [ints] using s3.swap.drop
  · simp at h
    simp
    refine hE _ _ _ ?_
    simp
    have : i = (units l).length := by omega
    subst this
    rw [List.take_length] at s'
    exact s'.swap.drop
def iterN (w : World) (b : Nat) : Nat := match w.heap[b]? with
  | some (.stringIter _ p) => p
  | _ => 0
theorem iterN_eq {w0 w : World} {F : Asn} {b p : Nat} {x : ByteArray} (s : St w0 (F * pt b (.stringIter x p)) w) : iterN w b = p := by unfold iterN; rw [s.look]
theorem folded_spec (l : List UInt8) (w0 w : World) (A : Asn) (hl : l.length ≤ 1048576) (s : St w0 A w) :
    CallW Tryz.prog 131 [.string (mk l)] (fun r w' => St w0 (A * own 21 1 r (foldedF l).length (ints32 (foldedF l))) w') w := by
  have hul := units_len l
  refine callW_of_lift l131_ok (by simp [l131]) ?_
  simp [l131]
  refine eff_mks (l := 0) (c := l.length) s (by omega) (by unfold maxLen; omega) (by omega) rfl ?_
  intro v w1 s1
  simp
  refine eff_rngS s1 ?_
  intro b w2 s2
  simp
  refine loopI (fun env w' => ∃ (i : Nat) (done : List (Int × Nat)) (v x y z t : Value), env = [.string (mk l), .slice none 0 0, v, x, y, z, .pointer (some ⟨b, 0, none⟩), t] ∧
      i ≤ l.length ∧ units l = done ++ units (l.drop i) ∧ St w0 (A * own 21 1 v (foldAll done).length (ints32 (foldAll done)) * pt b (.stringIter (mk l) i)) w')
    (fun _ w => l.length - iterN w b) ⟨0, [], _, _, _, _, _, rfl, by omega, by simp, by simpa [foldAll, ints32] using s2⟩ ?_
  rintro LQ env w' ⟨i, done, v, x, y, z, t, rfl, hi, hu, s'⟩ hN hE hR
  simp
  refine eff_nxtS s' (fun h w2 s2 => ?_) (fun h => ?_)
  · simp at h
    have hle := oneF_le (l := l) (i := i) h
    have hob := oneF_bd (l := l.drop i) (by simp; omega)
    rw [decode_decL, decL_oneF _ (by simp; omega)] at s2
    have hstep := units_step hu h
    rw [decode_decL, decL_oneF _ (by simp; omega)]
    simp
    refine ⟨⟨hl, h⟩, ?_⟩
    have hdl : done.length + 1 ≤ l.length := by rw [hstep] at hul; simp at hul; omega
    have hfl := foldAll_len done
    refine cndI (fun h1 => ?_) (fun h1 => ?_)
    · simp at h1
      simp
      refine eff_bsl2 s2.swap rfl rfl ?_
      intro b2 w3 s3
      simp
      refine eff_app (n := (foldAll done).length) (m := 2) (news := [.int .i32 115, .int .i32 115]) s3.swap rfl s3.cells_look (by simp [Value.oneCell']) (by decide) rfl (by unfold maxLen; omega) (by omega) ?_
      intro v' w4 s4
      simp
      refine hN _ _ ⟨i + (oneF (l.drop i)).2, done ++ [oneF (l.drop i)], v', _, _, _, _, by simp; exact ⟨rfl, rfl, rfl, rfl⟩, hle.1, hstep, ?_⟩ ?_
      · rw [foldAll_snoc, foldU, if_pos h1]
        simpa [ints32] using s4.swap.drop.swap
      · rw [iterN_eq s', iterN_eq s4.swap.drop.swap]; omega
    · simp at h1
      simp
      refine ⟨by omega, ?_⟩
      refine eff_bsl1 s2.swap rfl ?_
      intro b2 w3 s3
      simp
      refine eff_app (n := (foldAll done).length) (m := 1) (news := [.int .i32 (foldF (oneF (l.drop i)).1)]) s3.swap rfl s3.cells_look (by simp [Value.oneCell']) (by decide) rfl (by unfold maxLen; omega) (by omega) ?_
      intro v' w4 s4
      simp
      refine hN _ _ ⟨i + (oneF (l.drop i)).2, done ++ [oneF (l.drop i)], v', _, _, _, _, by simp; exact ⟨rfl, rfl, rfl, rfl⟩, hle.1, hstep, ?_⟩ ?_
      · rw [foldAll_snoc, foldU, if_neg h1]
        simpa [ints32] using s4.swap.drop.swap
      · rw [iterN_eq s', iterN_eq s4.swap.drop.swap]; omega
  · simp at h
    simp
    refine hE _ _ _ ?_
    simp
    have : i = l.length := by omega
    subst this
    rw [List.drop_length, units_nil, List.append_nil] at hu
    rw [foldedF, hu]
    exact s'.drop
end Go.HL.Nm

namespace Go.HL.Nm
open Go.HL Go.Proofs
set_option maxRecDepth 4000
set_option linter.unusedSimpArgs false
set_option linter.unusedVariables false
def okU (u : Int) : Prop := (0 ≤ u ∧ u < 55296) ∨ (57344 ≤ u ∧ u ≤ 1114111) ∨ (2097152 ≤ u ∧ u < 2097408)
def encN (n : Nat) : List Nat :=
  if 2097152 ≤ n then [n - 2097152]
  else if n < 128 then [n]
  else if n < 2048 then [192 + n / 64, 128 + n % 64]
  else if n < 65536 then [224 + n / 4096, 128 + n / 64 % 64, 128 + n % 64]
  else [240 + n / 262144, 128 + n / 4096 % 64, 128 + n / 64 % 64, 128 + n % 64]
def encU (u : Int) : List UInt8 := (encN u.toNat).map UInt8.ofNat
def encAll (us : List Int) : List UInt8 := us.flatMap encU
theorem encN_len (n : Nat) : (encN n).length ≤ 4 := by unfold encN; (repeat' split) <;> simp
theorem encU_len (u : Int) : (encU u).length ≤ 4 := by simp only [encU, List.length_map]; exact encN_len _
theorem encAll_len : ∀ us : List Int, (encAll us).length ≤ 4 * us.length
  | [] => by simp [encAll]
  | u :: us => by
    have := encAll_len us
    have h1 := encU_len u
    simp only [encAll, List.flatMap_cons, List.length_append, List.length_cons] at this ⊢
    omega
theorem encAll_snoc (us : List Int) (u : Int) : encAll (us ++ [u]) = encAll us ++ encU u := by simp [encAll]
theorem bytesV_one (l : List UInt8) : ∀ u ∈ bytesV l, u.oneCell' = true := by intro u h; simp only [bytesV, List.mem_map] at h; obtain ⟨x, _, rfl⟩ := h; rfl
theorem bytesV_app (a b : List UInt8) : bytesV (a ++ b) = bytesV a ++ bytesV b := by simp [bytesV]
theorem bytesV_len (a : List UInt8) : (bytesV a).length = a.length := by simp [bytesV]
theorem bytesV_nat (l : List Nat) (h : ∀ n ∈ l, n < 256) : bytesV (l.map UInt8.ofNat) = l.map fun n => .int .u8 (n : Int) := by
  simp only [bytesV, List.map_map]
  refine List.map_congr_left fun n hn => ?_
  have := h n hn
  simp
  omega
theorem encN_lt (n : Nat) (h : okU n) : ∀ b ∈ encN n, b < 256 := by
  have hn : n ≤ 1114111 ∨ (2097152 ≤ n ∧ n < 2097408) := by unfold okU at h; omega
  unfold encN
  repeat' split
  all_goals (intro b hb; simp at hb; omega)
theorem encV (n : Nat) (h : okU n) : bytesV (encU n) = (encN n).map fun b => .int .u8 (b : Int) := by
  have := bytesV_nat (encN n) (encN_lt n h)
  simpa [encU] using this

def h168_0 : HC := (.seq (.reg (.chk none (.bin .quo) (.cons (.inp 0) (.cons (.cst (.int .i64 262144)) .nil)) (.chk none (.bin .add) (.cons (.cst (.int .i64 240)) (.cons (.op (.bin .quo) (.cons (.inp 0) (.cons (.cst (.int .i64 262144)) .nil))) .nil)) (.chk none (.convI .u8) (.cons (.op (.bin .add) (.cons (.cst (.int .i64 240)) (.cons (.op (.bin .quo) (.cons (.inp 0) (.cons (.cst (.int .i64 262144)) .nil))) .nil))) .nil) (.chk none (.bin .quo) (.cons (.inp 0) (.cons (.cst (.int .i64 4096)) .nil)) (.chk none (.bin .rem) (.cons (.op (.bin .quo) (.cons (.inp 0) (.cons (.cst (.int .i64 4096)) .nil))) (.cons (.cst (.int .i64 64)) .nil)) (.chk none (.bin .add) (.cons (.cst (.int .i64 128)) (.cons (.op (.bin .rem) (.cons (.op (.bin .quo) (.cons (.inp 0) (.cons (.cst (.int .i64 4096)) .nil))) (.cons (.cst (.int .i64 64)) .nil))) .nil)) (.chk none (.convI .u8) (.cons (.op (.bin .add) (.cons (.cst (.int .i64 128)) (.cons (.op (.bin .rem) (.cons (.op (.bin .quo) (.cons (.inp 0) (.cons (.cst (.int .i64 4096)) .nil))) (.cons (.cst (.int .i64 64)) .nil))) .nil))) .nil) (.chk none (.bin .quo) (.cons (.inp 0) (.cons (.cst (.int .i64 64)) .nil)) (.chk none (.bin .rem) (.cons (.op (.bin .quo) (.cons (.inp 0) (.cons (.cst (.int .i64 64)) .nil))) (.cons (.cst (.int .i64 64)) .nil)) (.chk none (.bin .add) (.cons (.cst (.int .i64 128)) (.cons (.op (.bin .rem) (.cons (.op (.bin .quo) (.cons (.inp 0) (.cons (.cst (.int .i64 64)) .nil))) (.cons (.cst (.int .i64 64)) .nil))) .nil)) (.chk none (.convI .u8) (.cons (.op (.bin .add) (.cons (.cst (.int .i64 128)) (.cons (.op (.bin .rem) (.cons (.op (.bin .quo) (.cons (.inp 0) (.cons (.cst (.int .i64 64)) .nil))) (.cons (.cst (.int .i64 64)) .nil))) .nil))) .nil) (.chk none (.bin .rem) (.cons (.inp 0) (.cons (.cst (.int .i64 64)) .nil)) (.chk none (.bin .add) (.cons (.cst (.int .i64 128)) (.cons (.op (.bin .rem) (.cons (.inp 0) (.cons (.cst (.int .i64 64)) .nil))) .nil)) (.chk none (.convI .u8) (.cons (.op (.bin .add) (.cons (.cst (.int .i64 128)) (.cons (.op (.bin .rem) (.cons (.inp 0) (.cons (.cst (.int .i64 64)) .nil))) .nil))) .nil) (.eff (.bsl 5 4 1 #[(.int .u8 0)] [0, 1, 2, 3]) (.cons (.op (.convI .u8) (.cons (.op (.bin .add) (.cons (.cst (.int .i64 240)) (.cons (.op (.bin .quo) (.cons (.inp 0) (.cons (.cst (.int .i64 262144)) .nil))) .nil))) .nil)) (.cons (.op (.convI .u8) (.cons (.op (.bin .add) (.cons (.cst (.int .i64 128)) (.cons (.op (.bin .rem) (.cons (.op (.bin .quo) (.cons (.inp 0) (.cons (.cst (.int .i64 4096)) .nil))) (.cons (.cst (.int .i64 64)) .nil))) .nil))) .nil)) (.cons (.op (.convI .u8) (.cons (.op (.bin .add) (.cons (.cst (.int .i64 128)) (.cons (.op (.bin .rem) (.cons (.op (.bin .quo) (.cons (.inp 0) (.cons (.cst (.int .i64 64)) .nil))) (.cons (.cst (.int .i64 64)) .nil))) .nil))) .nil)) (.cons (.op (.convI .u8) (.cons (.op (.bin .add) (.cons (.cst (.int .i64 128)) (.cons (.op (.bin .rem) (.cons (.inp 0) (.cons (.cst (.int .i64 64)) .nil))) .nil))) .nil)) .nil)))) (.done [(1, (.bv 0))] none))))))))))))))))) .ret)
@[simp] theorem h168_0_wp : type_of% (@wpH h168_0 _ h168_0.eq_1) := wpH h168_0.eq_1
def h168_1 : HC := (.seq (.reg (.chk none (.bin .sub) (.cons (.inp 0) (.cons (.cst (.int .i64 2097152)) .nil)) (.chk none (.convI .u8) (.cons (.op (.bin .sub) (.cons (.inp 0) (.cons (.cst (.int .i64 2097152)) .nil))) .nil) (.eff (.bsl 5 1 1 #[(.int .u8 0)] [0]) (.cons (.op (.convI .u8) (.cons (.op (.bin .sub) (.cons (.inp 0) (.cons (.cst (.int .i64 2097152)) .nil))) .nil)) .nil) (.done [(1, (.bv 0))] none))))) .ret)
@[simp] theorem h168_1_wp : type_of% (@wpH h168_1 _ h168_1.eq_1) := wpH h168_1.eq_1
def h168_2 : HC := (.seq (.reg (.chk none (.convI .u8) (.cons (.inp 0) .nil) (.eff (.bsl 5 1 1 #[(.int .u8 0)] [0]) (.cons (.op (.convI .u8) (.cons (.inp 0) .nil)) .nil) (.done [(1, (.bv 0))] none)))) .ret)
@[simp] theorem h168_2_wp : type_of% (@wpH h168_2 _ h168_2.eq_1) := wpH h168_2.eq_1
def h168_3 : HC := (.seq (.reg (.chk none (.bin .quo) (.cons (.inp 0) (.cons (.cst (.int .i64 64)) .nil)) (.chk none (.bin .add) (.cons (.cst (.int .i64 192)) (.cons (.op (.bin .quo) (.cons (.inp 0) (.cons (.cst (.int .i64 64)) .nil))) .nil)) (.chk none (.convI .u8) (.cons (.op (.bin .add) (.cons (.cst (.int .i64 192)) (.cons (.op (.bin .quo) (.cons (.inp 0) (.cons (.cst (.int .i64 64)) .nil))) .nil))) .nil) (.chk none (.bin .rem) (.cons (.inp 0) (.cons (.cst (.int .i64 64)) .nil)) (.chk none (.bin .add) (.cons (.cst (.int .i64 128)) (.cons (.op (.bin .rem) (.cons (.inp 0) (.cons (.cst (.int .i64 64)) .nil))) .nil)) (.chk none (.convI .u8) (.cons (.op (.bin .add) (.cons (.cst (.int .i64 128)) (.cons (.op (.bin .rem) (.cons (.inp 0) (.cons (.cst (.int .i64 64)) .nil))) .nil))) .nil) (.eff (.bsl 5 2 1 #[(.int .u8 0)] [0, 1]) (.cons (.op (.convI .u8) (.cons (.op (.bin .add) (.cons (.cst (.int .i64 192)) (.cons (.op (.bin .quo) (.cons (.inp 0) (.cons (.cst (.int .i64 64)) .nil))) .nil))) .nil)) (.cons (.op (.convI .u8) (.cons (.op (.bin .add) (.cons (.cst (.int .i64 128)) (.cons (.op (.bin .rem) (.cons (.inp 0) (.cons (.cst (.int .i64 64)) .nil))) .nil))) .nil)) .nil)) (.done [(1, (.bv 0))] none))))))))) .ret)
@[simp] theorem h168_3_wp : type_of% (@wpH h168_3 _ h168_3.eq_1) := wpH h168_3.eq_1
def h168_4 : HC := (.seq (.reg (.chk none (.bin .quo) (.cons (.inp 0) (.cons (.cst (.int .i64 4096)) .nil)) (.chk none (.bin .add) (.cons (.cst (.int .i64 224)) (.cons (.op (.bin .quo) (.cons (.inp 0) (.cons (.cst (.int .i64 4096)) .nil))) .nil)) (.chk none (.convI .u8) (.cons (.op (.bin .add) (.cons (.cst (.int .i64 224)) (.cons (.op (.bin .quo) (.cons (.inp 0) (.cons (.cst (.int .i64 4096)) .nil))) .nil))) .nil) (.chk none (.bin .quo) (.cons (.inp 0) (.cons (.cst (.int .i64 64)) .nil)) (.chk none (.bin .rem) (.cons (.op (.bin .quo) (.cons (.inp 0) (.cons (.cst (.int .i64 64)) .nil))) (.cons (.cst (.int .i64 64)) .nil)) (.chk none (.bin .add) (.cons (.cst (.int .i64 128)) (.cons (.op (.bin .rem) (.cons (.op (.bin .quo) (.cons (.inp 0) (.cons (.cst (.int .i64 64)) .nil))) (.cons (.cst (.int .i64 64)) .nil))) .nil)) (.chk none (.convI .u8) (.cons (.op (.bin .add) (.cons (.cst (.int .i64 128)) (.cons (.op (.bin .rem) (.cons (.op (.bin .quo) (.cons (.inp 0) (.cons (.cst (.int .i64 64)) .nil))) (.cons (.cst (.int .i64 64)) .nil))) .nil))) .nil) (.chk none (.bin .rem) (.cons (.inp 0) (.cons (.cst (.int .i64 64)) .nil)) (.chk none (.bin .add) (.cons (.cst (.int .i64 128)) (.cons (.op (.bin .rem) (.cons (.inp 0) (.cons (.cst (.int .i64 64)) .nil))) .nil)) (.chk none (.convI .u8) (.cons (.op (.bin .add) (.cons (.cst (.int .i64 128)) (.cons (.op (.bin .rem) (.cons (.inp 0) (.cons (.cst (.int .i64 64)) .nil))) .nil))) .nil) (.eff (.bsl 5 3 1 #[(.int .u8 0)] [0, 1, 2]) (.cons (.op (.convI .u8) (.cons (.op (.bin .add) (.cons (.cst (.int .i64 224)) (.cons (.op (.bin .quo) (.cons (.inp 0) (.cons (.cst (.int .i64 4096)) .nil))) .nil))) .nil)) (.cons (.op (.convI .u8) (.cons (.op (.bin .add) (.cons (.cst (.int .i64 128)) (.cons (.op (.bin .rem) (.cons (.op (.bin .quo) (.cons (.inp 0) (.cons (.cst (.int .i64 64)) .nil))) (.cons (.cst (.int .i64 64)) .nil))) .nil))) .nil)) (.cons (.op (.convI .u8) (.cons (.op (.bin .add) (.cons (.cst (.int .i64 128)) (.cons (.op (.bin .rem) (.cons (.inp 0) (.cons (.cst (.int .i64 64)) .nil))) .nil))) .nil)) .nil))) (.done [(1, (.bv 0))] none))))))))))))) .ret)
@[simp] theorem h168_4_wp : type_of% (@wpH h168_4 _ h168_4.eq_1) := wpH h168_4.eq_1
def h168_5 : HC := (.br (.chk none (.bin .lss) (.cons (.inp 0) (.cons (.cst (.int .i64 65536)) .nil)) (.done [] (some (.op (.bin .lss) (.cons (.inp 0) (.cons (.cst (.int .i64 65536)) .nil)))))) h168_4 .skip)
@[simp] theorem h168_5_wp : type_of% (@wpH h168_5 _ h168_5.eq_1) := wpH h168_5.eq_1
def h168_6 : HC := (.br (.chk none (.bin .lss) (.cons (.inp 0) (.cons (.cst (.int .i64 2048)) .nil)) (.done [] (some (.op (.bin .lss) (.cons (.inp 0) (.cons (.cst (.int .i64 2048)) .nil)))))) h168_3 h168_5)
@[simp] theorem h168_6_wp : type_of% (@wpH h168_6 _ h168_6.eq_1) := wpH h168_6.eq_1
def h168_7 : HC := (.br (.chk none (.bin .lss) (.cons (.inp 0) (.cons (.cst (.int .i64 128)) .nil)) (.done [] (some (.op (.bin .lss) (.cons (.inp 0) (.cons (.cst (.int .i64 128)) .nil)))))) h168_2 h168_6)
@[simp] theorem h168_7_wp : type_of% (@wpH h168_7 _ h168_7.eq_1) := wpH h168_7.eq_1
def h168_8 : HC := (.br (.chk none (.bin .geq) (.cons (.inp 0) (.cons (.cst (.int .i64 2097152)) .nil)) (.done [] (some (.op (.bin .geq) (.cons (.inp 0) (.cons (.cst (.int .i64 2097152)) .nil)))))) h168_1 h168_7)
@[simp] theorem h168_8_wp : type_of% (@wpH h168_8 _ h168_8.eq_1) := wpH h168_8.eq_1
def h168_9 : HC := (.seq (.block 0 h168_8) h168_0)
@[simp] theorem h168_9_wp : type_of% (@wpH h168_9 _ h168_9.eq_1) := wpH h168_9.eq_1
def l168 : Lifted := ⟨[0, 2], 64, [.slot 1], (.seq (.reg (.done [(1, (.cst (.slice none 0 0)))] none)) h168_9)⟩
theorem l168_ok : liftFn F4 168 400 = some l168 := by kernel_rfl

def h151_0 : HC := (.seq (.reg (.eff (.b2s 214 9) (.cons (.inp 2) .nil) (.done [(1, (.bv 0))] none))) .ret)
@[simp] theorem h151_0_wp : type_of% (@wpH h151_0 _ h151_0.eq_1) := wpH h151_0.eq_1
def h151_1 : HC := (.reg (.chk none (.bin .add) (.cons (.inp 3) (.cons (.cst (.int .i64 1)) .nil)) (.done [(3, (.op (.bin .add) (.cons (.inp 3) (.cons (.cst (.int .i64 1)) .nil))))] none)))
@[simp] theorem h151_1_wp : type_of% (@wpH h151_1 _ h151_1.eq_1) := wpH h151_1.eq_1
def h151_2 : HC := (.reg (.chk none (.idxL 1) (.cons (.inp 0) (.cons (.inp 3) .nil)) (.eff (.ld false 1) (.cons (.op (.idxL 1) (.cons (.inp 0) (.cons (.inp 3) .nil))) .nil) (.eff (.call 168) (.cons (.bv 0) .nil) (.eff (.app 214 214 5 1 1 (.int .u8 0)) (.cons (.inp 2) (.cons (.bv 1) .nil)) (.done [(2, (.bv 2))] none))))))
@[simp] theorem h151_2_wp : type_of% (@wpH h151_2 _ h151_2.eq_1) := wpH h151_2.eq_1
def h151_3 : HC := (.seq (.block 1 h151_2) h151_1)
@[simp] theorem h151_3_wp : type_of% (@wpH h151_3 _ h151_3.eq_1) := wpH h151_3.eq_1
def h151_4 : HC := (.seq (.br (.chk none .lenL (.cons (.inp 0) .nil) (.chk none (.bin .lss) (.cons (.inp 3) (.cons (.op .lenL (.cons (.inp 0) .nil)) .nil)) (.done [] (some (.op (.bin .lss) (.cons (.inp 3) (.cons (.op .lenL (.cons (.inp 0) .nil)) .nil))))))) .skip (.exit 0)) h151_3)
@[simp] theorem h151_4_wp : type_of% (@wpH h151_4 _ h151_4.eq_1) := wpH h151_4.eq_1
def h151_5 : HC := (.loop h151_4)
@[simp] theorem h151_5_wp : type_of% (@wpH h151_5 _ h151_5.eq_1) := wpH h151_5.eq_1
def h151_6 : HC := (.seq (.block 0 h151_5) h151_0)
@[simp] theorem h151_6_wp : type_of% (@wpH h151_6 _ h151_6.eq_1) := wpH h151_6.eq_1
def h151_7 : HC := (.seq (.reg (.done [(3, (.cst (.int .i64 0)))] none)) h151_6)
@[simp] theorem h151_7_wp : type_of% (@wpH h151_7 _ h151_7.eq_1) := wpH h151_7.eq_1
def h151_8 : HC := (.seq (.reg (.done [(2, (.cst (.slice none 0 0)))] none)) h151_7)
@[simp] theorem h151_8_wp : type_of% (@wpH h151_8 _ h151_8.eq_1) := wpH h151_8.eq_1
def l151 : Lifted := ⟨[0, 2, 3, 4], 20, [.slot 1], (.seq (.reg (.done [(1, (.cst (.string ⟨#[]⟩)))] none)) h151_8)⟩
theorem l151_ok : liftFn F4 151 400 = some l151 := by kernel_rfl
theorem rbytes_spec (n : Nat) (w0 w : World) (A : Asn) (hu : okU n) (s : St w0 A w) :
    CallW Tryz.prog 168 [.int .i64 n] (fun r w' => ∃ b, r = .slice (some ⟨b, 0, none⟩) (encU n).length (encU n).length ∧ St w0 (A * pt b (.cells (bytesV (encU n)).toArray 5 (0, 0))) w') w := by
  have hn : n ≤ 1114111 ∨ (2097152 ≤ n ∧ n < 2097408) := by unfold okU at hu; omega
  have hlen : (encU n).length = (encN n).length := by simp [encU]
  rw [encV n hu, hlen]
  have tm : ∀ x : Int, 0 ≤ x → x.tmod 64 = x % 64 := fun x h => Int.tmod_eq_emod_of_nonneg h
  refine callW_of_lift l168_ok (by simp [l168]) ?_
  simp [l168]
  refine cndI (fun h1 => ?_) (fun h1 => ?_)
  · simp at h1
    have e : encN n = [n - 2097152] := by unfold encN; rw [if_pos (by omega)]
    rw [e]
    simp
    try simp (disch := omega) only [wrap64, wrapu8]
    refine eff_bsl1 s rfl ?_
    intro b w1 s1
    simp
    have : ((n - 2097152 : Nat) : Int) = (n : Int) - 2097152 := by omega
    simpa [this] using s1
  simp at h1
  simp
  refine cndI (fun h2 => ?_) (fun h2 => ?_)
  · simp at h2
    have e : encN n = [n] := by unfold encN; rw [if_neg (by omega), if_pos (by omega)]
    rw [e]
    simp
    try simp (disch := omega) only [wrap64, wrapu8]
    refine eff_bsl1 s rfl ?_
    intro b w1 s1
    simp
    exact s1
  simp at h2
  simp
  refine cndI (fun h3 => ?_) (fun h3 => ?_)
  · simp at h3
    have e : encN n = [192 + n / 64, 128 + n % 64] := by unfold encN; rw [if_neg (by omega), if_neg (by omega), if_pos (by omega)]
    rw [e]
    simp
    try simp (disch := omega) only [wrap64, wrapu8, tm]
    refine eff_bsl2 s rfl rfl ?_
    intro b w1 s1
    simp
    exact s1
  simp at h3
  simp
  refine cndI (fun h4 => ?_) (fun h4 => ?_)
  · simp at h4
    have e : encN n = [224 + n / 4096, 128 + n / 64 % 64, 128 + n % 64] := by unfold encN; rw [if_neg (by omega), if_neg (by omega), if_neg (by omega), if_pos (by omega)]
    rw [e]
    simp
    try simp (disch := omega) only [wrap64, wrapu8, tm]
    refine eff_bsl3 s rfl rfl rfl ?_
    intro b w1 s1
    simp
    exact s1
  simp at h4
  have e : encN n = [240 + n / 262144, 128 + n / 4096 % 64, 128 + n / 64 % 64, 128 + n % 64] := by unfold encN; rw [if_neg (by omega), if_neg (by omega), if_neg (by omega), if_neg (by omega)]
  rw [e]
  simp
  try simp (disch := omega) only [wrap64, wrapu8, tm]
  refine eff_bsl4 s rfl rfl rfl rfl ?_
  intro b w1 s1
  simp
  exact s1
theorem rtext_spec (us : List Int) (v : Value) (w0 w : World) (A : Asn) (hl : us.length ≤ 4194304) (hok : ∀ u ∈ us, okU u) (s : St w0 (A * own 3 1 v us.length (ints us)) w) :
    CallW Tryz.prog 151 [v] (fun r w' => r = .string (mk (encAll us)) ∧ St w0 (A * own 3 1 v us.length (ints us)) w') w := by
  obtain ⟨a1, c1, rfl, hc1, hn1⟩ := s.own_val
  refine callW_of_lift l151_ok (by simp [l151]) ?_
  simp [l151]
  refine loopI (fun env w' => ∃ (i : Nat) (v : Value), env = [.slice a1 us.length c1, .string (mk []), v, .int .i64 i] ∧ i ≤ us.length ∧
      St w0 (A * own 3 1 (.slice a1 us.length c1) us.length (ints us) * own 5 1 v (encAll (us.take i)).length (bytesV (encAll (us.take i)))) w')
    (fun env _ => us.length - slotN env 3) ⟨0, _, rfl, by omega, by simpa [encAll, bytesV] using s.own_nil 5 1⟩ ?_
  rintro LQ env w' ⟨i, v, rfl, hi, s'⟩ hN hE hR
  simp
  refine cndI (fun h => ?_) (fun h => ?_)
  · simp at h
    obtain ⟨g1, c1', e1, _, hcell⟩ := s'.swap.own_at (by omega)
    cases e1
    have hui := hcell i (.int .i64 us[i]) (by simp [ints, h])
    simp
    refine ⟨h, eff_ldc hui ?_⟩
    simp
    have hub := hok us[i] (List.getElem_mem h)
    obtain ⟨m, hm⟩ := Int.eq_ofNat_of_zero_le (show 0 ≤ us[i] by unfold okU at hub; omega)
    rw [hm] at hub
    rw [hm]
    refine eff_call ((rbytes_spec m w0 _ _ hub s').mono ?_)
    rintro r w2 ⟨b, rfl, s2⟩
    have hfl := encAll_len (us.take i)
    rw [List.length_take] at hfl
    have hfu := encU_len (m : Int)
    simp
    refine eff_app (n := (encAll (us.take i)).length) (m := (encU m).length) (news := bytesV (encU m)) s2.swap (by simp [bytesV_len]) s2.cells_look (bytesV_one _) (by decide) rfl (by unfold maxLen; omega) (by omega) ?_
    intro v' w3 s3
    simp
    try simp (disch := omega) only [wrap64]
    refine hN _ _ ⟨i + 1, v', by simp, h, ?_⟩ (by simp [slotN]; omega)
    rw [List.take_succ_eq_append_getElem h, encAll_snoc, hm, bytesV_app, List.length_append]
    exact s3.swap.drop
  · simp at h
    simp
    refine hE _ _ _ ?_
    simp
    have : i = us.length := by omega
    subst this
    rw [List.take_length] at s'
    refine eff_b2s s' ?_
    simp
    exact s'.drop
end Go.HL.Nm

namespace Go.HL.Nm
open Go.HL Go.Proofs
set_option maxRecDepth 4000
set_option linter.unusedSimpArgs false
set_option linter.unusedVariables false
theorem fd (n : Nat) (k : Nat) (h : k ≤ 32) : (n : Int).fdiv (2 ^ min k IntKind.i32.bits) = (n : Int) / 2 ^ k := by
  have : min k IntKind.i32.bits = k := Nat.min_eq_left h
  rw [this, Int.fdiv_eq_ediv_of_nonneg]
  exact Int.le_of_lt (Int.pow_pos (by decide))
theorem fd6 (n : Nat) : (n : Int).fdiv (2 ^ min 6 IntKind.i32.bits) = (n : Int) / 64 := fd n 6 (by decide)
theorem fd12 (n : Nat) : (n : Int).fdiv (2 ^ min 12 IntKind.i32.bits) = (n : Int) / 4096 := fd n 12 (by decide)
theorem fd18 (n : Nat) : (n : Int).fdiv (2 ^ min 18 IntKind.i32.bits) = (n : Int) / 262144 := fd n 18 (by decide)
theorem or192' : ∀ m : Fin 32, IntKind.u8.wrap ((192 % 2 ^ IntKind.u8.bits ||| (((m.val : Nat) : Int) % 2 ^ IntKind.u8.bits).toNat : Nat) : Int) = 192 + ((m.val : Nat) : Int) := by decide +kernel
theorem or224' : ∀ m : Fin 16, IntKind.u8.wrap ((224 % 2 ^ IntKind.u8.bits ||| (((m.val : Nat) : Int) % 2 ^ IntKind.u8.bits).toNat : Nat) : Int) = 224 + ((m.val : Nat) : Int) := by decide +kernel
theorem or240' : ∀ m : Fin 8, IntKind.u8.wrap ((240 % 2 ^ IntKind.u8.bits ||| (((m.val : Nat) : Int) % 2 ^ IntKind.u8.bits).toNat : Nat) : Int) = 240 + ((m.val : Nat) : Int) := by decide +kernel
theorem or128' : ∀ m : Fin 64, IntKind.u8.wrap ((128 % 2 ^ IntKind.u8.bits ||| (((m.val : Nat) : Int) % 2 ^ IntKind.u8.bits).toNat : Nat) : Int) = 128 + ((m.val : Nat) : Int) := by decide +kernel
theorem or192 {x : Int} (h : 0 ≤ x) (h2 : x < 32) : IntKind.u8.wrap ((192 % 2 ^ IntKind.u8.bits ||| (x % 2 ^ IntKind.u8.bits).toNat : Nat) : Int) = 192 + x := by
  obtain ⟨m, rfl⟩ := Int.eq_ofNat_of_zero_le h
  exact or192' ⟨m, by omega⟩
theorem or224 {x : Int} (h : 0 ≤ x) (h2 : x < 16) : IntKind.u8.wrap ((224 % 2 ^ IntKind.u8.bits ||| (x % 2 ^ IntKind.u8.bits).toNat : Nat) : Int) = 224 + x := by
  obtain ⟨m, rfl⟩ := Int.eq_ofNat_of_zero_le h
  exact or224' ⟨m, by omega⟩
theorem or240 {x : Int} (h : 0 ≤ x) (h2 : x < 8) : IntKind.u8.wrap ((240 % 2 ^ IntKind.u8.bits ||| (x % 2 ^ IntKind.u8.bits).toNat : Nat) : Int) = 240 + x := by
  obtain ⟨m, rfl⟩ := Int.eq_ofNat_of_zero_le h
  exact or240' ⟨m, by omega⟩
theorem or128 {x : Int} (h : 0 ≤ x) (h2 : x < 64) : IntKind.u8.wrap ((128 % 2 ^ IntKind.u8.bits ||| (x % 2 ^ IntKind.u8.bits).toNat : Nat) : Int) = 128 + x := by
  obtain ⟨m, rfl⟩ := Int.eq_ofNat_of_zero_le h
  exact or128' ⟨m, by omega⟩
theorem and63 {x : Int} (h : 0 ≤ x) : IntKind.u8.wrap (((IntKind.u8.wrap x % 2 ^ IntKind.u8.bits).toNat &&& 63 % 2 ^ IntKind.u8.bits : Nat) : Int) = x % 64 := by
  have e : (63 % 2 ^ IntKind.u8.bits : Nat) = 2 ^ 6 - 1 := rfl
  rw [e, Nat.and_two_pow_sub_one_eq_mod, IntKind.wrap_u8, IntKind.wrap_u8]
  have e2 : (2 ^ IntKind.u8.bits : Int) = 256 := rfl
  rw [e2]
  omega

def h172_0 : HC := (.seq (.reg (.chk none (.bin .shr) (.cons (.inp 1) (.cons (.cst (.int .u64 6)) .nil)) (.chk none (.convI .u8) (.cons (.op (.bin .shr) (.cons (.inp 1) (.cons (.cst (.int .u64 6)) .nil))) .nil) (.chk none (.bin .or) (.cons (.cst (.int .u8 192)) (.cons (.op (.convI .u8) (.cons (.op (.bin .shr) (.cons (.inp 1) (.cons (.cst (.int .u64 6)) .nil))) .nil)) .nil)) (.chk none (.convI .u8) (.cons (.inp 1) .nil) (.chk none (.bin .and) (.cons (.op (.convI .u8) (.cons (.inp 1) .nil)) (.cons (.cst (.int .u8 63)) .nil)) (.chk none (.bin .or) (.cons (.cst (.int .u8 128)) (.cons (.op (.bin .and) (.cons (.op (.convI .u8) (.cons (.inp 1) .nil)) (.cons (.cst (.int .u8 63)) .nil))) .nil)) (.eff (.bsl 5 2 1 #[(.int .u8 0)] [0, 1]) (.cons (.op (.bin .or) (.cons (.cst (.int .u8 192)) (.cons (.op (.convI .u8) (.cons (.op (.bin .shr) (.cons (.inp 1) (.cons (.cst (.int .u64 6)) .nil))) .nil)) .nil))) (.cons (.op (.bin .or) (.cons (.cst (.int .u8 128)) (.cons (.op (.bin .and) (.cons (.op (.convI .u8) (.cons (.inp 1) .nil)) (.cons (.cst (.int .u8 63)) .nil))) .nil))) .nil)) (.eff (.app 214 214 5 1 1 (.int .u8 0)) (.cons (.inp 0) (.cons (.bv 0) .nil)) (.done [(2, (.bv 1))] none)))))))))) .ret)
@[simp] theorem h172_0_wp : type_of% (@wpH h172_0 _ h172_0.eq_1) := wpH h172_0.eq_1
def h172_1 : HC := (.seq (.reg (.chk none (.bin .shr) (.cons (.inp 1) (.cons (.cst (.int .u64 12)) .nil)) (.chk none (.convI .u8) (.cons (.op (.bin .shr) (.cons (.inp 1) (.cons (.cst (.int .u64 12)) .nil))) .nil) (.chk none (.bin .or) (.cons (.cst (.int .u8 224)) (.cons (.op (.convI .u8) (.cons (.op (.bin .shr) (.cons (.inp 1) (.cons (.cst (.int .u64 12)) .nil))) .nil)) .nil)) (.chk none (.bin .shr) (.cons (.inp 1) (.cons (.cst (.int .u64 6)) .nil)) (.chk none (.convI .u8) (.cons (.op (.bin .shr) (.cons (.inp 1) (.cons (.cst (.int .u64 6)) .nil))) .nil) (.chk none (.bin .and) (.cons (.op (.convI .u8) (.cons (.op (.bin .shr) (.cons (.inp 1) (.cons (.cst (.int .u64 6)) .nil))) .nil)) (.cons (.cst (.int .u8 63)) .nil)) (.chk none (.bin .or) (.cons (.cst (.int .u8 128)) (.cons (.op (.bin .and) (.cons (.op (.convI .u8) (.cons (.op (.bin .shr) (.cons (.inp 1) (.cons (.cst (.int .u64 6)) .nil))) .nil)) (.cons (.cst (.int .u8 63)) .nil))) .nil)) (.chk none (.convI .u8) (.cons (.inp 1) .nil) (.chk none (.bin .and) (.cons (.op (.convI .u8) (.cons (.inp 1) .nil)) (.cons (.cst (.int .u8 63)) .nil)) (.chk none (.bin .or) (.cons (.cst (.int .u8 128)) (.cons (.op (.bin .and) (.cons (.op (.convI .u8) (.cons (.inp 1) .nil)) (.cons (.cst (.int .u8 63)) .nil))) .nil)) (.eff (.bsl 5 3 1 #[(.int .u8 0)] [0, 1, 2]) (.cons (.op (.bin .or) (.cons (.cst (.int .u8 224)) (.cons (.op (.convI .u8) (.cons (.op (.bin .shr) (.cons (.inp 1) (.cons (.cst (.int .u64 12)) .nil))) .nil)) .nil))) (.cons (.op (.bin .or) (.cons (.cst (.int .u8 128)) (.cons (.op (.bin .and) (.cons (.op (.convI .u8) (.cons (.op (.bin .shr) (.cons (.inp 1) (.cons (.cst (.int .u64 6)) .nil))) .nil)) (.cons (.cst (.int .u8 63)) .nil))) .nil))) (.cons (.op (.bin .or) (.cons (.cst (.int .u8 128)) (.cons (.op (.bin .and) (.cons (.op (.convI .u8) (.cons (.inp 1) .nil)) (.cons (.cst (.int .u8 63)) .nil))) .nil))) .nil))) (.eff (.app 214 214 5 1 1 (.int .u8 0)) (.cons (.inp 0) (.cons (.bv 0) .nil)) (.done [(2, (.bv 1))] none)))))))))))))) .ret)
@[simp] theorem h172_1_wp : type_of% (@wpH h172_1 _ h172_1.eq_1) := wpH h172_1.eq_1
def h172_2 : HC := (.seq (.reg (.chk none (.bin .shr) (.cons (.inp 1) (.cons (.cst (.int .u64 18)) .nil)) (.chk none (.convI .u8) (.cons (.op (.bin .shr) (.cons (.inp 1) (.cons (.cst (.int .u64 18)) .nil))) .nil) (.chk none (.bin .or) (.cons (.cst (.int .u8 240)) (.cons (.op (.convI .u8) (.cons (.op (.bin .shr) (.cons (.inp 1) (.cons (.cst (.int .u64 18)) .nil))) .nil)) .nil)) (.chk none (.bin .shr) (.cons (.inp 1) (.cons (.cst (.int .u64 12)) .nil)) (.chk none (.convI .u8) (.cons (.op (.bin .shr) (.cons (.inp 1) (.cons (.cst (.int .u64 12)) .nil))) .nil) (.chk none (.bin .and) (.cons (.op (.convI .u8) (.cons (.op (.bin .shr) (.cons (.inp 1) (.cons (.cst (.int .u64 12)) .nil))) .nil)) (.cons (.cst (.int .u8 63)) .nil)) (.chk none (.bin .or) (.cons (.cst (.int .u8 128)) (.cons (.op (.bin .and) (.cons (.op (.convI .u8) (.cons (.op (.bin .shr) (.cons (.inp 1) (.cons (.cst (.int .u64 12)) .nil))) .nil)) (.cons (.cst (.int .u8 63)) .nil))) .nil)) (.chk none (.bin .shr) (.cons (.inp 1) (.cons (.cst (.int .u64 6)) .nil)) (.chk none (.convI .u8) (.cons (.op (.bin .shr) (.cons (.inp 1) (.cons (.cst (.int .u64 6)) .nil))) .nil) (.chk none (.bin .and) (.cons (.op (.convI .u8) (.cons (.op (.bin .shr) (.cons (.inp 1) (.cons (.cst (.int .u64 6)) .nil))) .nil)) (.cons (.cst (.int .u8 63)) .nil)) (.chk none (.bin .or) (.cons (.cst (.int .u8 128)) (.cons (.op (.bin .and) (.cons (.op (.convI .u8) (.cons (.op (.bin .shr) (.cons (.inp 1) (.cons (.cst (.int .u64 6)) .nil))) .nil)) (.cons (.cst (.int .u8 63)) .nil))) .nil)) (.chk none (.convI .u8) (.cons (.inp 1) .nil) (.chk none (.bin .and) (.cons (.op (.convI .u8) (.cons (.inp 1) .nil)) (.cons (.cst (.int .u8 63)) .nil)) (.chk none (.bin .or) (.cons (.cst (.int .u8 128)) (.cons (.op (.bin .and) (.cons (.op (.convI .u8) (.cons (.inp 1) .nil)) (.cons (.cst (.int .u8 63)) .nil))) .nil)) (.eff (.bsl 5 4 1 #[(.int .u8 0)] [0, 1, 2, 3]) (.cons (.op (.bin .or) (.cons (.cst (.int .u8 240)) (.cons (.op (.convI .u8) (.cons (.op (.bin .shr) (.cons (.inp 1) (.cons (.cst (.int .u64 18)) .nil))) .nil)) .nil))) (.cons (.op (.bin .or) (.cons (.cst (.int .u8 128)) (.cons (.op (.bin .and) (.cons (.op (.convI .u8) (.cons (.op (.bin .shr) (.cons (.inp 1) (.cons (.cst (.int .u64 12)) .nil))) .nil)) (.cons (.cst (.int .u8 63)) .nil))) .nil))) (.cons (.op (.bin .or) (.cons (.cst (.int .u8 128)) (.cons (.op (.bin .and) (.cons (.op (.convI .u8) (.cons (.op (.bin .shr) (.cons (.inp 1) (.cons (.cst (.int .u64 6)) .nil))) .nil)) (.cons (.cst (.int .u8 63)) .nil))) .nil))) (.cons (.op (.bin .or) (.cons (.cst (.int .u8 128)) (.cons (.op (.bin .and) (.cons (.op (.convI .u8) (.cons (.inp 1) .nil)) (.cons (.cst (.int .u8 63)) .nil))) .nil))) .nil)))) (.eff (.app 214 214 5 1 1 (.int .u8 0)) (.cons (.inp 0) (.cons (.bv 0) .nil)) (.done [(2, (.bv 1))] none)))))))))))))))))) .ret)
@[simp] theorem h172_2_wp : type_of% (@wpH h172_2 _ h172_2.eq_1) := wpH h172_2.eq_1
def h172_3 : HC := (.seq (.reg (.eff (.bsl 5 3 1 #[(.int .u8 0)] [0, 1, 2]) (.cons (.cst (.int .u8 239)) (.cons (.cst (.int .u8 191)) (.cons (.cst (.int .u8 189)) .nil))) (.eff (.app 214 214 5 1 1 (.int .u8 0)) (.cons (.inp 0) (.cons (.bv 0) .nil)) (.done [(2, (.bv 1))] none)))) .ret)
@[simp] theorem h172_3_wp : type_of% (@wpH h172_3 _ h172_3.eq_1) := wpH h172_3.eq_1
def h172_4 : HC := (.br (.chk none (.bin .gtr) (.cons (.inp 3) (.cons (.cst (.int .u32 65535)) .nil)) (.bnd (.op (.bin .gtr) (.cons (.inp 3) (.cons (.cst (.int .u32 65535)) .nil))) (.chk (some ((.bv 0), true)) (.bin .leq) (.cons (.inp 3) (.cons (.cst (.int .u32 1114111)) .nil)) (.isb none (.bv 0) (.done [] (some (.ite (.bv 0) true (.op (.bin .leq) (.cons (.inp 3) (.cons (.cst (.int .u32 1114111)) .nil))) (.cst (.bool false))))))))) h172_2 h172_3)
@[simp] theorem h172_4_wp : type_of% (@wpH h172_4 _ h172_4.eq_1) := wpH h172_4.eq_1
def h172_5 : HC := (.cnd 4 h172_1 h172_4)
@[simp] theorem h172_5_wp : type_of% (@wpH h172_5 _ h172_5.eq_1) := wpH h172_5.eq_1
def h172_6 : HC := (.reg (.chk none (.bin .lss) (.cons (.cst (.int .u32 57343)) (.cons (.inp 3) .nil)) (.bnd (.op (.bin .lss) (.cons (.cst (.int .u32 57343)) (.cons (.inp 3) .nil))) (.chk (some ((.bv 0), true)) (.bin .leq) (.cons (.inp 3) (.cons (.cst (.int .u32 65535)) .nil)) (.isb none (.bv 0) (.done [(4, (.ite (.bv 0) true (.op (.bin .leq) (.cons (.inp 3) (.cons (.cst (.int .u32 65535)) .nil))) (.cst (.bool false))))] none))))))
@[simp] theorem h172_6_wp : type_of% (@wpH h172_6 _ h172_6.eq_1) := wpH h172_6.eq_1
def h172_7 : HC := (.seq (.cnd 4 .skip h172_6) h172_5)
@[simp] theorem h172_7_wp : type_of% (@wpH h172_7 _ h172_7.eq_1) := wpH h172_7.eq_1
def h172_8 : HC := (.seq (.reg (.chk none (.bin .lss) (.cons (.inp 3) (.cons (.cst (.int .u32 55296)) .nil)) (.done [(4, (.op (.bin .lss) (.cons (.inp 3) (.cons (.cst (.int .u32 55296)) .nil))))] none))) h172_7)
@[simp] theorem h172_8_wp : type_of% (@wpH h172_8 _ h172_8.eq_1) := wpH h172_8.eq_1
def h172_9 : HC := (.br (.chk none (.bin .leq) (.cons (.inp 3) (.cons (.cst (.int .u32 2047)) .nil)) (.done [] (some (.op (.bin .leq) (.cons (.inp 3) (.cons (.cst (.int .u32 2047)) .nil)))))) h172_0 h172_8)
@[simp] theorem h172_9_wp : type_of% (@wpH h172_9 _ h172_9.eq_1) := wpH h172_9.eq_1
def h172_10 : HC := (.block 0 h172_9)
@[simp] theorem h172_10_wp : type_of% (@wpH h172_10 _ h172_10.eq_1) := wpH h172_10.eq_1
def h172_11 : HC := (.seq (.reg (.chk none (.convI .u32) (.cons (.inp 1) .nil) (.done [(3, (.op (.convI .u32) (.cons (.inp 1) .nil)))] none))) h172_10)
@[simp] theorem h172_11_wp : type_of% (@wpH h172_11 _ h172_11.eq_1) := wpH h172_11.eq_1
def l172 : Lifted := ⟨[0, 1, 4, 5, 25], 78, [.slot 2], (.seq (.reg (.done [(2, (.cst (.slice none 0 0)))] none)) h172_11)⟩
theorem l172_ok : liftFn F4 172 400 = some l172 := by kernel_rfl

def h170_0 : HC := (.seq (.reg (.eff (.call 172) (.cons (.inp 0) (.cons (.inp 1) .nil)) (.done [(2, (.bv 0))] none))) .ret)
@[simp] theorem h170_0_wp : type_of% (@wpH h170_0 _ h170_0.eq_1) := wpH h170_0.eq_1
def h170_1 : HC := (.seq (.reg (.chk none (.convI .u8) (.cons (.inp 1) .nil) (.eff (.bsl 5 1 1 #[(.int .u8 0)] [0]) (.cons (.op (.convI .u8) (.cons (.inp 1) .nil)) .nil) (.eff (.app 214 214 5 1 1 (.int .u8 0)) (.cons (.inp 0) (.cons (.bv 0) .nil)) (.done [(2, (.bv 1))] none))))) .ret)
@[simp] theorem h170_1_wp : type_of% (@wpH h170_1 _ h170_1.eq_1) := wpH h170_1.eq_1
def h170_2 : HC := (.seq (.br (.chk none (.convI .u32) (.cons (.inp 1) .nil) (.chk none (.bin .leq) (.cons (.op (.convI .u32) (.cons (.inp 1) .nil)) (.cons (.cst (.int .u32 127)) .nil)) (.done [] (some (.op (.bin .leq) (.cons (.op (.convI .u32) (.cons (.inp 1) .nil)) (.cons (.cst (.int .u32 127)) .nil))))))) h170_1 .skip) h170_0)
@[simp] theorem h170_2_wp : type_of% (@wpH h170_2 _ h170_2.eq_1) := wpH h170_2.eq_1
def l170 : Lifted := ⟨[0, 1, 4], 16, [.slot 2], (.seq (.reg (.done [(2, (.cst (.slice none 0 0)))] none)) h170_2)⟩
theorem l170_ok : liftFn F4 170 400 = some l170 := by kernel_rfl

def h159_0 : HC := (.seq (.reg (.eff (.call 170) (.cons (.inp 0) (.cons (.inp 1) .nil)) (.done [(2, (.bv 0))] none))) .ret)
@[simp] theorem h159_0_wp : type_of% (@wpH h159_0 _ h159_0.eq_1) := wpH h159_0.eq_1
def h159_1 : HC := (.seq (.reg (.chk none (.bin .sub) (.cons (.inp 1) (.cons (.cst (.int .i32 2097152)) .nil)) (.chk none (.convI .u8) (.cons (.op (.bin .sub) (.cons (.inp 1) (.cons (.cst (.int .i32 2097152)) .nil))) .nil) (.eff (.bsl 5 1 1 #[(.int .u8 0)] [0]) (.cons (.op (.convI .u8) (.cons (.op (.bin .sub) (.cons (.inp 1) (.cons (.cst (.int .i32 2097152)) .nil))) .nil)) .nil) (.eff (.app 214 214 5 1 1 (.int .u8 0)) (.cons (.inp 0) (.cons (.bv 0) .nil)) (.done [(2, (.bv 1))] none)))))) .ret)
@[simp] theorem h159_1_wp : type_of% (@wpH h159_1 _ h159_1.eq_1) := wpH h159_1.eq_1
def h159_2 : HC := (.seq (.br (.chk none (.bin .geq) (.cons (.inp 1) (.cons (.cst (.int .i32 2097152)) .nil)) (.done [] (some (.op (.bin .geq) (.cons (.inp 1) (.cons (.cst (.int .i32 2097152)) .nil)))))) h159_1 .skip) h159_0)
@[simp] theorem h159_2_wp : type_of% (@wpH h159_2 _ h159_2.eq_1) := wpH h159_2.eq_1
def l159 : Lifted := ⟨[0, 1, 4], 16, [.slot 2], (.seq (.reg (.done [(2, (.cst (.slice none 0 0)))] none)) h159_2)⟩
theorem l159_ok : liftFn F4 159 400 = some l159 := by kernel_rfl

def h130_0 : HC := (.seq (.reg (.eff (.b2s 214 9) (.cons (.inp 2) .nil) (.done [(1, (.bv 0))] none))) .ret)
@[simp] theorem h130_0_wp : type_of% (@wpH h130_0 _ h130_0.eq_1) := wpH h130_0.eq_1
def h130_1 : HC := (.reg (.chk none (.bin .add) (.cons (.inp 6) (.cons (.cst (.int .i64 1)) .nil)) (.done [(6, (.op (.bin .add) (.cons (.inp 6) (.cons (.cst (.int .i64 1)) .nil))))] none)))
@[simp] theorem h130_1_wp : type_of% (@wpH h130_1 _ h130_1.eq_1) := wpH h130_1.eq_1
def h130_2 : HC := (.reg (.eff (.call 159) (.cons (.inp 2) (.cons (.inp 3) .nil)) (.done [(2, (.bv 0))] none)))
@[simp] theorem h130_2_wp : type_of% (@wpH h130_2 _ h130_2.eq_1) := wpH h130_2.eq_1
def h130_3 : HC := (.seq (.reg (.chk none (.idxL 1) (.cons (.inp 4) (.cons (.inp 6) .nil)) (.eff (.ld false 1) (.cons (.op (.idxL 1) (.cons (.inp 4) (.cons (.inp 6) .nil))) .nil) (.done [(3, (.bv 0))] none)))) h130_2)
@[simp] theorem h130_3_wp : type_of% (@wpH h130_3 _ h130_3.eq_1) := wpH h130_3.eq_1
def h130_4 : HC := (.seq (.block 1 h130_3) h130_1)
@[simp] theorem h130_4_wp : type_of% (@wpH h130_4 _ h130_4.eq_1) := wpH h130_4.eq_1
def h130_5 : HC := (.seq (.br (.chk none (.bin .lss) (.cons (.inp 6) (.cons (.inp 5) .nil)) (.done [] (some (.op (.bin .lss) (.cons (.inp 6) (.cons (.inp 5) .nil)))))) .skip (.exit 0)) h130_4)
@[simp] theorem h130_5_wp : type_of% (@wpH h130_5 _ h130_5.eq_1) := wpH h130_5.eq_1
def h130_6 : HC := (.loop h130_5)
@[simp] theorem h130_6_wp : type_of% (@wpH h130_6 _ h130_6.eq_1) := wpH h130_6.eq_1
def h130_7 : HC := (.seq (.block 0 h130_6) h130_0)
@[simp] theorem h130_7_wp : type_of% (@wpH h130_7 _ h130_7.eq_1) := wpH h130_7.eq_1
def h130_8 : HC := (.seq (.reg (.chk none .lenL (.cons (.inp 0) .nil) (.done [(4, (.inp 0)), (5, (.op .lenL (.cons (.inp 0) .nil))), (6, (.cst (.int .i64 0)))] none))) h130_7)
@[simp] theorem h130_8_wp : type_of% (@wpH h130_8 _ h130_8.eq_1) := wpH h130_8.eq_1
def h130_9 : HC := (.seq (.reg (.done [(2, (.cst (.slice none 0 0)))] none)) h130_8)
@[simp] theorem h130_9_wp : type_of% (@wpH h130_9 _ h130_9.eq_1) := wpH h130_9.eq_1
def l130 : Lifted := ⟨[0, 2, 3, 5, 6, 7, 8], 18, [.slot 1], (.seq (.reg (.done [(1, (.cst (.string ⟨#[]⟩)))] none)) h130_9)⟩
theorem l130_ok : liftFn F4 130 400 = some l130 := by kernel_rfl
theorem nonascii_spec (n : Nat) (bs : List UInt8) (v : Value) (w0 w : World) (A : Asn) (hl : bs.length ≤ 16777216) (hu : okU n) (h128 : 128 ≤ n) (hbad : n < 2097152) (s : St w0 (A * own 5 1 v bs.length (bytesV bs)) w) :
    CallW Tryz.prog 172 [v, .int .i32 n] (fun r w' => St w0 (A * own 5 1 r (bs.length + (encU n).length) (bytesV (bs ++ encU n))) w') w := by
  have hn : n ≤ 1114111 ∧ ¬ (55296 ≤ n ∧ n < 57344) := by unfold okU at hu; omega
  have hlen : (encU n).length = (encN n).length := by simp [encU]
  rw [bytesV_app, encV n hu, hlen]
  refine callW_of_lift l172_ok (by simp [l172]) ?_
  simp [l172]
  try simp (disch := omega) only [wrapu32]
  refine cndI (fun h1 => ?_) (fun h1 => ?_)
  · simp at h1
    have e : encN n = [192 + n / 64, 128 + n % 64] := by unfold encN; rw [if_neg (by omega), if_neg (by omega), if_pos (by omega)]
    rw [e]
    simp
    try simp (disch := omega) only [fd6, and63, wrapu8, or192, or128]
    refine eff_bsl2 s rfl rfl ?_
    intro b w1 s1
    simp
    refine eff_app (n := bs.length) (m := 2) (news := [.int .u8 (192 + n / 64), .int .u8 (128 + n % 64)]) s1.swap rfl s1.cells_look (by simp [Value.oneCell']) (by decide) rfl (by unfold maxLen; omega) (by omega) ?_
    intro v' w2 s2
    simp
    exact s2.swap.drop
  simp at h1
  simp
  refine cndI (fun h2 => ?_) (fun h2 => ?_)
  · simp at h2
    simp [h2]
    have e : encN n = [224 + n / 4096, 128 + n / 64 % 64, 128 + n % 64] := by unfold encN; rw [if_neg (by omega), if_neg (by omega), if_neg (by omega), if_pos (by omega)]
    rw [e]
    simp
    try simp (disch := omega) only [fd12, fd6, and63, wrapu8, or224, or128]
    refine eff_bsl3 s rfl rfl rfl ?_
    intro b w1 s1
    simp
    refine eff_app (n := bs.length) (m := 3) (news := [.int .u8 (224 + n / 4096), .int .u8 (128 + n / 64 % 64), .int .u8 (128 + n % 64)]) s1.swap rfl s1.cells_look (by simp [Value.oneCell']) (by decide) rfl (by unfold maxLen; omega) (by omega) ?_
    intro v' w2 s2
    simp
    exact s2.swap.drop
  simp at h2
  have h2' : ¬ (n : Int) < 55296 := by omega
  have h57 : (57343 : Int) < n := by omega
  simp [h57]
  refine cndI (fun h3 => ?_) (fun h3 => ?_)
  · simp at h3
    have e : encN n = [224 + n / 4096, 128 + n / 64 % 64, 128 + n % 64] := by unfold encN; rw [if_neg (by omega), if_neg (by omega), if_neg (by omega), if_pos (by omega)]
    rw [e]
    simp
    try simp (disch := omega) only [fd12, fd6, and63, wrapu8, or224, or128]
    refine eff_bsl3 s rfl rfl rfl ?_
    intro b w1 s1
    simp
    refine eff_app (n := bs.length) (m := 3) (news := [.int .u8 (224 + n / 4096), .int .u8 (128 + n / 64 % 64), .int .u8 (128 + n % 64)]) s1.swap rfl s1.cells_look (by simp [Value.oneCell']) (by decide) rfl (by unfold maxLen; omega) (by omega) ?_
    intro v' w2 s2
    simp
    exact s2.swap.drop
  simp at h3
  have h4 : (65535 : Int) < n := by omega
  have h5 : (n : Int) ≤ 1114111 := by omega
  have e : encN n = [240 + n / 262144, 128 + n / 4096 % 64, 128 + n / 64 % 64, 128 + n % 64] := by unfold encN; rw [if_neg (by omega), if_neg (by omega), if_neg (by omega), if_neg (by omega)]
  rw [e]
  simp [h4, h5]
  try simp (disch := omega) only [fd18, fd12, fd6, and63, wrapu8, or240, or128]
  refine eff_bsl4 s rfl rfl rfl rfl ?_
  intro b w1 s1
  simp
  refine eff_app (n := bs.length) (m := 4) (news := [.int .u8 (240 + n / 262144), .int .u8 (128 + n / 4096 % 64), .int .u8 (128 + n / 64 % 64), .int .u8 (128 + n % 64)]) s1.swap rfl s1.cells_look (by simp [Value.oneCell']) (by decide) rfl (by unfold maxLen; omega) (by omega) ?_
  intro v' w2 s2
  simp
  exact s2.swap.drop
theorem apprune_spec (n : Nat) (bs : List UInt8) (v : Value) (w0 w : World) (A : Asn) (hl : bs.length ≤ 16777216) (hu : okU n) (hbad : n < 2097152) (s : St w0 (A * own 5 1 v bs.length (bytesV bs)) w) :
    CallW Tryz.prog 170 [v, .int .i32 n] (fun r w' => St w0 (A * own 5 1 r (bs.length + (encU n).length) (bytesV (bs ++ encU n))) w') w := by
  refine callW_of_lift l170_ok (by simp [l170]) ?_
  simp [l170]
  try simp (disch := omega) only [wrapu32]
  refine cndI (fun h1 => ?_) (fun h1 => ?_)
  · simp at h1
    have e : encN n = [n] := by unfold encN; rw [if_neg (by omega), if_pos (by omega)]
    have hlen : (encU n).length = 1 := by simp [encU, e]
    rw [bytesV_app, encV n hu, hlen, e]
    simp
    try simp (disch := omega) only [wrapu8]
    refine eff_bsl1 s rfl ?_
    intro b w1 s1
    simp
    refine eff_app (n := bs.length) (m := 1) (news := [.int .u8 n]) s1.swap rfl s1.cells_look (by simp [Value.oneCell']) (by decide) rfl (by unfold maxLen; omega) (by omega) ?_
    intro v' w2 s2
    simp
    exact s2.swap.drop
  simp at h1
  simp
  refine eff_call ((nonascii_spec n bs v w0 w A hl hu (by omega) hbad s).mono ?_)
  intro r w2 s2
  simp
  exact s2
theorem put_spec (n : Nat) (bs : List UInt8) (v : Value) (w0 w : World) (A : Asn) (hl : bs.length ≤ 16777216) (hu : okU n) (s : St w0 (A * own 5 1 v bs.length (bytesV bs)) w) :
    CallW Tryz.prog 159 [v, .int .i32 n] (fun r w' => St w0 (A * own 5 1 r (bs.length + (encU n).length) (bytesV (bs ++ encU n))) w') w := by
  refine callW_of_lift l159_ok (by simp [l159]) ?_
  simp [l159]
  refine cndI (fun h1 => ?_) (fun h1 => ?_)
  · simp at h1
    have hn : n < 2097408 := by unfold okU at hu; omega
    have e : encN n = [n - 2097152] := by unfold encN; rw [if_pos (by omega)]
    have hlen : (encU n).length = 1 := by simp [encU, e]
    have hsub : ((n - 2097152 : Nat) : Int) = (n : Int) - 2097152 := by omega
    rw [bytesV_app, encV n hu, hlen, e]
    simp
    try simp (disch := omega) only [wrapu8, wrap32]
    refine eff_bsl1 s rfl ?_
    intro b w1 s1
    simp
    refine eff_app (n := bs.length) (m := 1) (news := [.int .u8 (n - 2097152)]) s1.swap rfl s1.cells_look (by simp [Value.oneCell']) (by decide) rfl (by unfold maxLen; omega) (by omega) ?_
    intro v' w2 s2
    simp
    rw [hsub]
    exact s2.swap.drop
  simp at h1
  simp
  refine eff_call ((apprune_spec n bs v w0 w A hl hu (by omega) s).mono ?_)
  intro r w2 s2
  simp
  exact s2
theorem text_spec (us : List Int) (v : Value) (w0 w : World) (A : Asn) (hl : us.length ≤ 4194304) (hok : ∀ u ∈ us, okU u) (s : St w0 (A * own 21 1 v us.length (ints32 us)) w) :
    CallW Tryz.prog 130 [v] (fun r w' => r = .string (mk (encAll us)) ∧ St w0 (A * own 21 1 v us.length (ints32 us)) w') w := by
  obtain ⟨a1, c1, rfl, hc1, hn1⟩ := s.own_val
  refine callW_of_lift l130_ok (by simp [l130]) ?_
  simp [l130]
  refine loopI (fun env w' => ∃ (i : Nat) (v x : Value), env = [.slice a1 us.length c1, .string (mk []), v, x, .slice a1 us.length c1, .int .i64 us.length, .int .i64 i] ∧ i ≤ us.length ∧
      St w0 (A * own 21 1 (.slice a1 us.length c1) us.length (ints32 us) * own 5 1 v (encAll (us.take i)).length (bytesV (encAll (us.take i)))) w')
    (fun env _ => us.length - slotN env 6) ⟨0, _, _, rfl, by omega, by simpa [encAll, bytesV] using s.own_nil 5 1⟩ ?_
  rintro LQ env w' ⟨i, v, x, rfl, hi, s'⟩ hN hE hR
  simp
  refine cndI (fun h => ?_) (fun h => ?_)
  · simp at h
    obtain ⟨g1, c1', e1, _, hcell⟩ := s'.swap.own_at (by omega)
    cases e1
    have hui := hcell i (.int .i32 us[i]) (by simp [ints32, h])
    simp
    refine ⟨h, eff_ldc hui ?_⟩
    simp
    have hub := hok us[i] (List.getElem_mem h)
    obtain ⟨m, hm⟩ := Int.eq_ofNat_of_zero_le (show 0 ≤ us[i] by unfold okU at hub; omega)
    rw [hm] at hub
    rw [hm]
    have hfl := encAll_len (us.take i)
    rw [List.length_take] at hfl
    refine eff_call ((put_spec m _ v w0 _ _ (by omega) hub s').mono ?_)
    intro r w2 s2
    simp
    try simp (disch := omega) only [wrap64]
    refine hN _ _ ⟨i + 1, r, _, by simp; rfl, h, ?_⟩ (by simp [slotN]; omega)
    rw [List.take_succ_eq_append_getElem h, encAll_snoc, hm, List.length_append]
    exact s2
  · simp at h
    simp
    refine hE _ _ _ ?_
    simp
    have : i = us.length := by omega
    subst this
    rw [List.take_length] at s'
    refine eff_b2s s' ?_
    simp
    exact s'.drop
end Go.HL.Nm

namespace Go.HL.Nm
open Go.HL Go.Proofs
set_option maxRecDepth 4000
set_option linter.unusedSimpArgs false
set_option linter.unusedVariables false
def likeL : List UInt8 := [48, 206, 191, 208, 190, 49, 206, 177, 208, 176, 209, 129, 208, 181, 209, 145, 206, 185, 206, 186, 208, 186, 207, 129, 209, 128, 207, 132, 209, 130, 207, 133, 206, 189, 207, 135, 209, 133, 206, 179, 209, 131, 32, 95]
def lookL : List UInt8 := [111, 111, 111, 108, 97, 97, 99, 101, 101, 105, 107, 107, 112, 112, 116, 116, 117, 118, 120, 120, 121, 121, 45, 45]
def tabL : List UInt8 := [97, 97, 97, 97, 97, 97, 230, 99, 101, 101, 101, 101, 105, 105, 105, 105, 240, 110, 111, 111, 111, 111, 111, 247, 111, 117, 117, 117, 117, 121, 254, 121]
def likeU : List (Int × Nat) := [(48, 1), (959, 2), (1086, 2), (49, 1), (945, 2), (1072, 2), (1089, 2), (1077, 2), (1105, 2), (953, 2), (954, 2), (1082, 2), (961, 2), (1088, 2), (964, 2), (1090, 2), (965, 2), (957, 2), (967, 2), (1093, 2), (947, 2), (1091, 2), (32, 1), (95, 1)]
end Go.HL.Nm

namespace Go.HL.Nm
open Go.HL Go.Proofs
set_option maxRecDepth 4000
set_option linter.unusedSimpArgs false
set_option linter.unusedVariables false
theorem chkF_ok (b : Int) (r : List UInt8) (v : Int) (n : Nat) (least : Int) (hb : 0 ≤ b ∧ b < 256) (hv : 0 ≤ v) : okU (chkF b r v n least).1 := by
  unfold chkF okU
  split
  · rename_i u hu
    have := tailF_bd n r v u hv hu
    split
    · simp only; omega
    · simp only; omega
  · simp only; omega
theorem oneF_okU {l : List UInt8} (h : l ≠ []) : okU (oneF l).1 := by
  cases l with
  | nil => exact absurd rfl h
  | cons c r =>
    have hc := c.toNat_lt
    rw [oneF_cons]
    split
    · unfold okU; simp only; omega
    split
    · exact chkF_ok c.toNat r (c.toNat - 192) 1 128 (by omega) (by omega)
    split
    · exact chkF_ok c.toNat r (c.toNat - 224) 2 2048 (by omega) (by omega)
    split
    · exact chkF_ok c.toNat r (c.toNat - 240) 3 65536 (by omega) (by omega)
    · unfold okU; simp only; omega
theorem okU_foldF {u : Int} (h : okU u) : okU (foldF u) := by unfold okU at h ⊢; unfold foldF; repeat' split
                                                              all_goals omega
def pairF : List Int → List Int
  | 114 :: 110 :: r => 109 :: pairF r
  | 118 :: 118 :: r => 119 :: pairF r
  | u :: r => u :: pairF r
  | [] => []
def lookF (l : List UInt8) : List Int := pairF ((foldedF l).map looksF)
theorem units_ok : ∀ (n : Nat) (l : List UInt8), l.length ≤ n → ∀ u ∈ units l, okU u.1
  | 0, l, h => by
    have : l = [] := List.eq_nil_of_length_eq_zero (by omega)
    subst this
    simp [units_nil]
  | n + 1, l, h => by
    by_cases he : l = []
    · subst he; simp [units_nil]
    · have hb := oneF_bd he
      rw [units_cons he]
      intro u hu
      rcases List.mem_cons.1 hu with rfl | hu
      · exact oneF_okU he
      · exact units_ok n _ (by simp; omega) u hu
theorem folded_ok (l : List UInt8) : ∀ u ∈ foldedF l, okU u := by
  intro u hu
  simp only [foldedF, foldAll, List.mem_flatMap] at hu
  obtain ⟨x, hx, hu⟩ := hu
  have hk := units_ok _ l (Nat.le_refl _) x hx
  unfold foldU at hu
  split at hu
  · have : u = 115 := by simpa using hu
    subst this
    exact .inl (by omega)
  · have : u = foldF x.1 := by simpa using hu
    subst this
    exact okU_foldF hk
theorem folded_len (l : List UInt8) : (foldedF l).length ≤ 2 * l.length := by
  have h1 := foldAll_len (units l)
  have h2 := units_len l
  unfold foldedF
  omega

def h120_0 : HC := (.seq (.reg (.eff (.call 152) (.cons (.inp 0) .nil) (.eff (.call 151) (.cons (.bv 0) .nil) (.done [(1, (.bv 1))] none)))) .ret)
@[simp] theorem h120_0_wp : type_of% (@wpH h120_0 _ h120_0.eq_1) := wpH h120_0.eq_1
def l120 : Lifted := ⟨[0, 2], 6, [.slot 1], (.seq (.reg (.done [(1, (.cst (.string ⟨#[]⟩)))] none)) h120_0)⟩
theorem l120_ok : liftFn F4 120 400 = some l120 := by kernel_rfl

def h104_0 : HC := (.seq (.reg (.eff (.call 131) (.cons (.inp 0) .nil) (.eff (.call 130) (.cons (.bv 0) .nil) (.done [(1, (.bv 1))] none)))) .ret)
@[simp] theorem h104_0_wp : type_of% (@wpH h104_0 _ h104_0.eq_1) := wpH h104_0.eq_1
def l104 : Lifted := ⟨[0, 2], 6, [.slot 1], (.seq (.reg (.done [(1, (.cst (.string ⟨#[]⟩)))] none)) h104_0)⟩
theorem l104_ok : liftFn F4 104 400 = some l104 := by kernel_rfl
theorem rFold_spec (l : List UInt8) (w0 w : World) (A : Asn) (hl : l.length ≤ 1048576) (s : St w0 A w) :
    CallW Tryz.prog 120 [.string (mk l)] (fun r w' => r = .string (mk (encAll (foldedF l))) ∧ St w0 A w') w := by
  have hfl := folded_len l
  refine callW_of_lift l120_ok (by simp [l120]) ?_
  simp [l120]
  refine eff_call ((rfolded_spec l w0 w A hl s).mono ?_)
  intro v w1 s1
  simp
  refine eff_call ((rtext_spec _ v w0 w1 A (by omega) (folded_ok l) s1).mono ?_)
  rintro r w2 ⟨rfl, s2⟩
  simp
  exact s2.drop
theorem Fold_spec (l : List UInt8) (w0 w : World) (A : Asn) (hl : l.length ≤ 1048576) (s : St w0 A w) :
    CallW Tryz.prog 104 [.string (mk l)] (fun r w' => r = .string (mk (encAll (foldedF l))) ∧ St w0 A w') w := by
  have hfl := folded_len l
  refine callW_of_lift l104_ok (by simp [l104]) ?_
  simp [l104]
  refine eff_call ((folded_spec l w0 w A hl s).mono ?_)
  intro v w1 s1
  simp
  refine eff_call ((text_spec _ v w0 w1 A (by omega) (folded_ok l) s1).mono ?_)
  rintro r w2 ⟨rfl, s2⟩
  simp
  exact s2.drop
end Go.HL.Nm

namespace Go.HL.Nm
open Go.HL Go.Proofs
set_option maxRecDepth 4000
set_option linter.unusedSimpArgs false
set_option linter.unusedVariables false
def half (f : Int → Int) : Nat → List Int → List Int
  | _, [] => []
  | 0, a :: l => a :: l
  | i + 1, a :: l => f a :: half f i l
end Go.HL.Nm

namespace Go.HL.Nm
open Go.HL Go.Proofs
set_option maxRecDepth 4000
set_option linter.unusedSimpArgs false
set_option linter.unusedVariables false
def View (w0 : World) (A : Asn) (k : IntKind) (v : Value) (xs : List Int) : Prop :=
  ∃ a cap, v = .slice a xs.length cap ∧ xs.length ≤ cap ∧ (0 < xs.length → ∃ g o, a = some ⟨g, o, none⟩ ∧ ∀ w, St w0 A w → ∀ j u, xs[j]? = some u → w.cell? ⟨g, o + j, none⟩ = some (.int k u))
end Go.HL.Nm

namespace Go.HL
set_option maxRecDepth 4000
set_option linter.unusedSimpArgs false
set_option linter.unusedVariables false
section
variable {P : Program} {F0 : PF P} {F : Asn} {K : Value → World → Prop} {w w0 : World}
def entF : List (List UInt8) → Nat → List MapEntry
  | [], _ => []
  | x :: r, i => ⟨.string (mk x), .int .i64 (i : Int), i⟩ :: entF r (i + 1)
def mapE (ks : List (List UInt8)) : Array MapEntry := (entF ks 0).toArray
def lookK (k : List UInt8) : List (List UInt8) → Nat → Option Nat
  | [], _ => none
  | x :: r, i => if k = x then some i else lookK k r (i + 1)
theorem entF_snoc (k : List UInt8) : ∀ (ks : List (List UInt8)) (i : Nat), entF (ks ++ [k]) i = entF ks i ++ [⟨.string (mk k), .int .i64 ((i + ks.length : Nat) : Int), i + ks.length⟩]
  | [], i => by simp [entF]
  | x :: r, i => by
    simp only [List.cons_append, entF, entF_snoc k r (i + 1), List.length_cons]
    have : i + 1 + r.length = i + (r.length + 1) := by omega
    rw [this]
theorem mapE_snoc (k : List UInt8) (ks : List (List UInt8)) : (mapE ks).push ⟨.string (mk k), .int .i64 (ks.length : Int), ks.length⟩ = mapE (ks ++ [k]) := by
  apply Array.ext'
  simp [mapE, entF_snoc]
theorem mk_inj {a b : List UInt8} (h : mk a = mk b) : a = b := by
  have h2 : (mk a).data.toList = (mk b).data.toList := by rw [h]
  exact h2
theorem mk_eq_iff (a b : List UInt8) : (mk a == mk b) = decide (a = b) := by
  rw [Bool.eq_iff_iff, MapKept.bytes_beq]
  exact ⟨fun h => decide_eq_true (mk_inj h), fun h => by rw [of_decide_eq_true h]⟩
theorem find_keys (k : List UInt8) : ∀ (ks : List (List UInt8)) (i j : Nat), Instr.findNow .string (.string (mk k)) (entF ks j) i = some ((lookK k ks j).map fun n => (i + (n - j), .int .i64 (n : Int)))
  | [], _, _ => rfl
  | x :: r, i, j => by
    simp only [entF, Instr.findNow, Instr.sameNow, mk_eq_iff, lookK]
    by_cases h : k = x
    · simp [h]
    · simp only [h, decide_false, if_false]
      rw [find_keys k r (i + 1) (j + 1)]
      cases hl : lookK k r (j + 1) with
      | none => rfl
      | some n =>
        have : j + 1 ≤ n := by
          have key : ∀ (l : List (List UInt8)) (j n : Nat), lookK k l j = some n → j ≤ n := by
            intro l
            induction l with
            | nil => intro j n h; cases h
            | cons y t ih =>
              intro j n h
              simp only [lookK] at h
              split at h
              · cases h; exact Nat.le_refl _
              · have := ih _ _ h; omega
          exact key r _ _ hl
        simp only [Option.map_some, Option.some.injEq, Prod.mk.injEq, and_true]
        omega
theorem eff_mkm {t : TypeId} (s : St w0 F w) (hk : ∀ b w', St w0 (F * pt b (.map (mapE []) 0)) w' → K (.map (some b)) w') : EffW P (.mkm t false) [] K w := by
  intro _
  refine upon_val (s := Instr.makeMap t none) (v := .map (some w.heap.size)) (w' := w.alloc (.map (mapE []) 0)) ?_ (hk _ _ (s.alloc trivial))
  simp [Instr.makeMap, newObj, Sem.run, mapE, entF, Sem.bind]
def askN (k : List UInt8) (ks : List (List UInt8)) : Int := ((lookK k ks 0).getD 0 : Nat)
def askB (k : List UInt8) (ks : List (List UInt8)) : Bool := (lookK k ks 0).isSome
abbrev askK (k : List UInt8) (ks : List (List UInt8)) : Value := .tuple #[.int .i64 (askN k ks), .bool (askB k ks)]
structure MapT (P : Program) (t kt ke : TypeId) : Prop where
  ty : P.underlying t = some (.map kt ke)
  key : P.underlying kt = some .string
  zero : (P.info? ke).bind (·.zero) = some (.int .i64 0)
theorem look_run {t kt ke : TypeId} (T : MapT P t kt ke) {m : Nat} {ks : List (List UInt8)} {c : Nat} (hb : w.heap[m]? = some (.map (mapE ks) c)) (k : List UInt8) :
    (Instr.lookup t (.map (some m)) (.string (mk k)) true).run P w = .ok (askK k ks) w := by
  obtain ⟨i, hi, hz⟩ := Option.bind_eq_some_iff.1 T.zero
  have hf := find_keys k ks 0 0
  have he : (mapE ks).toList = entF ks 0 := by simp [mapE]
  have hck := fun e => MapKept.run_checkKey (P := P) (w := w) T.key (show MapKept.IsKey .string (.string (mk k)) from trivial) e 9999
  have hfk := MapKept.run_findKey (P := P) (w := w) T.key hf
  rw [← he] at hfk
  simp only [Instr.lookup, Sem.run_bind, run_underlying T.ty, MapKept.run_getObj_map hb, Result.andThen_ok, Sem.run_pure, hck, hfk]
  unfold askK askN askB
  cases hl : lookK k ks 0 with
  | none => simp [zeroValue, typeInfo, hi, hz]
  | some n => simp
theorem effm_look {C : List Value → World → Prop} {q : Nat → List Value → Value} {n : Nat} {vs : List Value} {t kt ke : TypeId} (T : MapT P t kt ke) {m : Nat} {ks : List (List UInt8)} {c : Nat} {k : List UInt8} {K : Value → List Value → Prop}
    (hb : ∀ vs' w, era n vs' = era n vs → C vs' w → w.heap[m]? = some (.map (mapE ks) c)) (hk : K (askK k ks) vs) : EffM F0 C q n (.look t true) [.map (some m), .string (mk k)] vs K :=
  effm_val (s := Instr.lookup t (.map (some m)) (.string (mk k)) true) rfl (fun vs' w he hw => look_run T (hb vs' w he hw) k) hk
theorem eff_upd {t kt ke : TypeId} (T : MapT P t kt ke) {m : Nat} {ks : List (List UInt8)} {k : List UInt8} (s : St w0 (F * pt m (.map (mapE ks) ks.length)) w) (hn : lookK k ks 0 = none)
    (hk : ∀ w', St w0 (F * pt m (.map (mapE (ks ++ [k])) (ks ++ [k]).length)) w' → K undef w') : EffW P (.upd t) [.map (some m), .string (mk k), .int .i64 (ks.length : Int)] K w := by
  have hb := s.look
  have hf := find_keys k ks 0 0
  rw [hn] at hf
  have he : (mapE ks).toList = entF ks 0 := by simp [mapE]
  have hck := fun e => MapKept.run_checkKey (P := P) (w := w) T.key (show MapKept.IsKey .string (.string (mk k)) from trivial) e 9999
  have hfk := MapKept.run_findKey (P := P) (w := w) T.key hf
  rw [← he] at hfk
  have hs := MapKept.heap_set (o' := .map (mapE (ks ++ [k])) (ks ++ [k]).length) hb
  intro _
  refine upon_unit (s := Instr.mapUpdate t (.map (some m)) (.string (mk k)) (.int .i64 (ks.length : Int))) (w' := { w with heap := w.heap.setIfInBounds m (.map (mapE (ks ++ [k])) (ks ++ [k]).length) }) ?_ (hk _ (s.turn (o' := .map (mapE (ks ++ [k])) (ks ++ [k]).length) hs.1 hs.2 (by simp) rfl rfl (fun _ _ _ h => by cases h)))
  simp only [Instr.mapUpdate, Sem.run_bind, run_underlying T.ty, MapKept.run_getObj_map hb, Result.andThen_ok, hck, hfk, Option.map_none, mapE_snoc]
  rw [MapKept.run_setObj_map _ hb]
  simp
theorem eff_tas {xt t : TypeId} {v : Value} {d : TypeDesc} (hu : P.underlying t = some d) (hd : ∀ ms, d ≠ .interface ms) (hk : K v w) : EffW P (.tas xt t false) [.iface t v] K w := by
  intro _
  refine upon_val (s := Instr.typeAssert (.iface t v) xt t false) (v := v) (w' := w) ?_ hk
  simp only [Instr.typeAssert, Sem.run_bind, run_underlying hu, Result.andThen_ok]
  cases d <;> simp_all
end
end Go.HL

namespace Go.HL
set_option maxRecDepth 4000
set_option linter.unusedSimpArgs false
set_option linter.unusedVariables false
section
variable {P : Program}
inductive PV where
  | int (k : IntKind) (a : Int)
  | str (b : List UInt8)
  | bool (b : Bool)
deriving DecidableEq
inductive PK where
  | int (k : IntKind)
  | str
  | bool
deriving DecidableEq
def PV.val : PV → Value
  | .int k a => .int k a
  | .str b => .string (mk b)
  | .bool b => .bool b
def PV.kind : PV → PK
  | .int k _ => .int k
  | .str _ => .str
  | .bool _ => .bool
def PK.of : PK → TypeDesc → Bool
  | .int _, .int _ => true
  | .str, .string => true
  | .bool, .bool => true
  | _, _ => false
def primFields (P : Program) : List Field → List PK → Nat → Bool
  | [], [], _ => true
  | f :: fs, k :: ks, o => (f.name != "_") && (f.offset == o) && (match P.underlying f.type with | some d => k.of d | none => false) && primFields P fs ks (o + 1)
  | _, _, _ => false
def holdsP (xs : Array Value) (o : Nat) (as_ : List PV) : Prop := ∀ j u, as_[j]? = some u → xs[o + j]? = some u.val
theorem holdsP_tail {xs : Array Value} {o : Nat} {a : PV} {as_ : List PV} (h : holdsP xs o (a :: as_)) : holdsP xs (o + 1) as_ := by
  intro j u hu
  have := h (j + 1) u (by simpa using hu)
  rw [Nat.add_assoc, Nat.add_comm 1]
  exact this
theorem holdsP_list (as_ : List PV) : holdsP (as_.map PV.val).toArray 0 as_ := by
  intro j u hu
  simp [hu]
theorem part_prim {t : TypeId} {d : TypeDesc} {a : PV} {xs : Array Value} {o : Nat} (ht : P.underlying t = some d) (hk : a.kind.of d = true) (h : xs[o]? = some a.val) (w : World) : (part t xs o).run P w = .ok a.val w := by
  simp only [part, Sem.run_bind, isAgg_run ht, Result.andThen_ok]
  have : isAggD d = false := by
    cases a <;> cases d <;> first | rfl | (simp [PV.kind, PK.of] at hk)
  rw [this]
  simp [h]
theorem equal_prim {t : TypeId} {d : TypeDesc} {a b : PV} (ht : P.underlying t = some d) (hk : a.kind.of d = true) (hab : a.kind = b.kind) (n : Nat) (w : World) : (Op.equalIn (n + 1) t a.val b.val).run P w = .ok (decide (a = b)) w := by
  simp only [Op.equalIn, Sem.run_bind, und_run ht, Result.andThen_ok]
  cases a <;> cases b <;> simp only [PV.kind, PK.int.injEq, reduceCtorEq] at hab
  · subst hab
    cases d <;> simp [PV.kind, PK.of] at hk
    simp [PV.val]
    rw [Bool.eq_iff_iff]; simp
  · cases d <;> simp [PV.kind, PK.of] at hk
    simp only [PV.val, Sem.run_pure, mk_eq_iff, PV.str.injEq]
  · cases d <;> simp [PV.kind, PK.of] at hk
    simp [PV.val]
    rw [Bool.eq_iff_iff]; simp
theorem eqFields_prims (d : Nat) (w : World) (xs ys : Array Value) : ∀ (as_ bs : List PV) (fs : List Field) (o : Nat), primFields P fs (as_.map PV.kind) o = true → as_.map PV.kind = bs.map PV.kind → holdsP xs o as_ → holdsP ys o bs →
    (Op.eqFields (d + 1) xs ys fs).run P w = .ok (decide (as_ = bs)) w
  | [], [], [], o, _, _, _, _ => by simp [Op.eqFields]
  | a :: as_, b :: bs, f :: fs, o, h, hk, h1, h2 => by
    simp only [List.map_cons, primFields, Bool.and_eq_true, bne_iff_ne, beq_iff_eq] at h
    obtain ⟨⟨⟨hn, ho⟩, ht⟩, hr⟩ := h
    simp only [List.map_cons, List.cons.injEq] at hk
    have ih := eqFields_prims d w xs ys as_ bs fs (o + 1) hr hk.2 (holdsP_tail h1) (holdsP_tail h2)
    split at ht
    · rename_i k hku
      have p1 := part_prim (P := P) hku ht (h1 0 a rfl) w
      have p2 := part_prim (P := P) hku (hk.1 ▸ ht) (h2 0 b rfl) w
      rw [Nat.add_zero] at p1 p2
      simp only [Op.eqFields, ne_eq, hn, not_false_eq_true, if_true, ho, Sem.run_bind, p1, p2, Result.andThen_ok, equal_prim hku ht hk.1]
      by_cases e : a = b
      · simp [e, ih]
      · simp [e]
    · cases ht
  | [], _ :: _, _, _, _, hk, _, _ => by simp at hk
  | _ :: _, [], _, _, _, hk, _, _ => by simp at hk
  | [], [], _ :: _, _, h, _, _, _ => by simp [primFields] at h
  | _ :: _, _ :: _, [], _, h, _, _, _ => by simp [primFields] at h
structure PrimStruct (P : Program) (t : TypeId) (ks : List PK) : Prop where
  und : P.underlying t = some (.struct (P.fieldsOf t))
  stood : P.stoodInHeld t = false
  guard : P.eqGuardType P.depth t = false
  prims : primFields P (P.fieldsOf t).toList ks 0 = true
theorem primEq_run {t : TypeId} {ks : List PK} (T : PrimStruct P t ks) (neg : Bool) (x y : Operand) (xs ys : Array Value) (as_ bs : List PV) (l1 : as_.map PV.kind = ks) (l2 : bs.map PV.kind = ks) (h1 : holdsP xs 0 as_) (h2 : holdsP ys 0 bs) (w : World) :
    (do eqGuard (if neg then .neq else .eql) t x y (.agg xs) (.agg ys); binOp (if neg then .neq else .eql) t (.agg xs) (.agg ys) : Sem Value).run P w = .ok (.bool (if neg then !(decide (as_ = bs)) else decide (as_ = bs))) w := by
  have hg : ∀ op, (eqGuard op t x y (.agg xs) (.agg ys)).run P w = .ok () w := by
    intro op
    unfold eqGuard
    cases op <;> simp [T.guard]
  have he : (Op.equal t (.agg xs) (.agg ys)).run P w = .ok (decide (as_ = bs)) w := by
    rw [equal_succ, run_equalIn_struct w 9999 t xs ys T.und T.stood]
    exact eqFields_prims 9998 w xs ys as_ bs _ 0 (by rw [l1]; exact T.prims) (by rw [l1, l2]) h1 h2
  cases neg
  · show (do eqGuard .eql t x y (.agg xs) (.agg ys); (do pure (.bool (← Op.equal t (.agg xs) (.agg ys)))) : Sem Value).run P w = _
    simp only [Sem.run_bind, hg, Result.andThen_ok, he, Sem.run_pure]; rfl
  · show (do eqGuard .neq t x y (.agg xs) (.agg ys); (do pure (.bool (!(← Op.equal t (.agg xs) (.agg ys))))) : Sem Value).run P w = _
    simp only [Sem.run_bind, hg, Result.andThen_ok, he, Sem.run_pure]; rfl
variable {K : Value → World → Prop} {w w0 : World} {A : Asn} {C : World → Prop}
theorem eff_eqP {t : TypeId} {ks : List PK} (T : PrimStruct P t ks) {neg : Bool} {x y : Operand} (as_ bs : List PV) (l1 : as_.map PV.kind = ks) (l2 : bs.map PV.kind = ks) (hk : K (.bool (if neg then !(decide (as_ = bs)) else decide (as_ = bs))) w) :
    EffW P (.bin (if neg then .neq else .eql) t x y) [.agg (as_.map PV.val).toArray, .agg (bs.map PV.val).toArray] K w := by
  intro _
  exact upon_val (primEq_run T neg x y _ _ as_ bs l1 l2 (holdsP_list as_) (holdsP_list bs) w) hk
theorem eff_eqlP {t : TypeId} {ks : List PK} (T : PrimStruct P t ks) {x y : Operand} (as_ bs : List PV) (l1 : as_.map PV.kind = ks) (l2 : bs.map PV.kind = ks) (hk : K (.bool (decide (as_ = bs))) w) :
    EffW P (.bin .eql t x y) [.agg (as_.map PV.val).toArray, .agg (bs.map PV.val).toArray] K w := eff_eqP (neg := false) T as_ bs l1 l2 hk
theorem effq_neqP {t : TypeId} {ks : List PK} (T : PrimStruct P t ks) {x y : Operand} (as_ bs : List PV) (l1 : as_.map PV.kind = ks) (l2 : bs.map PV.kind = ks) {K : Value → Prop} (hk : K (.bool (!decide (as_ = bs)))) :
    EffQ P C (.bin .neq t x y) [.agg (as_.map PV.val).toArray, .agg (bs.map PV.val).toArray] K :=
  ⟨_, fun w _ => quiet_val rfl (primEq_run T true x y _ _ as_ bs l1 l2 (holdsP_list as_) (holdsP_list bs) w), hk⟩
theorem effq_eqlP {t : TypeId} {ks : List PK} (T : PrimStruct P t ks) {x y : Operand} (as_ bs : List PV) (l1 : as_.map PV.kind = ks) (l2 : bs.map PV.kind = ks) {K : Value → Prop} (hk : K (.bool (decide (as_ = bs)))) :
    EffQ P C (.bin .eql t x y) [.agg (as_.map PV.val).toArray, .agg (bs.map PV.val).toArray] K :=
  ⟨_, fun w _ => quiet_val rfl (primEq_run T false x y _ _ as_ bs l1 l2 (holdsP_list as_) (holdsP_list bs) w), hk⟩
end
end Go.HL

namespace Go.HL.Pu
open Go.HL Go.HL.Nm Go.Proofs
set_option maxRecDepth 4000
set_option linter.unusedSimpArgs false
set_option linter.unusedVariables false
structure Ac where
  name : List UInt8
  coins : Int
deriving DecidableEq
def Ac.cs (x : Ac) : List Value := [.string (HL.mk x.name), .int .u64 x.coins]
def flat (l : List Ac) : List Value := l.flatMap Ac.cs
theorem cs_len (x : Ac) : x.cs.length = 2 := rfl
theorem flat_len (l : List Ac) : (flat l).length = l.length * 2 := flat_length Ac.cs 2 cs_len l
theorem cs_one (x : Ac) : ∀ u ∈ x.cs, u.oneCell' = true := by
  intro u hu
  simp only [Ac.cs, List.mem_cons, List.not_mem_nil, or_false] at hu
  rcases hu with rfl | rfl <;> rfl
theorem flat_one (l : List Ac) : ∀ u ∈ flat l, u.oneCell' = true := by
  intro u hu
  obtain ⟨x, _, hx⟩ := List.mem_flatMap.1 hu
  exact cs_one x u hx
theorem flat_at {its : List Ac} {i : Nat} (h : i < its.length) : ∀ j u, (its[i].cs)[j]? = some u → (flat its)[i * 2 + j]? = some u := by
  intro j u hu
  have hj : j < 2 := (List.getElem?_eq_some_iff.1 hu).1
  rw [← hu]
  exact flat_get Ac.cs 2 cs_len its i j h hj
theorem flat_name {its : List Ac} {i : Nat} (h : i < its.length) : (flat its)[i * 2]? = some (.string (mk its[i].name)) := flat_at h 0 _ rfl
theorem flat_coins {its : List Ac} {i : Nat} (h : i < its.length) : (flat its)[i * 2 + 1]? = some (.int .u64 its[i].coins) := flat_at h 1 _ rfl
theorem flat_set1 {its : List Ac} {i : Nat} (h : i < its.length) (c : Int) : (flat its).set (i * 2 + 1) (.int .u64 c) = flat (its.set i ⟨its[i].name, c⟩) := by
  have e := flat_set Ac.cs 2 cs_len (⟨its[i].name, c⟩ : Ac) its i h
  show _ = List.flatMap Ac.cs _
  rw [← e]
  have hl := flat_len its
  have hf : flat its = its.flatMap Ac.cs := rfl
  apply List.ext_getElem?
  intro k
  have hlen : i * 2 + 2 ≤ (its.flatMap Ac.cs).length := by rw [← hf]; omega
  have tl : ((its.flatMap Ac.cs).take (i * 2)).length = i * 2 := by rw [List.length_take]; omega
  rw [hf]
  have c4 : (⟨its[i].name, c⟩ : Ac).cs.length = 2 := rfl
  by_cases k1 : k < i * 2
  · rw [List.getElem?_set_ne (by omega), List.append_assoc, List.getElem?_append_left (by omega), List.getElem?_take, if_pos k1]
  by_cases k2 : k < i * 2 + 2
  · rw [List.append_assoc, List.getElem?_append_right (by omega), tl, List.getElem?_append_left (by rw [c4]; omega)]
    obtain ⟨j, rfl⟩ : ∃ j, k = i * 2 + j := ⟨k - i * 2, by omega⟩
    have hj : j < 2 := by omega
    rw [Nat.add_sub_cancel_left]
    have : j = 0 ∨ j = 1 := by omega
    rcases this with rfl | rfl
    · rw [List.getElem?_set_ne (by omega), flat_get Ac.cs 2 cs_len its i 0 h (by omega)]; rfl
    · rw [List.getElem?_set_self (by omega)]; rfl
  · rw [List.getElem?_set_ne (by omega), List.append_assoc, List.getElem?_append_right (by omega), tl, List.getElem?_append_right (by rw [c4]; omega), List.getElem?_drop, c4]
    congr 1
    omega
def keyF (l : List UInt8) : List UInt8 := encAll (foldedF l)
def seemF (l : List UInt8) : List UInt8 := encAll (lookF l)
def keys (l : List Ac) : List (List UInt8) := l.map fun x => keyF x.name
structure Ps where
  lim : Int
  rows : List Ac
  sup : Int
  held : Int
deriving DecidableEq
abbrev pt4 (p : Nat) (P : Ps) (m : Nat) (v : Value) : Asn := pt p (.cells #[.map (some m), .int .i64 P.lim, v, .int .u64 P.sup, .int .u64 P.held] 81 (0, 0))
abbrev mpt (m : Nat) (l : List Ac) : Asn := pt m (.map (mapE (keys l)) (keys l).length)
def pur (p : Nat) (P : Ps) : Asn := fun h => ∃ m v, (pt4 p P m v * mpt m P.rows * own 58 2 v P.rows.length (flat P.rows)) h
theorem popen {w0 w : World} {A : Asn} {p : Nat} {P : Ps} (s : St w0 (A * pur p P) w) :
    ∃ m v, St w0 (A * pt4 p P m v * mpt m P.rows * own 58 2 v P.rows.length (flat P.rows)) w := by
  obtain ⟨g, h1, h2, h3, d, e, a, m, v, b⟩ := s.holds
  refine ⟨m, v, ?_⟩
  rw [sep_assoc, sep_assoc, ← sep_assoc (pt4 p P m v)]
  exact s.of ⟨g, h1, h2, h3, d, e, a, b⟩
theorem pclose {w0 w : World} {A : Asn} {p : Nat} {P : Ps} {m : Nat} {v : Value}
    (s : St w0 (A * pt4 p P m v * mpt m P.rows * own 58 2 v P.rows.length (flat P.rows)) w) : St w0 (A * pur p P) w := by
  rw [sep_assoc, sep_assoc, ← sep_assoc (pt4 p P m v)] at s
  obtain ⟨g, h1, h2, h3, d, e, a, b⟩ := s.holds
  exact s.of ⟨g, h1, h2, h3, d, e, a, m, v, b⟩
theorem accT : PrimStruct Tryz.prog 58 [.str, .int .u64] := ⟨by kernel_rfl, by kernel_rfl, by kernel_rfl, by kernel_rfl⟩
theorem regT : MapT Tryz.prog 77 9 3 := ⟨by kernel_rfl, by kernel_rfl, by kernel_rfl⟩
noncomputable abbrev U0 : PF Tryz.prog := PF.none _

def h76_0 : HC := (.seq (.reg (.done [(2, (.inp 4)), (3, (.inp 5))] none)) .ret)
@[simp] theorem h76_0_wp : type_of% (@wpH h76_0 _ h76_0.eq_1) := wpH h76_0.eq_1
def h76_1 : HC := (.seq (.regq (some 2) (.chk none .chkp (.cons (.inp 0) .nil) (.chk none (.fld 0) (.cons (.op .chkp (.cons (.inp 0) .nil)) .nil) (.eff (.ld false 1) (.cons (.op (.fld 0) (.cons (.op .chkp (.cons (.inp 0) .nil)) .nil)) .nil) (.eff (.call 104) (.cons (.inp 1) .nil) (.eff (.look 77 true) (.cons (.bv 0) (.cons (.bv 1) .nil)) (.chk none (.ext 0) (.cons (.bv 2) .nil) (.chk none (.ext 1) (.cons (.bv 2) .nil) (.done [(4, (.op (.ext 0) (.cons (.bv 2) .nil))), (5, (.op (.ext 1) (.cons (.bv 2) .nil)))] none))))))))) h76_0)
@[simp] theorem h76_1_wp : type_of% (@wpH h76_1 _ h76_1.eq_1) := wpH h76_1.eq_1
def l76 : Lifted := ⟨[0, 1, 4, 5, 6, 7], 20, [.slot 2, .slot 3], (.seq (.reg (.done [(2, (.cst (.int .i64 0))), (3, (.cst (.bool false)))] none)) h76_1)⟩
theorem l76_ok : liftFn U0 76 400 = some l76 := by kernel_rfl

def l77 : Lifted := ⟨[0, 1, 2], 13, [], (.regq (some 2) (.chk none .chkp (.cons (.inp 0) .nil) (.chk none (.fld 0) (.cons (.op .chkp (.cons (.inp 0) .nil)) .nil) (.eff (.ld false 1) (.cons (.op (.fld 0) (.cons (.op .chkp (.cons (.inp 0) .nil)) .nil)) .nil) (.eff (.call 104) (.cons (.inp 1) .nil) (.eff (.upd 77) (.cons (.bv 0) (.cons (.bv 1) (.cons (.inp 2) .nil))) (.done [] none)))))))⟩
theorem l77_ok : liftFn U0 77 400 = some l77 := by kernel_rfl

def h99_0 : HC := (.seq (.reg (.chk none (.ifc 77) (.cons (.inp 0) .nil) (.eff (.cext 128) (.cons (.op (.ifc 77) (.cons (.inp 0) .nil)) .nil) (.eff (.tas 20 77 false) (.cons (.bv 0) .nil) (.done [(1, (.bv 1))] none))))) .ret)
@[simp] theorem h99_0_wp : type_of% (@wpH h99_0 _ h99_0.eq_1) := wpH h99_0.eq_1
def h99_1 : HC := (.seq (.reg (.done [(1, (.cst (.map none)))] none)) .ret)
@[simp] theorem h99_1_wp : type_of% (@wpH h99_1 _ h99_1.eq_1) := wpH h99_1.eq_1
def h99_2 : HC := (.seq (.br (.chk none (.eqNil false (.map 9 3) (.map none)) (.cons (.inp 0) .nil) (.done [] (some (.op (.eqNil false (.map 9 3) (.map none)) (.cons (.inp 0) .nil))))) h99_1 .skip) h99_0)
@[simp] theorem h99_2_wp : type_of% (@wpH h99_2 _ h99_2.eq_1) := wpH h99_2.eq_1
def l99 : Lifted := ⟨[0, 2], 9, [.slot 1], (.seq (.reg (.done [(1, (.cst (.map none)))] none)) h99_2)⟩
theorem l99_ok : liftFn U0 99 400 = some l99 := by kernel_rfl

def h38_0 : HC := (.seq (.reg (.chk none .lenL (.cons (.inp 0) .nil) (.chk none .lenL (.cons (.inp 0) .nil) (.chk none (.slL 2 false true true) (.cons (.inp 0) (.cons (.op .lenL (.cons (.inp 0) .nil)) (.cons (.op .lenL (.cons (.inp 0) .nil)) .nil))) (.done [(1, (.op (.slL 2 false true true) (.cons (.inp 0) (.cons (.op .lenL (.cons (.inp 0) .nil)) (.cons (.op .lenL (.cons (.inp 0) .nil)) .nil)))))] none))))) .ret)
@[simp] theorem h38_0_wp : type_of% (@wpH h38_0 _ h38_0.eq_1) := wpH h38_0.eq_1
def l38 : Lifted := ⟨[0, 2], 9, [.slot 1], (.seq (.reg (.done [(1, (.cst (.slice none 0 0)))] none)) h38_0)⟩
theorem l38_ok : liftFn U0 38 400 = some l38 := by kernel_rfl

def h39_0 : HC := (.seq (.reg (.eff (.bsl 58 0 2 #[] []) .nil (.eff (.app 22 22 58 2 24 (.agg #[(.string ⟨#[]⟩), (.int .u64 0)])) (.cons (.bv 0) (.cons (.inp 0) .nil)) (.done [(1, (.bv 1))] none)))) .ret)
@[simp] theorem h39_0_wp : type_of% (@wpH h39_0 _ h39_0.eq_1) := wpH h39_0.eq_1
def h39_1 : HC := (.seq (.reg (.done [(1, (.cst (.slice none 0 0)))] none)) .ret)
@[simp] theorem h39_1_wp : type_of% (@wpH h39_1 _ h39_1.eq_1) := wpH h39_1.eq_1
def h39_2 : HC := (.seq (.br (.chk none (.eqNil false (.slice 58) (.slice none 0 0)) (.cons (.inp 0) .nil) (.done [] (some (.op (.eqNil false (.slice 58) (.slice none 0 0)) (.cons (.inp 0) .nil))))) h39_1 .skip) h39_0)
@[simp] theorem h39_2_wp : type_of% (@wpH h39_2 _ h39_2.eq_1) := wpH h39_2.eq_1
def l39 : Lifted := ⟨[0, 2], 8, [.slot 1], (.seq (.reg (.done [(1, (.cst (.slice none 0 0)))] none)) h39_2)⟩
theorem l39_ok : liftFn U0 39 400 = some l39 := by kernel_rfl

def h32_0 : HC := (.seq (.reg (.chk none (.bin .sub) (.cons (.inp 0) (.cons (.inp 1) .nil)) (.done [(2, (.op (.bin .sub) (.cons (.inp 0) (.cons (.inp 1) .nil)))), (3, (.cst (.int .i64 0)))] none))) .ret)
@[simp] theorem h32_0_wp : type_of% (@wpH h32_0 _ h32_0.eq_1) := wpH h32_0.eq_1
def h32_1 : HC := (.seq (.reg (.done [(2, (.cst (.int .u64 0))), (3, (.cst (.int .i64 11)))] none)) .ret)
@[simp] theorem h32_1_wp : type_of% (@wpH h32_1 _ h32_1.eq_1) := wpH h32_1.eq_1
def h32_2 : HC := (.seq (.br (.chk none (.bin .gtr) (.cons (.inp 1) (.cons (.inp 0) .nil)) (.done [] (some (.op (.bin .gtr) (.cons (.inp 1) (.cons (.inp 0) .nil)))))) h32_1 .skip) h32_0)
@[simp] theorem h32_2_wp : type_of% (@wpH h32_2 _ h32_2.eq_1) := wpH h32_2.eq_1
def l32 : Lifted := ⟨[0, 1, 4, 5], 12, [.slot 2, .slot 3], (.seq (.reg (.done [(2, (.cst (.int .u64 0))), (3, (.cst (.int .i64 0)))] none)) h32_2)⟩
theorem l32_ok : liftFn U0 32 400 = some l32 := by kernel_rfl
theorem known_spec (p : Nat) (c : Array Value) (t : TypeId) (m : Nat) (ks : List (List UInt8)) (n : Nat) (x : List UInt8) (w0 w : World) (A : Asn) (hc : c[0]? = some (.map (some m))) (hx : x.length ≤ 1048576)
    (s : St w0 (A * pt p (.cells c t (0, 0)) * pt m (.map (mapE ks) n)) w) :
    CallW Tryz.prog 76 [.pointer (some ⟨p, 0, none⟩), .string (mk x)] (fun r w' => r = .tuple #[.int .i64 (askN (keyF x) ks), .bool (askB (keyF x) ks)] ∧ St w0 (A * pt p (.cells c t (0, 0)) * pt m (.map (mapE ks) n)) w') w := by
  refine callW_of_lift l76_ok (by simp [l76]) ?_
  simp [l76]
  refine regmI (fun vs w => match vs with
    | [] => St w0 (A * pt p (.cells c t (0, 0)) * pt m (.map (mapE ks) n)) w
    | r :: _ => r = .string (mk (keyF x)) ∧ St w0 (A * pt p (.cells c t (0, 0)) * pt m (.map (mapE ks) n)) w) s.drew ?_
  have base : ∀ {vs' : List Value} {w : World}, (match vs' with
    | [] => St w0 (A * pt p (.cells c t (0, 0)) * pt m (.map (mapE ks) n)) w
    | r :: _ => r = .string (mk (keyF x)) ∧ St w0 (A * pt p (.cells c t (0, 0)) * pt m (.map (mapE ks) n)) w) → St w0 (A * pt p (.cells c t (0, 0)) * pt m (.map (mapE ks) n)) w := by
    intro vs' w h
    cases vs' with
    | nil => exact h
    | cons r l => exact h.2
  simp
  refine effm_ldc (v := .map (some m)) (fun vs' w _ hw => by rw [cell_of (base hw).drop.look]; exact hc) ?_
  simp
  refine effm_mv rfl (fun w hw => eff_call ((Fold_spec x w0 w _ hx hw).mono fun r w' h => h)) (fun r hr => ?_)
  obtain ⟨_, rfl, _⟩ := hr
  simp
  refine effm_look regT (fun vs' w _ hw => (base hw).look) ?_
  simp
theorem enter_spec (p : Nat) (c : Array Value) (t : TypeId) (m : Nat) (ks : List (List UInt8)) (x : List UInt8) (w0 w : World) (A : Asn) (hc : c[0]? = some (.map (some m))) (hx : x.length ≤ 1048576) (hn : lookK (keyF x) ks 0 = none)
    (s : St w0 (A * pt p (.cells c t (0, 0)) * pt m (.map (mapE ks) ks.length)) w) :
    CallW Tryz.prog 77 [.pointer (some ⟨p, 0, none⟩), .string (mk x), .int .i64 (ks.length : Int)] (fun r w' => St w0 (A * pt p (.cells c t (0, 0)) * pt m (.map (mapE (ks ++ [keyF x])) (ks ++ [keyF x]).length)) w') w := by
  refine callW_of_lift l77_ok (by simp [l77]) ?_
  simp [l77]
  refine regmI (fun vs w => match vs with
    | [] => St w0 (A * pt p (.cells c t (0, 0)) * pt m (.map (mapE ks) ks.length)) w
    | [r] => r = .string (mk (keyF x)) ∧ St w0 (A * pt p (.cells c t (0, 0)) * pt m (.map (mapE ks) ks.length)) w
    | _ => St w0 (A * pt p (.cells c t (0, 0)) * pt m (.map (mapE (ks ++ [keyF x])) (ks ++ [keyF x]).length)) w) s.drew ?_
  simp
  refine effm_ldc (v := .map (some m)) (fun vs' w he hw => ?_) ?_
  · match vs', hw with
    | [], hw => rw [cell_of (St.drop hw).look]; exact hc
    | [_], hw => rw [cell_of (St.drop hw.2).look]; exact hc
    | _ :: _ :: _, hw => simp [era] at he
  simp
  refine effm_mv rfl (fun w hw => eff_call ((Fold_spec x w0 w _ hx hw).mono fun r w' h => h)) (fun r hr => ?_)
  obtain ⟨_, rfl, _⟩ := hr
  simp
  refine effm_mv rfl (fun w hw => eff_upd regT hw.2 hn fun w' h => by simpa using h) (fun r hr => ?_)
  simp
theorem take_spec (a b : Int) (w : World) (ha : 0 ≤ a ∧ a < 18446744073709551616) (hb : 0 ≤ b ∧ b < 18446744073709551616) : CallW Tryz.prog 32 [.int .u64 a, .int .u64 b] (fun r w' => r = .tuple #[.int .u64 (if a < b then 0 else a - b), .int .i64 (if a < b then 11 else 0)] ∧ w' = w) w := by
  refine callW_of_lift l32_ok (by simp [l32]) ?_
  simp [l32]
  refine cndI (fun h => ?_) (fun h => ?_)
  · simp at h
    simp [h]
  · simp at h
    simp
    try simp (disch := omega) only [wrapu64]
    exact ⟨by rw [if_neg (by omega)], by omega⟩
def clipV : Value → Value
  | .slice a n _ => .slice a n n
  | v => v
theorem clip_own {w0 w : World} {A : Asn} {e size n : Nat} {v : Value} {xs : List Value} (s : St w0 (A * own e size v n xs) w) : St w0 (A * own e size (clipV v) n xs) w := by
  rcases s.own with ⟨hl, ⟨rfl, rfl, rfl, s'⟩ | ⟨g, cap, cur, rfl, h1, h2, h3, h4, s'⟩⟩
  · exact s
  · exact s'.own_mk' (Nat.le_refl n) (Nat.le_trans h1 h2) (Nat.le_trans (Nat.mul_le_mul_right _ h1) h3) h4
theorem add_zero : (fun x : Addr => x.add 0) = id := by funext x; cases x; rfl
theorem clipA_spec (v : Value) (n : Nat) (xs : List Value) (e : Nat) (w0 w : World) (A : Asn) (hn : n ≤ 1048576) (s : St w0 (A * own e 2 v n xs) w) :
    CallW Tryz.prog 38 [v] (fun r w' => St w0 (A * own e 2 r n xs) w') w := by
  obtain ⟨a, cap, rfl, hc, _⟩ := s.own_val
  refine callW_of_lift l38_ok (by simp [l38]) ?_
  simp [l38, add_zero]
  exact ⟨hc, clip_own s⟩
theorem clone_spec (v : Value) (rows : List Ac) (w0 w : World) (A : Asn) (hl : rows.length ≤ 1048576) (s : St w0 (A * own 58 2 v rows.length (flat rows)) w) :
    CallW Tryz.prog 39 [v] (fun r w' => St w0 (A * own 58 2 v rows.length (flat rows) * own 58 2 r rows.length (flat rows)) w') w := by
  obtain ⟨a, cap, rfl, hcap, _⟩ := s.own_val
  refine callW_of_lift l39_ok (by simp [l39]) ?_
  simp [l39]
  cases a with
  | none =>
    simp
    rcases s.own.2 with ⟨h, h0, _⟩ | ⟨_, _, _, h, _⟩
    · have hi : rows = [] := List.eq_nil_of_length_eq_zero h0
      subst hi
      exact s.own_nil _ _
    · cases h
  | some a =>
    simp
    refine eff_bsl0 s ?_
    intro v0 w1 s1
    simp
    have hr : Row w0 (A * own 58 2 (.slice (some a) rows.length cap) rows.length (flat rows) * own 58 2 v0 0 []) (.slice (some a) rows.length cap) rows.length 2 (flat rows) := (row_own s).mono fun w s => s.drop
    refine eff_appR s1 hr (flat_one _) (by decide) rfl (by unfold maxLen; omega) (by omega) ?_
    intro v' w2 s2
    simp
    simpa using s2
theorem eff_mclone {m : Nat} {es : Array MapEntry} {n : Nat} {t : TypeId} {w0 w : World} {A : Asn} {K : Value → World → Prop} (s : St w0 (A * pt m (.map es n)) w) (hk : ∀ m' w', St w0 (A * pt m (.map es n) * pt m' (.map es n)) w' → K (.iface t (.map (some m'))) w') :
    EffW Tryz.prog (.cext 128) [.iface t (.map (some m))] K w := by
  intro _
  unfold UponW
  have h := run_callFunc_extern (P := Tryz.prog) (f := 128) (fn := Tryz.f128) (e := Extern.MapsClone.clone) Tryz.func128 (by kernel_rfl) (by kernel_rfl) (by kernel_rfl) (by kernel_rfl) #[.iface t (.map (some m))] w
  have hb := s.look
  have hr : (Extern.MapsClone.clone #[.iface t (.map (some m))]).run Tryz.prog w = .ok (.iface t (.map (some w.heap.size))) (w.alloc (.map es n)) := by
    have e : Extern.MapsClone.clone #[.iface t (.map (some m))] = (getObj m >>= fun o => match o with
      | .map entries clock => (newObj (.map entries clock) >>= fun n => pure (.iface t (.map (some n))))
      | _ => stuck "maps.clone: a map expected") := rfl
    rw [e]
    simp [MapKept.run_getObj_map hb, Result.andThen, newObj]
    rfl
  rw [hr] at h
  simp only [EO.sem]
  rw [h]
  simp only [Result.andThen]
  exact hk _ _ (s.alloc trivial)
theorem mclone_spec (m : Nat) (ks : List (List UInt8)) (n : Nat) (w0 w : World) (A : Asn) (s : St w0 (A * pt m (.map (mapE ks) n)) w) :
    CallW Tryz.prog 99 [.map (some m)] (fun r w' => ∃ m', r = .map (some m') ∧ St w0 (A * pt m (.map (mapE ks) n) * pt m' (.map (mapE ks) n)) w') w := by
  refine callW_of_lift l99_ok (by simp [l99]) ?_
  simp [l99]
  refine eff_mclone s ?_
  intro m' w1 s1
  simp
  refine eff_tas regT.ty (by intro ms h; cases h) ?_
  simp
  exact s1
end Go.HL.Pu

namespace Go.HL.Pu
open Go.HL Go.HL.Nm Go.Proofs
set_option maxRecDepth 4000
set_option linter.unusedSimpArgs false
set_option linter.unusedVariables false
structure Bd (P : Ps) : Prop where
  coins : ∀ i, i < P.rows.length → 0 ≤ (P.rows.getD i ⟨[], 0⟩).coins ∧ (P.rows.getD i ⟨[], 0⟩).coins ≤ 4611686018427387904
  held : 0 ≤ P.held ∧ P.held ≤ 4611686018427387904
  sup : 0 ≤ P.sup ∧ P.sup ≤ 4611686018427387904
  len : P.rows.length ≤ 64
def coin (l : List Ac) (i : Nat) : Int := (l.getD i ⟨[], 0⟩).coins
def setC (l : List Ac) (i : Nat) (c : Int) : List Ac := l.set i ⟨(l.getD i ⟨[], 0⟩).name, c⟩
theorem coin_at {l : List Ac} {i : Nat} (h : i < l.length) : coin l i = l[i].coins := by simp [coin, h]
theorem setC_at {l : List Ac} {i : Nat} (h : i < l.length) (c : Int) : (flat l).set (i * 2 + 1) (.int .u64 c) = flat (setC l i c) := by
  rw [flat_set1 h]; simp [setC, h]
theorem setC_len (l : List Ac) (i : Nat) (c : Int) : (setC l i c).length = l.length := by simp [setC]
theorem keys_setC (l : List Ac) (i : Nat) (c : Int) : keys (setC l i c) = keys l := by
  unfold keys setC
  rw [List.map_set]
  by_cases h : i < l.length
  · have e : keyF (l.getD i ⟨[], 0⟩).name = (l.map fun x => keyF x.name)[i]'(by simpa using h) := by simp [h]
    show (l.map fun x => keyF x.name).set i (keyF (l.getD i ⟨[], 0⟩).name) = _
    rw [e]; exact List.set_getElem_self _
  · rw [List.set_eq_of_length_le (by simp; omega)]
def accE (l : List Ac) (n : Int) : Int := if 0 ≤ n ∧ n < l.length then 0 else 142

def h98_0 : HC := (.seq (.reg (.done [(2, (.cst (.int .i64 0)))] none)) .ret)
@[simp] theorem h98_0_wp : type_of% (@wpH h98_0 _ h98_0.eq_1) := wpH h98_0.eq_1
def h98_1 : HC := (.seq (.reg (.done [(2, (.cst (.int .i64 142)))] none)) .ret)
@[simp] theorem h98_1_wp : type_of% (@wpH h98_1 _ h98_1.eq_1) := wpH h98_1.eq_1
def h98_2 : HC := (.seq (.br (.chk none (.bin .lss) (.cons (.inp 1) (.cons (.cst (.int .i64 0)) .nil)) (.bnd (.op (.bin .lss) (.cons (.inp 1) (.cons (.cst (.int .i64 0)) .nil))) (.chk (some ((.bv 0), false)) .chkp (.cons (.inp 0) .nil) (.chk (some ((.bv 0), false)) (.fld 2) (.cons (.op .chkp (.cons (.inp 0) .nil)) .nil) (.ite (.bv 0) false (.eff (.ld false 1) (.cons (.ite (.bv 0) false (.op (.fld 2) (.cons (.op .chkp (.cons (.inp 0) .nil)) .nil)) (.cst (.tuple #[]))) .nil) (.chk none .lenL (.cons (.bv 1) .nil) (.chk none (.bin .geq) (.cons (.ite (.bv 0) false (.inp 1) (.cst (.tuple #[]))) (.cons (.op .lenL (.cons (.bv 1) .nil)) .nil)) (.isb none (.bv 0) (.done [] (some (.op (.bin .geq) (.cons (.ite (.bv 0) false (.inp 1) (.cst (.tuple #[]))) (.cons (.op .lenL (.cons (.bv 1) .nil)) .nil))))))))) (.isb none (.bv 0) (.done [] (some (.cst (.bool true)))))))))) h98_1 .skip) h98_0)
@[simp] theorem h98_2_wp : type_of% (@wpH h98_2 _ h98_2.eq_1) := wpH h98_2.eq_1
def h98_3 : HC := (.seq (.reg (.done [(2, (.cst (.int .i64 1)))] none)) .ret)
@[simp] theorem h98_3_wp : type_of% (@wpH h98_3 _ h98_3.eq_1) := wpH h98_3.eq_1
def h98_4 : HC := (.seq (.br (.chk none (.eqNil false (.pointer 81) (.pointer none)) (.cons (.inp 0) .nil) (.done [] (some (.op (.eqNil false (.pointer 81) (.pointer none)) (.cons (.inp 0) .nil))))) h98_3 .skip) h98_2)
@[simp] theorem h98_4_wp : type_of% (@wpH h98_4 _ h98_4.eq_1) := wpH h98_4.eq_1
def l98 : Lifted := ⟨[0, 1, 4], 18, [.slot 2], (.seq (.reg (.done [(2, (.cst (.int .i64 0)))] none)) h98_4)⟩
theorem l98_ok : liftFn U0 98 400 = some l98 := by kernel_rfl

def h31_0 : HC := (.seq (.reg (.done [(2, (.inp 6)), (3, (.cst (.int .i64 0)))] none)) .ret)
@[simp] theorem h31_0_wp : type_of% (@wpH h31_0 _ h31_0.eq_1) := wpH h31_0.eq_1
def h31_1 : HC := (.seq (.reg (.chk none .chkp (.cons (.inp 0) .nil) (.chk none (.fld 0) (.cons (.op .chkp (.cons (.inp 0) .nil)) .nil) (.eff (.call 77) (.cons (.op (.fld 0) (.cons (.op .chkp (.cons (.inp 0) .nil)) .nil)) (.cons (.inp 1) (.cons (.inp 6) .nil))) (.done [] none))))) h31_0)
@[simp] theorem h31_1_wp : type_of% (@wpH h31_1 _ h31_1.eq_1) := wpH h31_1.eq_1
def h31_2 : HC := (.seq (.reg (.chk none .chkp (.cons (.inp 0) .nil) (.chk none (.fld 2) (.cons (.op .chkp (.cons (.inp 0) .nil)) .nil) (.eff (.ld false 1) (.cons (.op (.fld 2) (.cons (.op .chkp (.cons (.inp 0) .nil)) .nil)) .nil) (.chk none (.build #[(.string ⟨#[]⟩), (.int .u64 0)] [(0, 1), (1, 1)] [0]) (.cons (.inp 1) .nil) (.eff (.bsl 58 1 2 #[(.string ⟨#[]⟩), (.int .u64 0)] [0]) (.cons (.op (.build #[(.string ⟨#[]⟩), (.int .u64 0)] [(0, 1), (1, 1)] [0]) (.cons (.inp 1) .nil)) .nil) (.eff (.app 22 22 58 2 24 (.agg #[(.string ⟨#[]⟩), (.int .u64 0)])) (.cons (.bv 0) (.cons (.bv 1) .nil)) (.chk none .chkp (.cons (.inp 0) .nil) (.chk none (.fld 2) (.cons (.op .chkp (.cons (.inp 0) .nil)) .nil) (.eff (.st 1) (.cons (.op (.fld 2) (.cons (.op .chkp (.cons (.inp 0) .nil)) .nil)) (.cons (.bv 2) .nil)) (.done [] none))))))))))) h31_1)
@[simp] theorem h31_2_wp : type_of% (@wpH h31_2 _ h31_2.eq_1) := wpH h31_2.eq_1
def h31_3 : HC := (.seq (.reg (.done [(2, (.cst (.int .i64 0))), (3, (.cst (.int .i64 141)))] none)) .ret)
@[simp] theorem h31_3_wp : type_of% (@wpH h31_3 _ h31_3.eq_1) := wpH h31_3.eq_1
def h31_4 : HC := (.seq (.br (.chk none .chkp (.cons (.inp 0) .nil) (.chk none (.fld 1) (.cons (.op .chkp (.cons (.inp 0) .nil)) .nil) (.eff (.ld false 1) (.cons (.op (.fld 1) (.cons (.op .chkp (.cons (.inp 0) .nil)) .nil)) .nil) (.chk none (.bin .eql) (.cons (.inp 6) (.cons (.bv 0) .nil)) (.done [] (some (.op (.bin .eql) (.cons (.inp 6) (.cons (.bv 0) .nil))))))))) h31_3 .skip) h31_2)
@[simp] theorem h31_4_wp : type_of% (@wpH h31_4 _ h31_4.eq_1) := wpH h31_4.eq_1
def h31_5 : HC := (.seq (.reg (.chk none .chkp (.cons (.inp 0) .nil) (.chk none (.fld 2) (.cons (.op .chkp (.cons (.inp 0) .nil)) .nil) (.eff (.ld false 1) (.cons (.op (.fld 2) (.cons (.op .chkp (.cons (.inp 0) .nil)) .nil)) .nil) (.chk none .lenL (.cons (.bv 0) .nil) (.done [(6, (.op .lenL (.cons (.bv 0) .nil)))] none)))))) h31_4)
@[simp] theorem h31_5_wp : type_of% (@wpH h31_5 _ h31_5.eq_1) := wpH h31_5.eq_1
def h31_6 : HC := (.seq (.reg (.done [(2, (.cst (.int .i64 0))), (3, (.cst (.int .i64 140)))] none)) .ret)
@[simp] theorem h31_6_wp : type_of% (@wpH h31_6 _ h31_6.eq_1) := wpH h31_6.eq_1
def h31_7 : HC := (.seq (.br (.done [] (some (.inp 5))) h31_6 .skip) h31_5)
@[simp] theorem h31_7_wp : type_of% (@wpH h31_7 _ h31_7.eq_1) := wpH h31_7.eq_1
def h31_8 : HC := (.seq (.reg (.chk none .chkp (.cons (.inp 0) .nil) (.chk none (.fld 0) (.cons (.op .chkp (.cons (.inp 0) .nil)) .nil) (.eff (.call 76) (.cons (.op (.fld 0) (.cons (.op .chkp (.cons (.inp 0) .nil)) .nil)) (.cons (.inp 1) .nil)) (.chk none (.ext 0) (.cons (.bv 0) .nil) (.chk none (.ext 1) (.cons (.bv 0) .nil) (.done [(5, (.op (.ext 1) (.cons (.bv 0) .nil)))] none))))))) h31_7)
@[simp] theorem h31_8_wp : type_of% (@wpH h31_8 _ h31_8.eq_1) := wpH h31_8.eq_1
def h31_9 : HC := (.seq (.reg (.done [(2, (.cst (.int .i64 0))), (3, (.inp 4))] none)) .ret)
@[simp] theorem h31_9_wp : type_of% (@wpH h31_9 _ h31_9.eq_1) := wpH h31_9.eq_1
def h31_10 : HC := (.seq (.br (.chk none (.bin .neq) (.cons (.inp 4) (.cons (.cst (.int .i64 0)) .nil)) (.done [] (some (.op (.bin .neq) (.cons (.inp 4) (.cons (.cst (.int .i64 0)) .nil)))))) h31_9 .skip) h31_8)
@[simp] theorem h31_10_wp : type_of% (@wpH h31_10 _ h31_10.eq_1) := wpH h31_10.eq_1
def h31_11 : HC := (.seq (.reg (.eff (.call 75) (.cons (.inp 1) .nil) (.chk none (.ext 0) (.cons (.bv 0) .nil) (.chk none (.ext 1) (.cons (.bv 0) .nil) (.done [(4, (.op (.ext 1) (.cons (.bv 0) .nil)))] none))))) h31_10)
@[simp] theorem h31_11_wp : type_of% (@wpH h31_11 _ h31_11.eq_1) := wpH h31_11.eq_1
def h31_12 : HC := (.seq (.reg (.done [(2, (.cst (.int .i64 0))), (3, (.cst (.int .i64 1)))] none)) .ret)
@[simp] theorem h31_12_wp : type_of% (@wpH h31_12 _ h31_12.eq_1) := wpH h31_12.eq_1
def h31_13 : HC := (.seq (.br (.chk none (.eqNil false (.pointer 81) (.pointer none)) (.cons (.inp 0) .nil) (.done [] (some (.op (.eqNil false (.pointer 81) (.pointer none)) (.cons (.inp 0) .nil))))) h31_12 .skip) h31_11)
@[simp] theorem h31_13_wp : type_of% (@wpH h31_13 _ h31_13.eq_1) := wpH h31_13.eq_1
def l31 : Lifted := ⟨[0, 1, 4, 5, 7, 9, 10], 59, [.slot 2, .slot 3], (.seq (.reg (.done [(2, (.cst (.int .i64 0))), (3, (.cst (.int .i64 0)))] none)) h31_13)⟩
theorem l31_ok : liftFn U0 31 400 = some l31 := by kernel_rfl

def h59_0 : HC := (.seq (.reg (.done [(3, (.cst (.int .i64 0)))] none)) .ret)
@[simp] theorem h59_0_wp : type_of% (@wpH h59_0 _ h59_0.eq_1) := wpH h59_0.eq_1
def h59_1 : HC := (.seq (.reg (.chk none .chkp (.cons (.inp 0) .nil) (.chk none (.fld 2) (.cons (.op .chkp (.cons (.inp 0) .nil)) .nil) (.eff (.ld false 1) (.cons (.op (.fld 2) (.cons (.op .chkp (.cons (.inp 0) .nil)) .nil)) .nil) (.chk none (.idxL 2) (.cons (.bv 0) (.cons (.inp 1) .nil)) (.chk none (.fld 1) (.cons (.op (.idxL 2) (.cons (.bv 0) (.cons (.inp 1) .nil))) .nil) (.eff (.ld false 1) (.cons (.op (.fld 1) (.cons (.op (.idxL 2) (.cons (.bv 0) (.cons (.inp 1) .nil))) .nil)) .nil) (.chk none (.bin .add) (.cons (.bv 1) (.cons (.inp 2) .nil)) (.chk none (.idxL 2) (.cons (.bv 0) (.cons (.inp 1) .nil)) (.chk none (.fld 1) (.cons (.op (.idxL 2) (.cons (.bv 0) (.cons (.inp 1) .nil))) .nil) (.eff (.st 1) (.cons (.op (.fld 1) (.cons (.op (.idxL 2) (.cons (.bv 0) (.cons (.inp 1) .nil))) .nil)) (.cons (.op (.bin .add) (.cons (.bv 1) (.cons (.inp 2) .nil))) .nil)) (.done [] none)))))))))))) h59_0)
@[simp] theorem h59_1_wp : type_of% (@wpH h59_1 _ h59_1.eq_1) := wpH h59_1.eq_1
def h59_2 : HC := (.seq (.reg (.chk none .chkp (.cons (.inp 0) .nil) (.chk none (.fld 3) (.cons (.op .chkp (.cons (.inp 0) .nil)) .nil) (.eff (.ld false 1) (.cons (.op (.fld 3) (.cons (.op .chkp (.cons (.inp 0) .nil)) .nil)) .nil) (.chk none (.bin .add) (.cons (.bv 0) (.cons (.inp 2) .nil)) (.chk none .chkp (.cons (.inp 0) .nil) (.chk none (.fld 3) (.cons (.op .chkp (.cons (.inp 0) .nil)) .nil) (.eff (.st 1) (.cons (.op (.fld 3) (.cons (.op .chkp (.cons (.inp 0) .nil)) .nil)) (.cons (.op (.bin .add) (.cons (.bv 0) (.cons (.inp 2) .nil))) .nil)) (.done [] none))))))))) h59_1)
@[simp] theorem h59_2_wp : type_of% (@wpH h59_2 _ h59_2.eq_1) := wpH h59_2.eq_1
def h59_3 : HC := (.seq (.reg (.done [(3, (.cst (.int .i64 144)))] none)) .ret)
@[simp] theorem h59_3_wp : type_of% (@wpH h59_3 _ h59_3.eq_1) := wpH h59_3.eq_1
def h59_4 : HC := (.seq (.br (.chk none .chkp (.cons (.inp 0) .nil) (.chk none (.fld 3) (.cons (.op .chkp (.cons (.inp 0) .nil)) .nil) (.eff (.ld false 1) (.cons (.op (.fld 3) (.cons (.op .chkp (.cons (.inp 0) .nil)) .nil)) .nil) (.chk none (.bin .sub) (.cons (.cst (.int .u64 4611686018427387904)) (.cons (.bv 0) .nil)) (.chk none (.bin .gtr) (.cons (.inp 2) (.cons (.op (.bin .sub) (.cons (.cst (.int .u64 4611686018427387904)) (.cons (.bv 0) .nil))) .nil)) (.done [] (some (.op (.bin .gtr) (.cons (.inp 2) (.cons (.op (.bin .sub) (.cons (.cst (.int .u64 4611686018427387904)) (.cons (.bv 0) .nil))) .nil)))))))))) h59_3 .skip) h59_2)
@[simp] theorem h59_4_wp : type_of% (@wpH h59_4 _ h59_4.eq_1) := wpH h59_4.eq_1
def h59_5 : HC := (.seq (.reg (.done [(3, (.cst (.int .i64 2)))] none)) .ret)
@[simp] theorem h59_5_wp : type_of% (@wpH h59_5 _ h59_5.eq_1) := wpH h59_5.eq_1
def h59_6 : HC := (.seq (.br (.chk none (.bin .eql) (.cons (.inp 2) (.cons (.cst (.int .u64 0)) .nil)) (.done [] (some (.op (.bin .eql) (.cons (.inp 2) (.cons (.cst (.int .u64 0)) .nil)))))) h59_5 .skip) h59_4)
@[simp] theorem h59_6_wp : type_of% (@wpH h59_6 _ h59_6.eq_1) := wpH h59_6.eq_1
def h59_7 : HC := (.seq (.reg (.done [(3, (.inp 4))] none)) .ret)
@[simp] theorem h59_7_wp : type_of% (@wpH h59_7 _ h59_7.eq_1) := wpH h59_7.eq_1
def h59_8 : HC := (.seq (.br (.chk none (.bin .neq) (.cons (.inp 4) (.cons (.cst (.int .i64 0)) .nil)) (.done [] (some (.op (.bin .neq) (.cons (.inp 4) (.cons (.cst (.int .i64 0)) .nil)))))) h59_7 .skip) h59_6)
@[simp] theorem h59_8_wp : type_of% (@wpH h59_8 _ h59_8.eq_1) := wpH h59_8.eq_1
def h59_9 : HC := (.seq (.reg (.eff (.call 98) (.cons (.inp 0) (.cons (.inp 1) .nil)) (.done [(4, (.bv 0))] none))) h59_8)
@[simp] theorem h59_9_wp : type_of% (@wpH h59_9 _ h59_9.eq_1) := wpH h59_9.eq_1
def l59 : Lifted := ⟨[0, 1, 2, 6, 7], 43, [.slot 3], (.seq (.reg (.done [(3, (.cst (.int .i64 0)))] none)) h59_9)⟩
theorem l59_ok : liftFn U0 59 400 = some l59 := by kernel_rfl

def h114_0 : HC := (.seq (.reg (.done [(3, (.cst (.int .i64 0)))] none)) .ret)
@[simp] theorem h114_0_wp : type_of% (@wpH h114_0 _ h114_0.eq_1) := wpH h114_0.eq_1
def h114_1 : HC := (.seq (.reg (.chk none .chkp (.cons (.inp 0) .nil) (.chk none (.fld 4) (.cons (.op .chkp (.cons (.inp 0) .nil)) .nil) (.eff (.ld false 1) (.cons (.op (.fld 4) (.cons (.op .chkp (.cons (.inp 0) .nil)) .nil)) .nil) (.chk none (.bin .add) (.cons (.bv 0) (.cons (.inp 2) .nil)) (.chk none .chkp (.cons (.inp 0) .nil) (.chk none (.fld 4) (.cons (.op .chkp (.cons (.inp 0) .nil)) .nil) (.eff (.st 1) (.cons (.op (.fld 4) (.cons (.op .chkp (.cons (.inp 0) .nil)) .nil)) (.cons (.op (.bin .add) (.cons (.bv 0) (.cons (.inp 2) .nil))) .nil)) (.done [] none))))))))) h114_0)
@[simp] theorem h114_1_wp : type_of% (@wpH h114_1 _ h114_1.eq_1) := wpH h114_1.eq_1
def h114_2 : HC := (.seq (.reg (.chk none .chkp (.cons (.inp 0) .nil) (.chk none (.fld 2) (.cons (.op .chkp (.cons (.inp 0) .nil)) .nil) (.eff (.ld false 1) (.cons (.op (.fld 2) (.cons (.op .chkp (.cons (.inp 0) .nil)) .nil)) .nil) (.chk none (.idxL 2) (.cons (.bv 0) (.cons (.inp 1) .nil)) (.chk none (.fld 1) (.cons (.op (.idxL 2) (.cons (.bv 0) (.cons (.inp 1) .nil))) .nil) (.eff (.st 1) (.cons (.op (.fld 1) (.cons (.op (.idxL 2) (.cons (.bv 0) (.cons (.inp 1) .nil))) .nil)) (.cons (.inp 5) .nil)) (.done [] none)))))))) h114_1)
@[simp] theorem h114_2_wp : type_of% (@wpH h114_2 _ h114_2.eq_1) := wpH h114_2.eq_1
def h114_3 : HC := (.seq (.reg (.done [(3, (.cst (.int .i64 143)))] none)) .ret)
@[simp] theorem h114_3_wp : type_of% (@wpH h114_3 _ h114_3.eq_1) := wpH h114_3.eq_1
def h114_4 : HC := (.seq (.br (.chk none (.bin .neq) (.cons (.inp 6) (.cons (.cst (.int .i64 0)) .nil)) (.done [] (some (.op (.bin .neq) (.cons (.inp 6) (.cons (.cst (.int .i64 0)) .nil)))))) h114_3 .skip) h114_2)
@[simp] theorem h114_4_wp : type_of% (@wpH h114_4 _ h114_4.eq_1) := wpH h114_4.eq_1
def h114_5 : HC := (.seq (.reg (.chk none .chkp (.cons (.inp 0) .nil) (.chk none (.fld 2) (.cons (.op .chkp (.cons (.inp 0) .nil)) .nil) (.eff (.ld false 1) (.cons (.op (.fld 2) (.cons (.op .chkp (.cons (.inp 0) .nil)) .nil)) .nil) (.chk none (.idxL 2) (.cons (.bv 0) (.cons (.inp 1) .nil)) (.chk none (.fld 1) (.cons (.op (.idxL 2) (.cons (.bv 0) (.cons (.inp 1) .nil))) .nil) (.eff (.ld false 1) (.cons (.op (.fld 1) (.cons (.op (.idxL 2) (.cons (.bv 0) (.cons (.inp 1) .nil))) .nil)) .nil) (.eff (.call 32) (.cons (.bv 1) (.cons (.inp 2) .nil)) (.chk none (.ext 0) (.cons (.bv 2) .nil) (.chk none (.ext 1) (.cons (.bv 2) .nil) (.done [(5, (.op (.ext 0) (.cons (.bv 2) .nil))), (6, (.op (.ext 1) (.cons (.bv 2) .nil)))] none))))))))))) h114_4)
@[simp] theorem h114_5_wp : type_of% (@wpH h114_5 _ h114_5.eq_1) := wpH h114_5.eq_1
def h114_6 : HC := (.seq (.reg (.done [(3, (.inp 4))] none)) .ret)
@[simp] theorem h114_6_wp : type_of% (@wpH h114_6 _ h114_6.eq_1) := wpH h114_6.eq_1
def h114_7 : HC := (.seq (.br (.chk none (.bin .neq) (.cons (.inp 4) (.cons (.cst (.int .i64 0)) .nil)) (.done [] (some (.op (.bin .neq) (.cons (.inp 4) (.cons (.cst (.int .i64 0)) .nil)))))) h114_6 .skip) h114_5)
@[simp] theorem h114_7_wp : type_of% (@wpH h114_7 _ h114_7.eq_1) := wpH h114_7.eq_1
def h114_8 : HC := (.seq (.reg (.eff (.call 98) (.cons (.inp 0) (.cons (.inp 1) .nil)) (.done [(4, (.bv 0))] none))) h114_7)
@[simp] theorem h114_8_wp : type_of% (@wpH h114_8 _ h114_8.eq_1) := wpH h114_8.eq_1
def l114 : Lifted := ⟨[0, 1, 2, 6, 7, 8, 9], 47, [.slot 3], (.seq (.reg (.done [(3, (.cst (.int .i64 0)))] none)) h114_8)⟩
theorem l114_ok : liftFn U0 114 400 = some l114 := by kernel_rfl

def h146_0 : HC := (.seq (.reg (.done [(3, (.cst (.int .i64 0)))] none)) .ret)
@[simp] theorem h146_0_wp : type_of% (@wpH h146_0 _ h146_0.eq_1) := wpH h146_0.eq_1
def h146_1 : HC := (.seq (.reg (.chk none .chkp (.cons (.inp 0) .nil) (.chk none (.fld 2) (.cons (.op .chkp (.cons (.inp 0) .nil)) .nil) (.eff (.ld false 1) (.cons (.op (.fld 2) (.cons (.op .chkp (.cons (.inp 0) .nil)) .nil)) .nil) (.chk none (.idxL 2) (.cons (.bv 0) (.cons (.inp 1) .nil)) (.chk none (.fld 1) (.cons (.op (.idxL 2) (.cons (.bv 0) (.cons (.inp 1) .nil))) .nil) (.eff (.ld false 1) (.cons (.op (.fld 1) (.cons (.op (.idxL 2) (.cons (.bv 0) (.cons (.inp 1) .nil))) .nil)) .nil) (.chk none (.bin .add) (.cons (.bv 1) (.cons (.inp 2) .nil)) (.chk none (.idxL 2) (.cons (.bv 0) (.cons (.inp 1) .nil)) (.chk none (.fld 1) (.cons (.op (.idxL 2) (.cons (.bv 0) (.cons (.inp 1) .nil))) .nil) (.eff (.st 1) (.cons (.op (.fld 1) (.cons (.op (.idxL 2) (.cons (.bv 0) (.cons (.inp 1) .nil))) .nil)) (.cons (.op (.bin .add) (.cons (.bv 1) (.cons (.inp 2) .nil))) .nil)) (.done [] none)))))))))))) h146_0)
@[simp] theorem h146_1_wp : type_of% (@wpH h146_1 _ h146_1.eq_1) := wpH h146_1.eq_1
def h146_2 : HC := (.seq (.reg (.chk none .chkp (.cons (.inp 0) .nil) (.chk none (.fld 4) (.cons (.op .chkp (.cons (.inp 0) .nil)) .nil) (.eff (.st 1) (.cons (.op (.fld 4) (.cons (.op .chkp (.cons (.inp 0) .nil)) .nil)) (.cons (.inp 5) .nil)) (.done [] none))))) h146_1)
@[simp] theorem h146_2_wp : type_of% (@wpH h146_2 _ h146_2.eq_1) := wpH h146_2.eq_1
def h146_3 : HC := (.seq (.reg (.done [(3, (.cst (.int .i64 143)))] none)) .ret)
@[simp] theorem h146_3_wp : type_of% (@wpH h146_3 _ h146_3.eq_1) := wpH h146_3.eq_1
def h146_4 : HC := (.seq (.br (.chk none (.bin .neq) (.cons (.inp 6) (.cons (.cst (.int .i64 0)) .nil)) (.done [] (some (.op (.bin .neq) (.cons (.inp 6) (.cons (.cst (.int .i64 0)) .nil)))))) h146_3 .skip) h146_2)
@[simp] theorem h146_4_wp : type_of% (@wpH h146_4 _ h146_4.eq_1) := wpH h146_4.eq_1
def h146_5 : HC := (.seq (.reg (.chk none .chkp (.cons (.inp 0) .nil) (.chk none (.fld 4) (.cons (.op .chkp (.cons (.inp 0) .nil)) .nil) (.eff (.ld false 1) (.cons (.op (.fld 4) (.cons (.op .chkp (.cons (.inp 0) .nil)) .nil)) .nil) (.eff (.call 32) (.cons (.bv 0) (.cons (.inp 2) .nil)) (.chk none (.ext 0) (.cons (.bv 1) .nil) (.chk none (.ext 1) (.cons (.bv 1) .nil) (.done [(5, (.op (.ext 0) (.cons (.bv 1) .nil))), (6, (.op (.ext 1) (.cons (.bv 1) .nil)))] none)))))))) h146_4)
@[simp] theorem h146_5_wp : type_of% (@wpH h146_5 _ h146_5.eq_1) := wpH h146_5.eq_1
def h146_6 : HC := (.seq (.reg (.done [(3, (.inp 4))] none)) .ret)
@[simp] theorem h146_6_wp : type_of% (@wpH h146_6 _ h146_6.eq_1) := wpH h146_6.eq_1
def h146_7 : HC := (.seq (.br (.chk none (.bin .neq) (.cons (.inp 4) (.cons (.cst (.int .i64 0)) .nil)) (.done [] (some (.op (.bin .neq) (.cons (.inp 4) (.cons (.cst (.int .i64 0)) .nil)))))) h146_6 .skip) h146_5)
@[simp] theorem h146_7_wp : type_of% (@wpH h146_7 _ h146_7.eq_1) := wpH h146_7.eq_1
def h146_8 : HC := (.seq (.reg (.eff (.call 98) (.cons (.inp 0) (.cons (.inp 1) .nil)) (.done [(4, (.bv 0))] none))) h146_7)
@[simp] theorem h146_8_wp : type_of% (@wpH h146_8 _ h146_8.eq_1) := wpH h146_8.eq_1
def l146 : Lifted := ⟨[0, 1, 2, 6, 7, 8, 9], 43, [.slot 3], (.seq (.reg (.done [(3, (.cst (.int .i64 0)))] none)) h146_8)⟩
theorem l146_ok : liftFn U0 146 400 = some l146 := by kernel_rfl

def h74_0 : HC := (.seq (.reg (.chk none .chkp (.cons (.inp 0) .nil) (.chk none (.fld 2) (.cons (.op .chkp (.cons (.inp 0) .nil)) .nil) (.eff (.ld false 1) (.cons (.op (.fld 2) (.cons (.op .chkp (.cons (.inp 0) .nil)) .nil)) .nil) (.chk none (.idxL 2) (.cons (.bv 0) (.cons (.inp 1) .nil)) (.eff (.ld true 2) (.cons (.op (.idxL 2) (.cons (.bv 0) (.cons (.inp 1) .nil))) .nil) (.eff (.st 2) (.cons (.inp 2) (.cons (.bv 1) .nil)) (.done [(3, (.cst (.int .i64 0)))] none)))))))) .ret)
@[simp] theorem h74_0_wp : type_of% (@wpH h74_0 _ h74_0.eq_1) := wpH h74_0.eq_1
def h74_1 : HC := (.seq (.reg (.chk none (.build #[(.string ⟨#[]⟩), (.int .u64 0)] [(0, 1), (1, 1)] []) .nil (.eff (.st 2) (.cons (.inp 2) (.cons (.op (.build #[(.string ⟨#[]⟩), (.int .u64 0)] [(0, 1), (1, 1)] []) .nil) .nil)) (.done [(3, (.inp 4))] none)))) .ret)
@[simp] theorem h74_1_wp : type_of% (@wpH h74_1 _ h74_1.eq_1) := wpH h74_1.eq_1
def h74_2 : HC := (.seq (.br (.chk none (.bin .neq) (.cons (.inp 4) (.cons (.cst (.int .i64 0)) .nil)) (.done [] (some (.op (.bin .neq) (.cons (.inp 4) (.cons (.cst (.int .i64 0)) .nil)))))) h74_1 .skip) h74_0)
@[simp] theorem h74_2_wp : type_of% (@wpH h74_2 _ h74_2.eq_1) := wpH h74_2.eq_1
def h74_3 : HC := (.seq (.reg (.eff (.call 98) (.cons (.inp 0) (.cons (.inp 1) .nil)) (.done [(4, (.bv 0))] none))) h74_2)
@[simp] theorem h74_3_wp : type_of% (@wpH h74_3 _ h74_3.eq_1) := wpH h74_3.eq_1
def l74 : Lifted := ⟨[0, 1, 4, 5, 6], 21, [.cell 2 true 2, .slot 3], (.seq (.reg (.eff (.new 58 (.agg #[(.string ⟨#[]⟩), (.int .u64 0)])) .nil (.done [(2, (.bv 0)), (3, (.cst (.int .i64 0)))] none))) h74_3)⟩
theorem l74_ok : liftFn U0 74 400 = some l74 := by kernel_rfl
theorem account_spec (p : Nat) (P : Ps) (n : Int) (w0 w : World) (A : Asn) (s : St w0 (A * pur p P) w) :
    CallW Tryz.prog 98 [.pointer (some ⟨p, 0, none⟩), .int .i64 n] (fun r w' => r = .int .i64 (accE P.rows n) ∧ St w0 (A * pur p P) w') w := by
  refine callW_of_lift l98_ok (by simp [l98]) ?_
  simp [l98]
  obtain ⟨m, v, s1⟩ := popen s
  obtain ⟨a, cap, rfl, _⟩ := s1.own_val
  by_cases h : n < 0
  · simp [h]
    rw [accE, if_neg (by omega)]
    exact ⟨rfl, s⟩
  · simp [h]
    refine eff_ldc (v := .slice a P.rows.length cap) (by rw [cell_of s1.drop.drop.look]; rfl) ?_
    simp
    refine cndI (fun h2 => ?_) (fun h2 => ?_)
    · simp at h2
      simp
      rw [accE, if_neg (by omega)]
      exact ⟨rfl, s⟩
    · simp at h2
      simp
      rw [accE, if_pos (by omega)]
      exact ⟨rfl, s⟩
theorem known_p (p : Nat) (P : Ps) (m : Nat) (v : Value) (x : List UInt8) (w0 w : World) (A : Asn) (hx : x.length ≤ 1048576) (s : St w0 (A * pt4 p P m v * mpt m P.rows) w) :
    CallW Tryz.prog 76 [.pointer (some ⟨p, 0, none⟩), .string (mk x)] (fun r w' => r = .tuple #[.int .i64 (askN (keyF x) (keys P.rows)), .bool (askB (keyF x) (keys P.rows))] ∧ St w0 (A * pt4 p P m v * mpt m P.rows) w') w :=
  known_spec p _ _ m (keys P.rows) _ x w0 w A rfl hx s
theorem enter_p (p : Nat) (P : Ps) (m : Nat) (v : Value) (x : List UInt8) (l : List Ac) (w0 w : World) (A : Asn) (hx : x.length ≤ 1048576) (hn : askB (keyF x) (keys l) = false) (s : St w0 (A * pt4 p P m v * mpt m l) w) :
    CallW Tryz.prog 77 [.pointer (some ⟨p, 0, none⟩), .string (mk x), .int .i64 (l.length : Int)] (fun r w' => St w0 (A * pt4 p P m v * mpt m (l ++ [⟨x, 0⟩])) w') w := by
  have e1 : ((keys l).length : Int) = l.length := by simp [keys]
  have e2 : keys (l ++ [⟨x, 0⟩]) = keys l ++ [keyF x] := by simp [keys]
  rw [← e1]
  show CallW _ _ _ (fun r w' => St w0 (A * pt4 p P m v * pt m (.map (mapE (keys (l ++ [⟨x, 0⟩]))) (keys (l ++ [⟨x, 0⟩])).length)) w') _
  rw [e2]
  exact enter_spec p _ _ m (keys l) x w0 w A rfl hx (by simpa [askB] using hn) s
def openF (P : Ps) (x : List UInt8) : Int × Int × Ps :=
  if (checkF x).2 = 0 then
    if askB (keyF x) (keys P.rows) = true then (0, 140, P)
    else if (P.rows.length : Int) = P.lim then (0, 141, P)
    else ((P.rows.length : Int), 0, { P with rows := P.rows ++ [⟨x, 0⟩] })
  else (0, (checkF x).2, P)
theorem Open_spec (p : Nat) (P : Ps) (x : List UInt8) (w0 w : World) (A : Asn) (hx : x.length ≤ 1048576) (hl : P.rows.length ≤ 1048576) (s : St w0 (A * pur p P) w) :
    CallW Tryz.prog 31 [.pointer (some ⟨p, 0, none⟩), .string (mk x)] (fun r w' => r = .tuple #[.int .i64 (openF P x).1, .int .i64 (openF P x).2.1] ∧ St w0 (A * pur p (openF P x).2.2) w') w := by
  refine callW_of_lift l31_ok (by simp [l31]) ?_
  simp [l31]
  refine eff_call ((check_spec x w0 w _ hx s).mono ?_)
  rintro r w1 ⟨rfl, s⟩
  simp
  refine cndI (fun h => ?_) (fun h => ?_)
  · simp at h
    simp [openF, h]
    exact s
  simp at h
  simp
  obtain ⟨m, v, s1⟩ := popen s
  refine eff_call ((known_p p P m v x w0 w1 (A * own 58 2 v P.rows.length (flat P.rows)) hx (s1.to (by ac_rfl))).mono ?_)
  rintro r w2 ⟨rfl, s2⟩
  simp
  have s3 := s2.to (B := A * pt4 p P m v * mpt m P.rows * own 58 2 v P.rows.length (flat P.rows)) (by ac_rfl)
  clear s s1 s2
  refine cndI (fun h2 => ?_) (fun h2 => ?_)
  · simp [openF, h, h2]
    exact pclose s3
  simp
  obtain ⟨a, cap, rfl, _⟩ := s3.own_val
  refine eff_ldc (v := .slice a P.rows.length cap) (by rw [cell_of s3.drop.drop.look]; rfl) ?_
  simp
  refine eff_ldc (v := .int .i64 P.lim) (by rw [cell_of s3.drop.drop.look]; rfl) ?_
  simp
  refine cndI (fun h3 => ?_) (fun h3 => ?_)
  · simp at h3
    simp [openF, h, h2, h3]
    exact pclose s3
  simp at h3
  simp
  refine eff_ldc (v := .slice a P.rows.length cap) (by rw [cell_of s3.drop.drop.look]; rfl) ?_
  simp [Instr.fill, Value.cells]
  refine eff_bslV s3 rfl ?_
  intro c w3 s4
  simp
  refine eff_app (m := 1) (news := Ac.cs ⟨x, 0⟩) (s4.to (B := A * pt4 p P m (.slice a P.rows.length cap) * mpt m P.rows * pt c (.cells (Ac.cs ⟨x, 0⟩).toArray 58 (0, 0)) * own 58 2 (.slice a P.rows.length cap) P.rows.length (flat P.rows)) (by ac_rfl)) rfl s4.cells_look (cs_one _) (by decide) rfl (by unfold maxLen; omega) (by omega) ?_
  intro v2 w4 s5
  simp
  have hv2 := s5.own_val
  obtain ⟨a2, cap2, rfl, _⟩ := hv2
  refine eff_st1 (s5.to (B := A * mpt m P.rows * pt c (.cells (Ac.cs ⟨x, 0⟩).toArray 58 (0, 0)) * own 58 2 (.slice a2 (P.rows.length + 1) cap2) (P.rows.length + 1) (flat P.rows ++ Ac.cs ⟨x, 0⟩) * pt4 p P m (.slice a P.rows.length cap)) (by ac_rfl)) rfl (by simp) ?_
  intro w5 s6
  simp at s6
  simp
  have s6 : St w0 (A * mpt m P.rows * pt c (.cells (Ac.cs ⟨x, 0⟩).toArray 58 (0, 0)) * own 58 2 (.slice a2 (P.rows.length + 1) cap2) (P.rows.length + 1) (flat P.rows ++ Ac.cs ⟨x, 0⟩) * pt4 p P m (.slice a2 (P.rows.length + 1) cap2)) w5 := s6
  refine eff_call ((enter_p p P m (.slice a2 (P.rows.length + 1) cap2) x P.rows w0 w5 (A * own 58 2 (.slice a2 (P.rows.length + 1) cap2) (P.rows.length + 1) (flat P.rows ++ Ac.cs ⟨x, 0⟩)) hx h2 (St.cut (pt c (.cells (Ac.cs ⟨x, 0⟩).toArray 58 (0, 0))) s6 (by ac_rfl))).mono ?_)
  intro r w6 s7
  simp [openF, h, h2, h3]
  refine pclose (m := m) (v := .slice a2 (P.rows.length + 1) cap2) ?_
  have e : flat (P.rows ++ [⟨x, 0⟩]) = flat P.rows ++ Ac.cs ⟨x, 0⟩ := by simp [flat]
  show St w0 (A * pt4 p P m (.slice a2 (P.rows.length + 1) cap2) * mpt m (P.rows ++ [(⟨x, 0⟩ : Ac)]) * own 58 2 (.slice a2 (P.rows.length + 1) cap2) (P.rows ++ [(⟨x, 0⟩ : Ac)]).length (flat (P.rows ++ [⟨x, 0⟩]))) w6
  rw [e, List.length_append]
  exact s7.to (by ac_rfl)
theorem acc_in {l : List Ac} {n : Int} (h : accE l n = 0) : ∃ i : Nat, n = i ∧ i < l.length := by
  unfold accE at h
  split at h
  · exact ⟨n.toNat, by omega, by omega⟩
  · cases h
theorem accE_or (l : List Ac) (n : Int) : accE l n = 0 ∨ accE l n = 142 := by unfold accE; split <;> simp
def mintF (P : Ps) (n c : Int) : Int × Ps :=
  if accE P.rows n = 0 then
    if c = 0 then (2, P) else if 4611686018427387904 - P.sup < c then (144, P)
    else (0, { P with sup := P.sup + c, rows := setC P.rows n.toNat (coin P.rows n.toNat + c) })
  else (142, P)
theorem Mint_spec (p : Nat) (P : Ps) (n c : Int) (w0 w : World) (A : Asn) (hP : Bd P) (hc : 0 ≤ c ∧ c < 18446744073709551616) (s : St w0 (A * pur p P) w) :
    CallW Tryz.prog 59 [.pointer (some ⟨p, 0, none⟩), .int .i64 n, .int .u64 c] (fun r w' => r = .int .i64 (mintF P n c).1 ∧ St w0 (A * pur p (mintF P n c).2) w') w := by
  refine callW_of_lift l59_ok (by simp [l59]) ?_
  simp [l59]
  have hs := hP.sup
  have hlen := hP.len
  refine eff_call ((account_spec p P n w0 w A s).mono ?_)
  rintro r w1 ⟨rfl, s⟩
  simp
  refine cndI (fun h => ?_) (fun h => ?_)
  · simp at h
    have h142 := (accE_or P.rows n).resolve_left h
    simp [mintF, h142]
    exact s
  simp at h
  obtain ⟨i, rfl, hi⟩ := acc_in h
  simp
  refine cndI (fun h1 => ?_) (fun h1 => ?_)
  · simp at h1
    simp [mintF, h, h1]
    exact s
  simp at h1
  simp
  obtain ⟨m, v, s1⟩ := popen s
  refine eff_ldc (v := .int .u64 P.sup) (by rw [cell_of s1.drop.drop.look]; rfl) ?_
  simp
  try simp (disch := omega) only [wrapu64]
  refine cndI (fun h2 => ?_) (fun h2 => ?_)
  · simp at h2
    simp [mintF, h, h1, h2]
    exact s
  simp at h2
  simp
  refine eff_ldc (v := .int .u64 P.sup) (by rw [cell_of s1.drop.drop.look]; rfl) ?_
  simp
  try simp (disch := omega) only [wrapu64]
  refine eff_st1 (s1.to (B := A * mpt m P.rows * own 58 2 v P.rows.length (flat P.rows) * pt4 p P m v) (by ac_rfl)) rfl (by simp) ?_
  intro w2 s2
  simp at s2
  simp
  obtain ⟨g, cap, hv, hcap, _⟩ := s1.own_at (by omega)
  subst hv
  have hco := hP.coins i hi
  have hci : (P.rows.getD i ⟨[], 0⟩).coins = coin P.rows i := rfl
  rw [hci] at hco
  refine eff_ldc (v := .slice (some ⟨g, 0, none⟩) P.rows.length cap) (by rw [cell_of s2.look]; rfl) ?_
  simp [hi]
  have s3 := s2.to (B := A * mpt m P.rows * pt4 p { P with sup := P.sup + c } m (.slice (some ⟨g, 0, none⟩) P.rows.length cap) * own 58 2 (.slice (some ⟨g, 0, none⟩) P.rows.length cap) P.rows.length (flat P.rows)) (by ac_rfl)
  obtain ⟨g', cap', hv, _, hcell⟩ := s3.own_at (by omega)
  cases hv
  refine eff_ldc (v := .int .u64 (coin P.rows i)) (by rw [hcell _ _ (flat_coins hi), coin_at hi]) ?_
  simp [hi]
  try simp (disch := omega) only [wrapu64]
  have hfl := flat_len P.rows
  refine eff_stC (u := .int .u64 (coin P.rows i + c)) s3 (by omega) rfl ?_
  intro w3 s4
  rw [setC_at hi] at s4
  simp [mintF, h, h1]
  rw [if_neg (by omega)]
  refine ⟨rfl, pclose (m := m) (v := .slice (some ⟨g, 0, none⟩) P.rows.length cap) ?_⟩
  rw [mpt, keys_setC, setC_len]
  exact s4.to (by ac_rfl)
end Go.HL.Pu

namespace Go.HL.Pu
open Go.HL Go.HL.Nm Go.Proofs
set_option maxRecDepth 4000
set_option linter.unusedSimpArgs false
set_option linter.unusedVariables false
theorem coin_bd {P : Ps} (hP : Bd P) {i : Nat} (h : i < P.rows.length) : 0 ≤ coin P.rows i ∧ coin P.rows i ≤ 4611686018427387904 := hP.coins i h
theorem coin_set {l : List Ac} {i j : Nat} (h : i < l.length) (c : Int) : coin (setC l i c) j = if j = i then c else coin l j := by
  unfold coin setC
  by_cases e : j = i
  · subst e; simp [h]
  · rw [if_neg e]
    simp [List.getElem?_set_ne (Ne.symm e)]
theorem st_coin {w0 w : World} {A : Asn} {p m g cap i : Nat} {P : Ps} {c : Int} {l : List Ac} (hi : i < l.length)
    (s : St w0 (A * own 58 2 (.slice (some ⟨g, 0, none⟩) l.length cap) l.length (flat l)) w) {K : Value → World → Prop}
    (hk : ∀ w', St w0 (A * own 58 2 (.slice (some ⟨g, 0, none⟩) (setC l i c).length cap) (setC l i c).length (flat (setC l i c))) w' → K undef w') :
    EffW Tryz.prog (.st 1) [.pointer (some ⟨g, i * 2 + 1, none⟩), .int .u64 c] K w := by
  have hfl := flat_len l
  refine eff_stC (u := .int .u64 c) s (by omega) rfl ?_
  intro w3 s4
  rw [setC_at hi] at s4
  refine hk w3 ?_
  rw [setC_len]
  exact s4
def payF (P : Ps) (a b c : Int) : Int × Ps :=
  if accE P.rows a = 0 ∧ accE P.rows b = 0 then
    if a = b then (234, P) else if c = 0 then (2, P) else if coin P.rows a.toNat < c then (143, P)
    else (0, { P with rows := setC (setC P.rows a.toNat (coin P.rows a.toNat - c)) b.toNat (coin P.rows b.toNat + c) })
  else (142, P)
def takeF (P : Ps) (n c : Int) : Int × Ps :=
  if accE P.rows n = 0 then
    if coin P.rows n.toNat < c then (143, P)
    else (0, { P with held := P.held + c, rows := setC P.rows n.toNat (coin P.rows n.toNat - c) })
  else (142, P)
theorem Take_spec (p : Nat) (P : Ps) (n c : Int) (w0 w : World) (A : Asn) (hP : Bd P) (hc : 0 ≤ c ∧ c < 18446744073709551616) (s : St w0 (A * pur p P) w) :
    CallW Tryz.prog 114 [.pointer (some ⟨p, 0, none⟩), .int .i64 n, .int .u64 c] (fun r w' => r = .int .i64 (takeF P n c).1 ∧ St w0 (A * pur p (takeF P n c).2) w') w := by
  refine callW_of_lift l114_ok (by simp [l114]) ?_
  simp [l114]
  have hlen := hP.len
  have hh := hP.held
  refine eff_call ((account_spec p P n w0 w A s).mono ?_)
  rintro r w1 ⟨rfl, s⟩
  simp
  refine cndI (fun h => ?_) (fun h => ?_)
  · simp at h
    have h142 := (accE_or P.rows n).resolve_left h
    simp [takeF, h142]
    exact s
  simp at h
  obtain ⟨i, rfl, hi⟩ := acc_in h
  simp
  obtain ⟨m, v, s1⟩ := popen s
  clear s
  obtain ⟨g, gcap, hv, hcap, hcell⟩ := s1.own_at (by omega)
  subst hv
  refine eff_ldc (v := .slice (some ⟨g, 0, none⟩) P.rows.length gcap) (by rw [cell_of s1.drop.drop.look]; rfl) ?_
  simp [hi]
  have hci := coin_bd hP hi
  refine eff_ldc (v := .int .u64 (coin P.rows i)) (by rw [hcell _ _ (flat_coins hi), coin_at hi]) ?_
  simp
  refine eff_call ((take_spec (coin P.rows i) c w1 (by omega) hc).mono ?_)
  rintro r w3 ⟨rfl, rfl⟩
  simp
  refine cndI (fun h2 => ?_) (fun h2 => ?_)
  · simp at h2
    simp [takeF, h, h2]
    exact pclose s1
  simp at h2
  simp [h2]
  refine eff_ldc (v := .slice (some ⟨g, 0, none⟩) P.rows.length gcap) (by rw [cell_of s1.drop.drop.look]; rfl) ?_
  simp [hi]
  rw [if_neg (by omega)]
  refine st_coin (p := p) (m := m) (P := P) hi s1 ?_
  intro w4 s2
  simp
  refine eff_ldc (v := .int .u64 P.held) (by rw [cell_of s2.drop.drop.look]; rfl) ?_
  simp
  try simp (disch := omega) only [wrapu64]
  refine eff_st1 (s2.to (B := A * mpt m P.rows * own 58 2 (.slice (some ⟨g, 0, none⟩) (setC P.rows i (coin P.rows i - c)).length gcap) (setC P.rows i (coin P.rows i - c)).length (flat (setC P.rows i (coin P.rows i - c))) * pt4 p P m (.slice (some ⟨g, 0, none⟩) P.rows.length gcap)) (by ac_rfl)) rfl (by simp) ?_
  intro w5 s3
  simp at s3
  simp [takeF, h]
  rw [if_neg (by omega)]
  refine ⟨rfl, pclose (m := m) (v := .slice (some ⟨g, 0, none⟩) P.rows.length gcap) ?_⟩
  rw [mpt, keys_setC]
  rw [setC_len] at s3 ⊢
  exact s3.to (by ac_rfl)
def putF (P : Ps) (n c : Int) : Int × Ps :=
  if accE P.rows n = 0 then
    if P.held < c then (143, P)
    else (0, { P with held := P.held - c, rows := setC P.rows n.toNat (coin P.rows n.toNat + c) })
  else (142, P)
theorem Put_spec (p : Nat) (P : Ps) (n c : Int) (w0 w : World) (A : Asn) (hP : Bd P) (hc : 0 ≤ c ∧ c < 18446744073709551616) (s : St w0 (A * pur p P) w) :
    CallW Tryz.prog 146 [.pointer (some ⟨p, 0, none⟩), .int .i64 n, .int .u64 c] (fun r w' => r = .int .i64 (putF P n c).1 ∧ St w0 (A * pur p (putF P n c).2) w') w := by
  refine callW_of_lift l146_ok (by simp [l146]) ?_
  simp [l146]
  have hlen := hP.len
  have hh := hP.held
  refine eff_call ((account_spec p P n w0 w A s).mono ?_)
  rintro r w1 ⟨rfl, s⟩
  simp
  refine cndI (fun h => ?_) (fun h => ?_)
  · simp at h
    have h142 := (accE_or P.rows n).resolve_left h
    simp [putF, h142]
    exact s
  simp at h
  obtain ⟨i, rfl, hi⟩ := acc_in h
  simp
  obtain ⟨m, v, s1⟩ := popen s
  clear s
  have hci := coin_bd hP hi
  refine eff_ldc (v := .int .u64 P.held) (by rw [cell_of s1.drop.drop.look]; rfl) ?_
  simp
  refine eff_call ((take_spec P.held c w1 (by omega) hc).mono ?_)
  rintro r w3 ⟨rfl, rfl⟩
  simp
  refine cndI (fun h2 => ?_) (fun h2 => ?_)
  · simp at h2
    simp [putF, h, h2]
    exact pclose s1
  simp at h2
  simp [h2]
  rw [if_neg (by omega)]
  refine eff_st1 (s1.to (B := A * mpt m P.rows * own 58 2 v P.rows.length (flat P.rows) * pt4 p P m v) (by ac_rfl)) rfl (by simp) ?_
  intro w4 s2
  simp at s2
  simp
  obtain ⟨g, gcap, hv, hcap, hcell⟩ := s1.own_at (by omega)
  subst hv
  refine eff_ldc (v := .slice (some ⟨g, 0, none⟩) P.rows.length gcap) (by rw [cell_of s2.look]; rfl) ?_
  simp [hi]
  have s3 := s2.to (B := A * mpt m P.rows * pt4 p { P with held := P.held - c } m (.slice (some ⟨g, 0, none⟩) P.rows.length gcap) * own 58 2 (.slice (some ⟨g, 0, none⟩) P.rows.length gcap) P.rows.length (flat P.rows)) (by ac_rfl)
  obtain ⟨g', cap', hv, _, hcell⟩ := s3.own_at (by omega)
  cases hv
  refine eff_ldc (v := .int .u64 (coin P.rows i)) (by rw [hcell _ _ (flat_coins hi), coin_at hi]) ?_
  simp [hi]
  try simp (disch := omega) only [wrapu64]
  refine st_coin (p := p) (m := m) (P := P) hi s3 ?_
  intro w5 s4
  simp [putF, h, h2]
  rw [if_neg (by omega)]
  refine ⟨rfl, pclose (m := m) (v := .slice (some ⟨g, 0, none⟩) P.rows.length gcap) ?_⟩
  rw [mpt, keys_setC]
  rw [setC_len] at s4 ⊢
  exact s4.to (by ac_rfl)
def getF (P : Ps) (n : Int) : Ac × Int := if accE P.rows n = 0 then (P.rows.getD n.toNat ⟨[], 0⟩, 0) else (⟨[], 0⟩, 142)
theorem Get_spec (p : Nat) (P : Ps) (n : Int) (w0 w : World) (A : Asn) (hP : P.rows.length ≤ 64) (s : St w0 (A * pur p P) w) :
    CallW Tryz.prog 74 [.pointer (some ⟨p, 0, none⟩), .int .i64 n] (fun r w' => r = .tuple #[.agg (getF P n).1.cs.toArray, .int .i64 (getF P n).2] ∧ St w0 (A * pur p P) w') w := by
  refine callW_of_lift l74_ok (by simp [l74]) ?_
  simp [l74]
  refine eff_new s ?_
  intro b w1 s1
  simp
  refine eff_call ((account_spec p P n w0 w1 (A * pt b (.cells (Ac.cs ⟨[], 0⟩).toArray 58 (0, 0))) (s1.to (by ac_rfl))).mono ?_)
  rintro r w2 ⟨rfl, s2⟩
  simp
  have s2' := s2.swap
  refine cndI (fun h => ?_) (fun h => ?_)
  · simp at h
    simp [getF, h, Instr.fill, Value.cells]
    refine eff_stA (vs := Ac.cs ⟨[], 0⟩) s2' rfl rfl (cs_one _) (by simp [Ac.cs]) ?_
    intro w3 s3
    simp
    have s4 : St w0 (A * pur p P * pt b (.cells (Ac.cs ⟨[], 0⟩).toArray 58 (0, 0))) w3 := by simpa [Ac.cs] using s3
    refine rv_cellA (vs := Ac.cs ⟨[], 0⟩) rfl s4.row_cells rfl ?_
    simp
    refine ⟨?_, s4.drop⟩
    exact (accE_or P.rows n).resolve_left h
  simp at h
  simp
  obtain ⟨i, rfl, hi⟩ := acc_in h
  obtain ⟨m, v, s3⟩ := popen s2
  obtain ⟨g, gcap, hv, hcap, hcell⟩ := s3.own_at (by omega)
  subst hv
  refine eff_ldc (v := .slice (some ⟨g, 0, none⟩) P.rows.length gcap) (by rw [cell_of s3.drop.drop.look]; rfl) ?_
  simp [hi]
  refine eff_ldcs (vs := P.rows[i].cs) (fun j u hu => hcell _ _ (flat_at hi j u hu)) rfl ?_
  simp
  have hg : getF P (i : Int) = (P.rows[i], 0) := by simp [getF, h, hi]
  refine eff_stA (vs := P.rows[i].cs) s2' rfl rfl (cs_one _) (by simp [Ac.cs]) ?_
  intro w3 s3
  simp [hg]
  have s4 : St w0 (A * pur p P * pt b (.cells P.rows[i].cs.toArray 58 (0, 0))) w3 := by simpa [Ac.cs] using s3
  refine rv_cellA (vs := P.rows[i].cs) rfl s4.row_cells rfl ?_
  simp
  exact s4.drop
end Go.HL.Pu

namespace Go.HL.Pu
open Go.HL Go.HL.Nm Go.Proofs
set_option maxRecDepth 4000
set_option linter.unusedSimpArgs false
set_option linter.unusedVariables false

def h16_0 : HC := (.seq (.reg (.chk none .chkp (.cons (.inp 0) .nil) (.chk none (.fld 3) (.cons (.op .chkp (.cons (.inp 0) .nil)) .nil) (.eff (.ld false 1) (.cons (.op (.fld 3) (.cons (.op .chkp (.cons (.inp 0) .nil)) .nil)) .nil) (.done [(1, (.bv 0))] none))))) .ret)
@[simp] theorem h16_0_wp : type_of% (@wpH h16_0 _ h16_0.eq_1) := wpH h16_0.eq_1
def h16_1 : HC := (.seq (.reg (.done [(1, (.cst (.int .u64 0)))] none)) .ret)
@[simp] theorem h16_1_wp : type_of% (@wpH h16_1 _ h16_1.eq_1) := wpH h16_1.eq_1
def h16_2 : HC := (.seq (.br (.chk none (.eqNil false (.pointer 81) (.pointer none)) (.cons (.inp 0) .nil) (.done [] (some (.op (.eqNil false (.pointer 81) (.pointer none)) (.cons (.inp 0) .nil))))) h16_1 .skip) h16_0)
@[simp] theorem h16_2_wp : type_of% (@wpH h16_2 _ h16_2.eq_1) := wpH h16_2.eq_1
def l16 : Lifted := ⟨[0, 2], 9, [.slot 1], (.seq (.reg (.done [(1, (.cst (.int .u64 0)))] none)) h16_2)⟩
theorem l16_ok : liftFn U0 16 400 = some l16 := by kernel_rfl

def h21_0 : HC := (.seq (.reg (.chk none .chkp (.cons (.inp 0) .nil) (.chk none (.fld 4) (.cons (.op .chkp (.cons (.inp 0) .nil)) .nil) (.eff (.ld false 1) (.cons (.op (.fld 4) (.cons (.op .chkp (.cons (.inp 0) .nil)) .nil)) .nil) (.done [(1, (.bv 0))] none))))) .ret)
@[simp] theorem h21_0_wp : type_of% (@wpH h21_0 _ h21_0.eq_1) := wpH h21_0.eq_1
def h21_1 : HC := (.seq (.reg (.done [(1, (.cst (.int .u64 0)))] none)) .ret)
@[simp] theorem h21_1_wp : type_of% (@wpH h21_1 _ h21_1.eq_1) := wpH h21_1.eq_1
def h21_2 : HC := (.seq (.br (.chk none (.eqNil false (.pointer 81) (.pointer none)) (.cons (.inp 0) .nil) (.done [] (some (.op (.eqNil false (.pointer 81) (.pointer none)) (.cons (.inp 0) .nil))))) h21_1 .skip) h21_0)
@[simp] theorem h21_2_wp : type_of% (@wpH h21_2 _ h21_2.eq_1) := wpH h21_2.eq_1
def l21 : Lifted := ⟨[0, 2], 9, [.slot 1], (.seq (.reg (.done [(1, (.cst (.int .u64 0)))] none)) h21_2)⟩
theorem l21_ok : liftFn U0 21 400 = some l21 := by kernel_rfl

def h11_0 : HC := (.seq (.reg (.chk none .chkp (.cons (.inp 0) .nil) (.chk none (.fld 2) (.cons (.op .chkp (.cons (.inp 0) .nil)) .nil) (.eff (.ld false 1) (.cons (.op (.fld 2) (.cons (.op .chkp (.cons (.inp 0) .nil)) .nil)) .nil) (.eff (.call 39) (.cons (.bv 0) .nil) (.eff (.call 38) (.cons (.bv 1) .nil) (.done [(1, (.bv 2))] none))))))) .ret)
@[simp] theorem h11_0_wp : type_of% (@wpH h11_0 _ h11_0.eq_1) := wpH h11_0.eq_1
def h11_1 : HC := (.seq (.reg (.done [(1, (.cst (.slice none 0 0)))] none)) .ret)
@[simp] theorem h11_1_wp : type_of% (@wpH h11_1 _ h11_1.eq_1) := wpH h11_1.eq_1
def h11_2 : HC := (.seq (.br (.chk none (.eqNil false (.pointer 81) (.pointer none)) (.cons (.inp 0) .nil) (.done [] (some (.op (.eqNil false (.pointer 81) (.pointer none)) (.cons (.inp 0) .nil))))) h11_1 .skip) h11_0)
@[simp] theorem h11_2_wp : type_of% (@wpH h11_2 _ h11_2.eq_1) := wpH h11_2.eq_1
def l11 : Lifted := ⟨[0, 2], 11, [.slot 1], (.seq (.reg (.done [(1, (.cst (.slice none 0 0)))] none)) h11_2)⟩
theorem l11_ok : liftFn U0 11 400 = some l11 := by kernel_rfl

def h62_0 : HC := (.seq (.reg (.done [(1, (.inp 2))] none)) .ret)
@[simp] theorem h62_0_wp : type_of% (@wpH h62_0 _ h62_0.eq_1) := wpH h62_0.eq_1
def h62_1 : HC := (.seq (.reg (.chk none .chkp (.cons (.inp 0) .nil) (.chk none (.fld 0) (.cons (.op .chkp (.cons (.inp 0) .nil)) .nil) (.chk none (.fld 0) (.cons (.op (.fld 0) (.cons (.op .chkp (.cons (.inp 0) .nil)) .nil)) .nil) (.eff (.ld false 1) (.cons (.op (.fld 0) (.cons (.op (.fld 0) (.cons (.op .chkp (.cons (.inp 0) .nil)) .nil)) .nil)) .nil) (.eff (.call 99) (.cons (.bv 0) .nil) (.chk none (.fld 0) (.cons (.inp 2) .nil) (.chk none (.fld 0) (.cons (.op (.fld 0) (.cons (.inp 2) .nil)) .nil) (.eff (.st 1) (.cons (.op (.fld 0) (.cons (.op (.fld 0) (.cons (.inp 2) .nil)) .nil)) (.cons (.bv 1) .nil)) (.done [] none)))))))))) h62_0)
@[simp] theorem h62_1_wp : type_of% (@wpH h62_1 _ h62_1.eq_1) := wpH h62_1.eq_1
def h62_2 : HC := (.seq (.reg (.chk none .chkp (.cons (.inp 0) .nil) (.chk none (.fld 2) (.cons (.op .chkp (.cons (.inp 0) .nil)) .nil) (.eff (.ld false 1) (.cons (.op (.fld 2) (.cons (.op .chkp (.cons (.inp 0) .nil)) .nil)) .nil) (.eff (.call 39) (.cons (.bv 0) .nil) (.chk none (.fld 2) (.cons (.inp 2) .nil) (.eff (.st 1) (.cons (.op (.fld 2) (.cons (.inp 2) .nil)) (.cons (.bv 1) .nil)) (.done [] none)))))))) h62_1)
@[simp] theorem h62_2_wp : type_of% (@wpH h62_2 _ h62_2.eq_1) := wpH h62_2.eq_1
def h62_3 : HC := (.seq (.reg (.chk none .chkp (.cons (.inp 0) .nil) (.eff (.ld true 5) (.cons (.op .chkp (.cons (.inp 0) .nil)) .nil) (.eff (.new 81 (.agg #[(.map none), (.int .i64 0), (.slice none 0 0), (.int .u64 0), (.int .u64 0)])) .nil (.eff (.st 5) (.cons (.bv 1) (.cons (.bv 0) .nil)) (.done [(2, (.bv 1))] none)))))) h62_2)
@[simp] theorem h62_3_wp : type_of% (@wpH h62_3 _ h62_3.eq_1) := wpH h62_3.eq_1
def h62_4 : HC := (.seq (.reg (.done [(1, (.cst (.pointer none)))] none)) .ret)
@[simp] theorem h62_4_wp : type_of% (@wpH h62_4 _ h62_4.eq_1) := wpH h62_4.eq_1
def h62_5 : HC := (.seq (.br (.chk none (.eqNil false (.pointer 81) (.pointer none)) (.cons (.inp 0) .nil) (.done [] (some (.op (.eqNil false (.pointer 81) (.pointer none)) (.cons (.inp 0) .nil))))) h62_4 .skip) h62_3)
@[simp] theorem h62_5_wp : type_of% (@wpH h62_5 _ h62_5.eq_1) := wpH h62_5.eq_1
def l62 : Lifted := ⟨[0, 2, 3], 23, [.slot 1], (.seq (.reg (.done [(1, (.cst (.pointer none)))] none)) h62_5)⟩
theorem l62_ok : liftFn U0 62 400 = some l62 := by kernel_rfl
theorem Supply_spec (p : Nat) (P : Ps) (w0 w : World) (A : Asn) (s : St w0 (A * pur p P) w) :
    CallW Tryz.prog 16 [.pointer (some ⟨p, 0, none⟩)] (fun r w' => r = .int .u64 P.sup ∧ St w0 (A * pur p P) w') w := by
  refine callW_of_lift l16_ok (by simp [l16]) ?_
  simp [l16]
  obtain ⟨m, v, s1⟩ := popen s
  refine eff_ldc (v := .int .u64 P.sup) (by rw [cell_of s1.drop.drop.look]; rfl) ?_
  simp
  exact s
theorem Held_spec (p : Nat) (P : Ps) (w0 w : World) (A : Asn) (s : St w0 (A * pur p P) w) :
    CallW Tryz.prog 21 [.pointer (some ⟨p, 0, none⟩)] (fun r w' => r = .int .u64 P.held ∧ St w0 (A * pur p P) w') w := by
  refine callW_of_lift l21_ok (by simp [l21]) ?_
  simp [l21]
  obtain ⟨m, v, s1⟩ := popen s
  refine eff_ldc (v := .int .u64 P.held) (by rw [cell_of s1.drop.drop.look]; rfl) ?_
  simp
  exact s
theorem Rows_spec (p : Nat) (P : Ps) (w0 w : World) (A : Asn) (hl : P.rows.length ≤ 1048576) (s : St w0 (A * pur p P) w) :
    CallW Tryz.prog 11 [.pointer (some ⟨p, 0, none⟩)] (fun r w' => St w0 (A * pur p P * own 58 2 r P.rows.length (flat P.rows)) w') w := by
  refine callW_of_lift l11_ok (by simp [l11]) ?_
  simp [l11]
  obtain ⟨m, v, s1⟩ := popen s
  refine eff_ldc (v := v) (by rw [cell_of s1.drop.drop.look]; rfl) ?_
  simp
  refine eff_call ((clone_spec v P.rows w0 w _ hl s1).mono ?_)
  intro r w2 s2
  simp
  refine eff_call ((clipA_spec r P.rows.length _ _ w0 w2 _ hl s2).mono ?_)
  intro r2 w3 s3
  simp
  have s4 := s3.to (B := A * own 58 2 r2 P.rows.length (flat P.rows) * pt4 p P m v * mpt m P.rows * own 58 2 v P.rows.length (flat P.rows)) (by ac_rfl)
  exact (pclose s4).to (by ac_rfl)
theorem Copy_spec (p : Nat) (P : Ps) (w0 w : World) (A : Asn) (hl : P.rows.length ≤ 1048576) (s : St w0 (A * pur p P) w) :
    CallW Tryz.prog 62 [.pointer (some ⟨p, 0, none⟩)] (fun r w' => ∃ q, r = .pointer (some ⟨q, 0, none⟩) ∧ St w0 (A * pur p P * pur q P) w') w := by
  refine callW_of_lift l62_ok (by simp [l62]) ?_
  simp [l62]
  obtain ⟨m, v, s1⟩ := popen s
  obtain ⟨a, cap, hv, _⟩ := s1.own_val
  refine eff_ldcs (vs := [.map (some m), .int .i64 P.lim, v, .int .u64 P.sup, .int .u64 P.held]) (fun j u hu => St.row_cells s1.drop.drop j u hu) rfl ?_
  simp
  refine eff_new s1 ?_
  intro q w2 s2
  simp
  refine eff_stA (vs := [.map (some m), .int .i64 P.lim, v, .int .u64 P.sup, .int .u64 P.held]) s2 rfl rfl (by rw [hv]; simp [Value.oneCell']) (by simp) ?_
  intro w3 s3
  simp at s3
  simp
  have s4 : St w0 (A * pt4 p P m v * mpt m P.rows * own 58 2 v P.rows.length (flat P.rows) * pt4 q P m v) w3 := s3
  clear s3 s2 s1 s
  refine eff_ldc (v := v) (by rw [cell_of s4.drop.drop.drop.look]; rfl) ?_
  simp
  refine eff_call ((clone_spec v P.rows w0 w3 (A * pt4 p P m v * mpt m P.rows * pt4 q P m v) hl (s4.to (by ac_rfl))).mono ?_)
  intro r w4 s5
  simp
  obtain ⟨ra, rc, hr, _⟩ := s5.own_val
  refine eff_st1 (s5.to (B := A * pt4 p P m v * mpt m P.rows * own 58 2 v P.rows.length (flat P.rows) * own 58 2 r P.rows.length (flat P.rows) * pt4 q P m v) (by ac_rfl)) (by rw [hr]; rfl) (by simp) ?_
  intro w5 s6
  simp at s6
  simp
  have s7 : St w0 (A * pt4 p P m v * mpt m P.rows * own 58 2 v P.rows.length (flat P.rows) * own 58 2 r P.rows.length (flat P.rows) * pt4 q P m r) w5 := s6
  clear s6 s5 s4
  refine eff_ldc (v := .map (some m)) (by rw [cell_of s7.drop.drop.drop.drop.look]; rfl) ?_
  simp
  refine eff_call ((mclone_spec m (keys P.rows) (keys P.rows).length w0 w5 (A * pt4 p P m v * own 58 2 v P.rows.length (flat P.rows) * own 58 2 r P.rows.length (flat P.rows) * pt4 q P m r) (s7.to (by ac_rfl))).mono ?_)
  rintro r2 w6 ⟨m2, rfl, s8⟩
  simp
  refine eff_st1 (s8.to (B := A * pt4 p P m v * own 58 2 v P.rows.length (flat P.rows) * own 58 2 r P.rows.length (flat P.rows) * mpt m P.rows * mpt m2 P.rows * pt4 q P m r) (by ac_rfl)) rfl (by simp) ?_
  intro w7 s9
  simp at s9
  simp
  have s10 : St w0 (A * pt4 p P m v * own 58 2 v P.rows.length (flat P.rows) * own 58 2 r P.rows.length (flat P.rows) * mpt m P.rows * mpt m2 P.rows * pt4 q P m2 r) w7 := s9
  have s11 := pclose (m := m) (v := v) (P := P) (s10.to (B := A * own 58 2 r P.rows.length (flat P.rows) * mpt m2 P.rows * pt4 q P m2 r * pt4 p P m v * mpt m P.rows * own 58 2 v P.rows.length (flat P.rows)) (by ac_rfl))
  exact pclose (m := m2) (v := r) (P := P) (s11.to (by ac_rfl))
def nearF : List Ac → List UInt8 → Nat → List Int
  | [], _, _ => []
  | a :: l, x, i => if seemF a.name = seemF x then (i : Int) :: nearF l x (i + 1) else nearF l x (i + 1)
end Go.HL.Pu

namespace Go.HL.Pu
open Go.HL Go.HL.Nm Go.Proofs
set_option maxRecDepth 4000
set_option linter.unusedSimpArgs false
set_option linter.unusedVariables false

def h6_0 : HC := (.seq (.reg (.done [(3, (.inp 5)), (4, (.cst (.int .i64 0)))] none)) .ret)
@[simp] theorem h6_0_wp : type_of% (@wpH h6_0 _ h6_0.eq_1) := wpH h6_0.eq_1
def h6_1 : HC := (.reg (.chk none (.bin .add) (.cons (.inp 12) (.cons (.cst (.int .i64 1)) .nil)) (.done [(12, (.op (.bin .add) (.cons (.inp 12) (.cons (.cst (.int .i64 1)) .nil))))] none)))
@[simp] theorem h6_1_wp : type_of% (@wpH h6_1 _ h6_1.eq_1) := wpH h6_1.eq_1
def h6_2 : HC := (.regq (some 1) (.chk none .chkp (.cons (.inp 5) .nil) (.chk none (.fld 2) (.cons (.op .chkp (.cons (.inp 5) .nil)) .nil) (.eff (.ld false 1) (.cons (.op (.fld 2) (.cons (.op .chkp (.cons (.inp 5) .nil)) .nil)) .nil) (.chk none .chkp (.cons (.inp 5) .nil) (.chk none (.fld 2) (.cons (.op .chkp (.cons (.inp 5) .nil)) .nil) (.eff (.ld false 1) (.cons (.op (.fld 2) (.cons (.op .chkp (.cons (.inp 5) .nil)) .nil)) .nil) (.chk none .lenL (.cons (.bv 1) .nil) (.chk none (.bin .sub) (.cons (.op .lenL (.cons (.bv 1) .nil)) (.cons (.cst (.int .i64 1)) .nil)) (.chk none (.fld 1) (.cons (.inp 6) .nil) (.eff (.ld false 1) (.cons (.op (.fld 1) (.cons (.inp 6) .nil)) .nil) (.chk none (.idxL 2) (.cons (.bv 0) (.cons (.op (.bin .sub) (.cons (.op .lenL (.cons (.bv 1) .nil)) (.cons (.cst (.int .i64 1)) .nil))) .nil)) (.chk none (.fld 1) (.cons (.op (.idxL 2) (.cons (.bv 0) (.cons (.op (.bin .sub) (.cons (.op .lenL (.cons (.bv 1) .nil)) (.cons (.cst (.int .i64 1)) .nil))) .nil))) .nil) (.eff (.st 1) (.cons (.op (.fld 1) (.cons (.op (.idxL 2) (.cons (.bv 0) (.cons (.op (.bin .sub) (.cons (.op .lenL (.cons (.bv 1) .nil)) (.cons (.cst (.int .i64 1)) .nil))) .nil))) .nil)) (.cons (.bv 2) .nil)) (.done [] none)))))))))))))))
@[simp] theorem h6_2_wp : type_of% (@wpH h6_2 _ h6_2.eq_1) := wpH h6_2.eq_1
def h6_3 : HC := (.seq (.reg (.chk none .chkp (.cons (.inp 5) .nil) (.chk none (.fld 4) (.cons (.op .chkp (.cons (.inp 5) .nil)) .nil) (.eff (.st 1) (.cons (.op (.fld 4) (.cons (.op .chkp (.cons (.inp 5) .nil)) .nil)) (.cons (.inp 8) .nil)) (.done [] none))))) h6_2)
@[simp] theorem h6_3_wp : type_of% (@wpH h6_3 _ h6_3.eq_1) := wpH h6_3.eq_1
def h6_4 : HC := (.seq (.reg (.done [(3, (.cst (.pointer none))), (4, (.cst (.int .i64 144)))] none)) .ret)
@[simp] theorem h6_4_wp : type_of% (@wpH h6_4 _ h6_4.eq_1) := wpH h6_4.eq_1
def h6_5 : HC := (.seq (.br (.chk none (.bin .neq) (.cons (.inp 9) (.cons (.cst (.int .i64 0)) .nil)) (.done [] (some (.op (.bin .neq) (.cons (.inp 9) (.cons (.cst (.int .i64 0)) .nil)))))) h6_4 .skip) h6_3)
@[simp] theorem h6_5_wp : type_of% (@wpH h6_5 _ h6_5.eq_1) := wpH h6_5.eq_1
def h6_6 : HC := (.seq (.regq (some 1) (.chk none .chkp (.cons (.inp 5) .nil) (.chk none (.fld 4) (.cons (.op .chkp (.cons (.inp 5) .nil)) .nil) (.eff (.ld false 1) (.cons (.op (.fld 4) (.cons (.op .chkp (.cons (.inp 5) .nil)) .nil)) .nil) (.chk none (.fld 1) (.cons (.inp 6) .nil) (.eff (.ld false 1) (.cons (.op (.fld 1) (.cons (.inp 6) .nil)) .nil) (.eff (.call 32) (.cons (.bv 0) (.cons (.bv 1) .nil)) (.chk none (.ext 0) (.cons (.bv 2) .nil) (.chk none (.ext 1) (.cons (.bv 2) .nil) (.done [(8, (.op (.ext 0) (.cons (.bv 2) .nil))), (9, (.op (.ext 1) (.cons (.bv 2) .nil)))] none)))))))))) h6_5)
@[simp] theorem h6_6_wp : type_of% (@wpH h6_6 _ h6_6.eq_1) := wpH h6_6.eq_1
def h6_7 : HC := (.seq (.reg (.done [(3, (.cst (.pointer none))), (4, (.inp 7))] none)) .ret)
@[simp] theorem h6_7_wp : type_of% (@wpH h6_7 _ h6_7.eq_1) := wpH h6_7.eq_1
def h6_8 : HC := (.seq (.br (.chk none (.bin .neq) (.cons (.inp 7) (.cons (.cst (.int .i64 0)) .nil)) (.done [] (some (.op (.bin .neq) (.cons (.inp 7) (.cons (.cst (.int .i64 0)) .nil)))))) h6_7 .skip) h6_6)
@[simp] theorem h6_8_wp : type_of% (@wpH h6_8 _ h6_8.eq_1) := wpH h6_8.eq_1
def h6_9 : HC := (.seq (.reg (.chk none (.fld 0) (.cons (.inp 6) .nil) (.eff (.ld false 1) (.cons (.op (.fld 0) (.cons (.inp 6) .nil)) .nil) (.eff (.call 31) (.cons (.inp 5) (.cons (.bv 0) .nil)) (.chk none (.ext 0) (.cons (.bv 1) .nil) (.chk none (.ext 1) (.cons (.bv 1) .nil) (.done [(7, (.op (.ext 1) (.cons (.bv 1) .nil)))] none))))))) h6_8)
@[simp] theorem h6_9_wp : type_of% (@wpH h6_9 _ h6_9.eq_1) := wpH h6_9.eq_1
def h6_10 : HC := (.seq (.reg (.chk none (.idxL 2) (.cons (.inp 10) (.cons (.inp 12) .nil)) (.eff (.ld true 2) (.cons (.op (.idxL 2) (.cons (.inp 10) (.cons (.inp 12) .nil))) .nil) (.eff (.new 58 (.agg #[(.string ⟨#[]⟩), (.int .u64 0)])) .nil (.eff (.st 2) (.cons (.bv 1) (.cons (.bv 0) .nil)) (.done [(6, (.bv 1))] none)))))) h6_9)
@[simp] theorem h6_10_wp : type_of% (@wpH h6_10 _ h6_10.eq_1) := wpH h6_10.eq_1
def h6_11 : HC := (.seq (.block 2 h6_10) h6_1)
@[simp] theorem h6_11_wp : type_of% (@wpH h6_11 _ h6_11.eq_1) := wpH h6_11.eq_1
def h6_12 : HC := (.seq (.br (.chk none (.bin .lss) (.cons (.inp 12) (.cons (.inp 11) .nil)) (.done [] (some (.op (.bin .lss) (.cons (.inp 12) (.cons (.inp 11) .nil)))))) .skip (.exit 1)) h6_11)
@[simp] theorem h6_12_wp : type_of% (@wpH h6_12 _ h6_12.eq_1) := wpH h6_12.eq_1
def h6_13 : HC := (.loop h6_12)
@[simp] theorem h6_13_wp : type_of% (@wpH h6_13 _ h6_13.eq_1) := wpH h6_13.eq_1
def h6_14 : HC := (.seq (.block 1 h6_13) h6_0)
@[simp] theorem h6_14_wp : type_of% (@wpH h6_14 _ h6_14.eq_1) := wpH h6_14.eq_1
def h6_15 : HC := (.seq (.reg (.chk none .lenL (.cons (.inp 1) .nil) (.done [(10, (.inp 1)), (11, (.op .lenL (.cons (.inp 1) .nil))), (12, (.cst (.int .i64 0)))] none))) h6_14)
@[simp] theorem h6_15_wp : type_of% (@wpH h6_15 _ h6_15.eq_1) := wpH h6_15.eq_1
def h6_16 : HC := (.seq (.reg (.eff (.mkm 77 false) .nil (.chk none (.build #[(.map none)] [(0, 1)] [0]) (.cons (.bv 0) .nil) (.chk none (.build #[(.map none), (.int .i64 0), (.slice none 0 0), (.int .u64 0), (.int .u64 0)] [(0, 1), (1, 1), (2, 1), (3, 1), (4, 1)] [0, 1, 3, 4]) (.cons (.op (.build #[(.map none)] [(0, 1)] [0]) (.cons (.bv 0) .nil)) (.cons (.inp 0) (.cons (.inp 2) (.cons (.inp 2) .nil)))) (.eff (.box 81) (.cons (.op (.build #[(.map none), (.int .i64 0), (.slice none 0 0), (.int .u64 0), (.int .u64 0)] [(0, 1), (1, 1), (2, 1), (3, 1), (4, 1)] [0, 1, 3, 4]) (.cons (.op (.build #[(.map none)] [(0, 1)] [0]) (.cons (.bv 0) .nil)) (.cons (.inp 0) (.cons (.inp 2) (.cons (.inp 2) .nil))))) .nil) (.done [(5, (.bv 1))] none)))))) h6_15)
@[simp] theorem h6_16_wp : type_of% (@wpH h6_16 _ h6_16.eq_1) := wpH h6_16.eq_1
def h6_17 : HC := (.seq (.reg (.done [(3, (.cst (.pointer none))), (4, (.cst (.int .i64 2)))] none)) .ret)
@[simp] theorem h6_17_wp : type_of% (@wpH h6_17 _ h6_17.eq_1) := wpH h6_17.eq_1
def h6_18 : HC := (.seq (.reg (.done [(3, (.cst (.pointer none))), (4, (.cst (.int .i64 144)))] none)) .ret)
@[simp] theorem h6_18_wp : type_of% (@wpH h6_18 _ h6_18.eq_1) := wpH h6_18.eq_1
def h6_19 : HC := (.seq (.reg (.done [(3, (.cst (.pointer none))), (4, (.cst (.int .i64 141)))] none)) .ret)
@[simp] theorem h6_19_wp : type_of% (@wpH h6_19 _ h6_19.eq_1) := wpH h6_19.eq_1
def h6_20 : HC := (.seq (.reg (.done [(3, (.cst (.pointer none))), (4, (.cst (.int .i64 142)))] none)) .ret)
@[simp] theorem h6_20_wp : type_of% (@wpH h6_20 _ h6_20.eq_1) := wpH h6_20.eq_1
def h6_21 : HC := (.br (.chk none .lenL (.cons (.inp 1) .nil) (.chk none (.bin .eql) (.cons (.op .lenL (.cons (.inp 1) .nil)) (.cons (.cst (.int .i64 0)) .nil)) (.bnd (.op (.bin .eql) (.cons (.op .lenL (.cons (.inp 1) .nil)) (.cons (.cst (.int .i64 0)) .nil))) (.chk (some ((.bv 0), false)) (.idxL 2) (.cons (.inp 1) (.cons (.cst (.int .i64 0)) .nil)) (.chk (some ((.bv 0), false)) (.fld 0) (.cons (.op (.idxL 2) (.cons (.inp 1) (.cons (.cst (.int .i64 0)) .nil))) .nil) (.ite (.bv 0) false (.eff (.ld false 1) (.cons (.ite (.bv 0) false (.op (.fld 0) (.cons (.op (.idxL 2) (.cons (.inp 1) (.cons (.cst (.int .i64 0)) .nil))) .nil)) (.cst (.tuple #[]))) .nil) (.chk none (.bin .neq) (.cons (.bv 1) (.cons (.cst (.string ⟨#[98, 97, 110, 107]⟩)) .nil)) (.isb none (.bv 0) (.done [] (some (.op (.bin .neq) (.cons (.bv 1) (.cons (.cst (.string ⟨#[98, 97, 110, 107]⟩)) .nil)))))))) (.isb none (.bv 0) (.done [] (some (.cst (.bool true))))))))))) h6_20 .skip)
@[simp] theorem h6_21_wp : type_of% (@wpH h6_21 _ h6_21.eq_1) := wpH h6_21.eq_1
def h6_22 : HC := (.br (.chk none .lenL (.cons (.inp 1) .nil) (.chk none (.bin .gtr) (.cons (.op .lenL (.cons (.inp 1) .nil)) (.cons (.inp 0) .nil)) (.done [] (some (.op (.bin .gtr) (.cons (.op .lenL (.cons (.inp 1) .nil)) (.cons (.inp 0) .nil))))))) h6_19 h6_21)
@[simp] theorem h6_22_wp : type_of% (@wpH h6_22 _ h6_22.eq_1) := wpH h6_22.eq_1
def h6_23 : HC := (.br (.chk none (.bin .gtr) (.cons (.inp 2) (.cons (.cst (.int .u64 4611686018427387904)) .nil)) (.done [] (some (.op (.bin .gtr) (.cons (.inp 2) (.cons (.cst (.int .u64 4611686018427387904)) .nil)))))) h6_18 h6_22)
@[simp] theorem h6_23_wp : type_of% (@wpH h6_23 _ h6_23.eq_1) := wpH h6_23.eq_1
def h6_24 : HC := (.br (.chk none (.bin .lss) (.cons (.inp 0) (.cons (.cst (.int .i64 1)) .nil)) (.bnd (.op (.bin .lss) (.cons (.inp 0) (.cons (.cst (.int .i64 1)) .nil))) (.chk (some ((.bv 0), false)) (.bin .gtr) (.cons (.inp 0) (.cons (.cst (.int .i64 64)) .nil)) (.isb none (.bv 0) (.done [] (some (.ite (.bv 0) true (.cst (.bool true)) (.op (.bin .gtr) (.cons (.inp 0) (.cons (.cst (.int .i64 64)) .nil)))))))))) h6_17 h6_23)
@[simp] theorem h6_24_wp : type_of% (@wpH h6_24 _ h6_24.eq_1) := wpH h6_24.eq_1
def h6_25 : HC := (.seq (.block 0 h6_24) h6_16)
@[simp] theorem h6_25_wp : type_of% (@wpH h6_25 _ h6_25.eq_1) := wpH h6_25.eq_1
def l6 : Lifted := ⟨[0, 1, 2, 6, 7, 8, 10, 12, 13, 14, 48, 49, 50], 96, [.slot 3, .slot 4], (.seq (.reg (.done [(3, (.cst (.pointer none))), (4, (.cst (.int .i64 0)))] none)) h6_25)⟩
theorem l6_ok : liftFn U0 6 400 = some l6 := by kernel_rfl

def h72_0 : HC := (.seq (.reg (.chk none (.build #[(.string ⟨#[]⟩), (.int .u64 0)] [(0, 1), (1, 1)] [0]) (.cons (.cst (.string ⟨#[98, 97, 110, 107]⟩)) .nil) (.eff (.bsl 58 1 2 #[(.string ⟨#[]⟩), (.int .u64 0)] [0]) (.cons (.op (.build #[(.string ⟨#[]⟩), (.int .u64 0)] [(0, 1), (1, 1)] [0]) (.cons (.cst (.string ⟨#[98, 97, 110, 107]⟩)) .nil)) .nil) (.eff (.call 6) (.cons (.inp 0) (.cons (.bv 0) (.cons (.cst (.int .u64 0)) .nil))) (.chk none (.ext 0) (.cons (.bv 1) .nil) (.chk none (.ext 1) (.cons (.bv 1) .nil) (.done [(1, (.op (.ext 0) (.cons (.bv 1) .nil))), (2, (.op (.ext 1) (.cons (.bv 1) .nil)))] none))))))) .ret)
@[simp] theorem h72_0_wp : type_of% (@wpH h72_0 _ h72_0.eq_1) := wpH h72_0.eq_1
def l72 : Lifted := ⟨[0, 2, 3], 10, [.slot 1, .slot 2], (.seq (.reg (.done [(1, (.cst (.pointer none))), (2, (.cst (.int .i64 0)))] none)) h72_0)⟩
theorem l72_ok : liftFn U0 72 400 = some l72 := by kernel_rfl
def bankB : List UInt8 := [98, 97, 110, 107]
def stepE (P : Ps) (a : Ac) : Int := if (openF P a.name).2.1 = 0 then (if P.held < a.coins then 144 else 0) else (openF P a.name).2.1
def stepP (P : Ps) (a : Ac) : Ps := { P with held := P.held - a.coins, rows := P.rows ++ [a] }
def loadL (P : Ps) : List Ac → Int × Ps
  | [] => (0, P)
  | a :: l => if stepE P a = 0 then loadL (stepP P a) l else (stepE P a, P)
def loadF (lim : Int) (rows : List Ac) (sup : Int) : Int × Ps :=
  if 1 ≤ lim ∧ lim ≤ 64 then
    if 4611686018427387904 < sup then (144, ⟨0, [], 0, 0⟩)
    else if lim < rows.length then (141, ⟨0, [], 0, 0⟩)
    else if (rows.getD 0 ⟨[], 0⟩).name = bankB then loadL ⟨lim, [], sup, sup⟩ rows
    else (142, ⟨0, [], 0, 0⟩)
  else (2, ⟨0, [], 0, 0⟩)
theorem open_ok {P : Ps} {x : List UInt8} (h : (openF P x).2.1 = 0) : (openF P x).2.2 = { P with rows := P.rows ++ [⟨x, 0⟩] } ∧ askB (keyF x) (keys P.rows) = false ∧ (P.rows.length : Int) ≠ P.lim ∧ (checkF x).2 = 0 := by
  unfold openF at h ⊢
  split at h
  · rename_i h1
    rw [if_pos h1]
    split at h
    · cases h
    · rename_i h2
      rw [if_neg h2]
      split at h
      · cases h
      · rename_i h3
        rw [if_neg h3]
        exact ⟨rfl, by simpa using h2, h3, h1⟩
  · rename_i h1
    exact absurd h h1
theorem open_bad {P : Ps} {x : List UInt8} (h : (openF P x).2.1 ≠ 0) : (openF P x).2.2 = P := by
  unfold openF at h ⊢
  split
  · split
    · rfl
    · split
      · rfl
      · rename_i h1 h2 h3
        rw [if_pos h1, if_neg h2, if_neg h3] at h
        exact absurd rfl h
  · rfl
def cls1 (X Y : World → Prop) : List Value → World → Prop
  | [], w => X w
  | _ :: _, w => Y w
@[simp] theorem cls1_nil (X Y : World → Prop) (w : World) : cls1 X Y [] w = X w := rfl
@[simp] theorem cls1_cons (X Y : World → Prop) (v : Value) (l : List Value) (w : World) : cls1 X Y (v :: l) w = Y w := rfl
theorem cls1_low {X Y : World → Prop} {R : Prop} {vs : List Value} {w : World} (h1 : X w → R) (h2 : Y w → R) (h : cls1 X Y vs w) : R := by
  cases vs with
  | nil => exact h1 h
  | cons _ _ => exact h2 h
theorem setC_last (l : List Ac) (x : List UInt8) (c : Int) : setC (l ++ [⟨x, 0⟩]) l.length c = l ++ [⟨x, c⟩] := by
  simp [setC]
theorem load_rest (lim : Int) (rows : List Ac) (sup : Int) (ra : Option Addr) (rcap : Nat) (w0 w : World) (A : Asn) (hl : rows.length ≤ 64) (hsup : 0 ≤ sup ∧ sup ≤ 4611686018427387904) (hn : ∀ x ∈ rows, x.name.length ≤ 1048576) (hc : ∀ x ∈ rows, 0 ≤ x.coins ∧ x.coins < 18446744073709551616)
    (hrow : Row w0 A (.slice ra rows.length rcap) rows.length 2 (flat rows)) (s : St w0 A w) :
    HC.wp U0 h6_16 (endQ Tryz.prog [RV.slot 3, RV.slot 4] fun r w' => if (loadL ⟨lim, [], sup, sup⟩ rows).1 = 0 then ∃ q, r = .tuple #[.pointer (some ⟨q, 0, none⟩), .int .i64 0] ∧ St w0 (A * pur q (loadL ⟨lim, [], sup, sup⟩ rows).2) w' else r = .tuple #[.pointer none, .int .i64 (loadL ⟨lim, [], sup, sup⟩ rows).1] ∧ St w0 A w')
      [.int .i64 lim, .slice ra rows.length rcap, .int .u64 sup, .pointer none, .int .i64 0, undef, undef, undef, undef, undef, undef, undef, undef] w := by
  simp
  refine eff_mkm s ?_
  intro m w1 s1
  simp [Instr.fill, Value.cells]
  refine eff_box s1 ?_
  intro p w2 s2
  simp
  have s3 : St w0 (A * pur p ⟨lim, [], sup, sup⟩) w2 := pclose (m := m) (v := .slice none 0 0) (P := ⟨lim, [], sup, sup⟩) (St.own_nil (s2.to (by ac_rfl)) _ _)
  clear s s1 s2
  generalize hP0 : (⟨lim, [], sup, sup⟩ : Ps) = P0 at *
  refine loopI (fun env w' => ∃ (i : Nat) (P : Ps) (o6 o7 o8 o9 : Value), env = [.int .i64 lim, .slice ra rows.length rcap, .int .u64 sup, .pointer none, .int .i64 0, .pointer (some ⟨p, 0, none⟩), o6, o7, o8, o9, .slice ra rows.length rcap, .int .i64 rows.length, .int .i64 i] ∧ i ≤ rows.length ∧
      loadL P0 rows = loadL P (rows.drop i) ∧ P.rows = rows.take i ∧ P.lim = lim ∧ P.sup = sup ∧ 0 ≤ P.held ∧ P.held ≤ sup ∧ St w0 (A * pur p P) w')
    (fun env _ => rows.length - slotN env 12) ⟨0, P0, _, _, _, _, rfl, by omega, rfl, by rw [← hP0]; rfl, by rw [← hP0], by rw [← hP0], by rw [← hP0]; exact hsup.1, by rw [← hP0]; exact Int.le_refl _, s3⟩ ?_
  clear s3
  rintro LQ env w' ⟨i, P, o6, o7, o8, o9, rfl, hi, hL, hPr, hPl, hPs, hh0, hh1, s⟩ hN hE hR
  simp
  refine cndI (fun h => ?_) (fun h => ?_)
  · simp at h
    have h : i < rows.length := by omega
    obtain ⟨g, o, gcap, hv, hcell⟩ := hrow.at (by omega)
    cases hv
    have hPlen : P.rows.length = i := by rw [hPr, List.length_take]; omega
    have hmem : rows[i] ∈ rows := List.getElem_mem h
    have hdrop : rows.drop i = rows[i] :: rows.drop (i + 1) := List.drop_eq_getElem_cons h
    have htk : rows.take (i + 1) = rows.take i ++ [rows[i]] := List.take_succ_eq_append_getElem h
    rw [hdrop] at hL
    have hna := hn _ hmem
    have hca := hc _ hmem
    obtain ⟨a, ha⟩ : ∃ a, rows[i] = a := ⟨_, rfl⟩
    rw [ha] at hmem hdrop htk hna hca hL
    simp [h]
    refine eff_ldcs (vs := a.cs) (fun j u hu => by rw [Nat.add_assoc]; exact hcell _ s.drop _ _ (flat_at h j u (by rw [ha]; exact hu))) rfl ?_
    simp
    refine eff_new s ?_
    intro b w3 s1
    simp
    refine eff_stA (vs := a.cs) s1 rfl rfl (cs_one _) (by simp) ?_
    intro w4 s2
    have s2 : St w0 (A * pur p P * pt b (.cells a.cs.toArray 58 (0, 0))) w4 := by simpa using s2
    simp
    refine eff_ldc (v := .string (mk a.name)) (by rw [cell_of s2.look]; rfl) ?_
    simp
    refine eff_call ((Open_spec p P a.name w0 w4 (A * pt b (.cells a.cs.toArray 58 (0, 0))) hna (by omega) (s2.to (by ac_rfl))).mono ?_)
    rintro r w5 ⟨rfl, s3⟩
    simp
    refine cndI (fun h1 => ?_) (fun h1 => ?_)
    · simp at h1
      have hse : stepE P a = (openF P a.name).2.1 := by unfold stepE; rw [if_neg h1]
      have hLL : loadL P0 rows = (stepE P a, P) := by rw [hL, loadL, if_neg (by rw [hse]; exact h1)]
      simp
      refine hR _ _ ?_
      simp
      rw [hLL, hse]
      simp [h1]
      rw [open_bad h1] at s3
      exact s3.drop.drop
    simp at h1
    obtain ⟨ho, hask, hlen, hchk⟩ := open_ok h1
    rw [ho] at s3
    simp
    obtain ⟨m2, v2, s4⟩ := popen s3
    clear s3
    generalize hB : (A * pt b (.cells a.cs.toArray 58 (0, 0)) * pt4 p { P with rows := P.rows ++ [⟨a.name, 0⟩] } m2 v2 * mpt m2 (P.rows ++ [(⟨a.name, 0⟩ : Ac)]) * own 58 2 v2 (P.rows ++ [(⟨a.name, 0⟩ : Ac)]).length (flat (P.rows ++ [(⟨a.name, 0⟩ : Ac)]))) = B
    have sB : St w0 B w5 := hB ▸ s4
    have hpc : ∀ {w}, St w0 B w → w.cell? ⟨p, 4, none⟩ = some (.int .u64 P.held) := fun h => by rw [← hB] at h; rw [cell_of h.drop.drop.look]; rfl
    have hbc : ∀ {w}, St w0 B w → w.cell? ⟨b, 1, none⟩ = some (.int .u64 a.coins) := fun h => by rw [← hB] at h; rw [cell_of h.drop.drop.drop.look]; rfl
    refine regmI (fun vs w => match vs with
      | [] => St w0 B w
      | r :: _ => r = .tuple #[.int .u64 (if P.held < a.coins then 0 else P.held - a.coins), .int .i64 (if P.held < a.coins then 11 else 0)] ∧ St w0 B w) sB.drew ?_
    simp
    refine effm_ldc (v := .int .u64 P.held) (fun vs' w he hw => ?_) ?_
    · match vs', hw with
      | [], hw => exact hpc hw
      | _ :: _, hw => exact hpc hw.2
    simp
    refine effm_ldc (v := .int .u64 a.coins) (fun vs' w he hw => ?_) ?_
    · match vs', hw with
      | [], hw => exact hbc hw
      | _ :: _, hw => exact hbc hw.2
    simp
    refine effm_mv rfl (fun w hw => eff_call ((take_spec P.held a.coins w (by omega) (by omega)).mono fun r w' h => ?_)) (fun r hr => ?_)
    · obtain ⟨rfl, rfl⟩ := h; exact ⟨rfl, hw⟩
    obtain ⟨_, rfl, _⟩ := hr
    simp
    intro w6 s6
    refine cndI (fun h2 => ?_) (fun h2 => ?_)
    · simp at h2
      have hse : stepE P a = 144 := by unfold stepE; rw [if_pos h1, if_pos h2]
      have hLL : loadL P0 rows = (stepE P a, P) := by rw [hL, loadL, if_neg (by rw [hse]; decide)]
      simp
      refine hR _ _ ?_
      simp
      rw [hLL, hse]
      simp
      rw [← hB] at s6
      exact s6.drop.drop.drop.drop
    simp at h2
    simp
    rw [if_neg (by omega)]
    rw [← hB] at s6
    refine eff_st1 (s6.to (B := A * pt b (.cells a.cs.toArray 58 (0, 0)) * mpt m2 (P.rows ++ [(⟨a.name, 0⟩ : Ac)]) * own 58 2 v2 (P.rows ++ [(⟨a.name, 0⟩ : Ac)]).length (flat (P.rows ++ [(⟨a.name, 0⟩ : Ac)])) * pt4 p { P with rows := P.rows ++ [⟨a.name, 0⟩] } m2 v2) (by ac_rfl)) rfl (by simp) ?_
    intro w7 s7
    simp only [List.setIfInBounds_toArray, List.set_cons_succ, List.set_cons_zero] at s7
    simp
    obtain ⟨g2, cap2, hv, _, _⟩ := s4.own_at (by simp)
    subst hv
    have hPl1 : (P.rows ++ [(⟨a.name, 0⟩ : Ac)]).length = i + 1 := by simp [hPlen]
    have s8 : St w0 (A * pt b (.cells a.cs.toArray 58 (0, 0)) * mpt m2 (P.rows ++ [(⟨a.name, 0⟩ : Ac)]) * pt4 p { P with held := P.held - a.coins } m2 (.slice (some ⟨g2, 0, none⟩) (P.rows ++ [(⟨a.name, 0⟩ : Ac)]).length cap2) * own 58 2 (.slice (some ⟨g2, 0, none⟩) (P.rows ++ [(⟨a.name, 0⟩ : Ac)]).length cap2) (P.rows ++ [(⟨a.name, 0⟩ : Ac)]).length (flat (P.rows ++ [(⟨a.name, 0⟩ : Ac)]))) w7 := s7.swap
    clear s7 s6
    have hii : i < (P.rows ++ [(⟨a.name, 0⟩ : Ac)]).length := by omega
    have hst : setC (P.rows ++ [(⟨a.name, 0⟩ : Ac)]) i a.coins = P.rows ++ [a] := by rw [← hPlen]; exact setC_last _ _ _
    have hfl := flat_len (P.rows ++ [(⟨a.name, 0⟩ : Ac)])
    generalize hC0 : (A * pt b (.cells a.cs.toArray 58 (0, 0)) * mpt m2 (P.rows ++ [(⟨a.name, 0⟩ : Ac)]) * pt4 p { P with held := P.held - a.coins } m2 (.slice (some ⟨g2, 0, none⟩) (P.rows ++ [(⟨a.name, 0⟩ : Ac)]).length cap2)) = C0 at s8
    have hpc : ∀ {w}, St w0 C0 w → w.cell? ⟨p, 2, none⟩ = some (.slice (some ⟨g2, 0, none⟩) (i + 1) cap2) := fun h => by rw [← hC0] at h; rw [cell_of h.look, ← hPl1]; rfl
    have hbc : ∀ {w}, St w0 C0 w → w.cell? ⟨b, 1, none⟩ = some (.int .u64 a.coins) := fun h => by rw [← hC0] at h; rw [cell_of h.drop.drop.look]; rfl
    refine regmI (cls1 (St w0 (C0 * own 58 2 (.slice (some ⟨g2, 0, none⟩) (P.rows ++ [(⟨a.name, 0⟩ : Ac)]).length cap2) (P.rows ++ [(⟨a.name, 0⟩ : Ac)]).length (flat (P.rows ++ [(⟨a.name, 0⟩ : Ac)]))))
      (St w0 (C0 * own 58 2 (.slice (some ⟨g2, 0, none⟩) (P.rows ++ [(⟨a.name, 0⟩ : Ac)]).length cap2) (P.rows ++ [(⟨a.name, 0⟩ : Ac)]).length (flat (P.rows ++ [a]))))) s8.drew ?_
    simp
    refine effm_ldc (v := .slice (some ⟨g2, 0, none⟩) (i + 1) cap2) (fun vs' w he hw => cls1_low (fun h => hpc h.drop) (fun h => hpc h.drop) hw) ?_
    simp
    refine effm_ldc (v := .slice (some ⟨g2, 0, none⟩) (i + 1) cap2) (fun vs' w he hw => cls1_low (fun h => hpc h.drop) (fun h => hpc h.drop) hw) ?_
    simp
    try simp (disch := omega) only [wrap64]
    refine effm_ldc (v := .int .u64 a.coins) (fun vs' w he hw => cls1_low (fun h => hbc h.drop) (fun h => hbc h.drop) hw) ?_
    have hwi : IntKind.i64.wrap (i : Int) = i := wrap64 (by omega) (by omega)
    simp [hwi]
    refine ⟨by omega, ?_⟩
    refine effm_mv (by rfl) (fun w hw => ?_) (fun r hr => ?_)
    · rw [cls1_nil] at hw
      refine eff_stC (u := .int .u64 a.coins) hw (by rw [hfl, hPl1]; omega) rfl fun w' h => ?_
      rw [setC_at hii, hst] at h
      exact h
    simp
    intro w8 s9
    try simp (disch := omega) only [wrap64]
    have hse : stepE P a = 0 := by unfold stepE; rw [if_pos h1, if_neg (by omega)]
    refine hN _ _ ⟨i + 1, stepP P a, _, _, _, _, by simp; exact ⟨rfl, rfl, rfl, rfl⟩, by omega, ?_, ?_, hPl, hPs, ?_, ?_, ?_⟩ (by simp [slotN]; omega)
    · rw [hL, loadL, if_pos hse]
    · rw [htk, ← hPr]; rfl
    · show 0 ≤ P.held - a.coins; omega
    · show P.held - a.coins ≤ sup; omega
    · have e1 : (P.rows ++ [(⟨a.name, 0⟩ : Ac)]).length = (stepP P a).rows.length := by simp [stepP]
      have e2 : keys (P.rows ++ [(⟨a.name, 0⟩ : Ac)]) = keys (stepP P a).rows := by simp [stepP, keys]
      have e3 : P.rows.length + 1 = (stepP P a).rows.length := by simp [stepP]
      rw [← hC0, mpt, e2, e1, e3] at s9
      have s10 : St w0 (A * pt b (.cells a.cs.toArray 58 (0, 0)) * mpt m2 (stepP P a).rows * pt4 p { P with held := P.held - a.coins } m2 (.slice (some ⟨g2, 0, none⟩) (stepP P a).rows.length cap2) * own 58 2 (.slice (some ⟨g2, 0, none⟩) (stepP P a).rows.length cap2) (stepP P a).rows.length (flat (P.rows ++ [a]))) w8 := s9
      refine pclose (m := m2) (v := .slice (some ⟨g2, 0, none⟩) (stepP P a).rows.length cap2) ?_
      exact St.cut (pt b (.cells a.cs.toArray 58 (0, 0))) s10 (by show _ = A * pt4 p { P with held := P.held - a.coins } m2 (.slice (some ⟨g2, 0, none⟩) (stepP P a).rows.length cap2) * mpt m2 (stepP P a).rows * own 58 2 (.slice (some ⟨g2, 0, none⟩) (stepP P a).rows.length cap2) (stepP P a).rows.length (flat (P.rows ++ [a])) * _; ac_rfl)
  simp at h
  simp
  refine hE _ _ _ ?_
  simp
  have hie : i = rows.length := by omega
  rw [hie, List.drop_length] at hL
  have hLL : loadL P0 rows = (0, P) := hL
  rw [hLL]
  simp
  exact s
theorem Load_spec (lim : Int) (rows : List Ac) (sup : Int) (v : Value) (w0 w : World) (A : Asn) (hl : rows.length ≤ 1048576) (hsup : 0 ≤ sup ∧ sup < 18446744073709551616) (hn : ∀ x ∈ rows, x.name.length ≤ 1048576) (hc : ∀ x ∈ rows, 0 ≤ x.coins ∧ x.coins < 18446744073709551616)
    (hrow : Row w0 A v rows.length 2 (flat rows)) (s : St w0 A w) :
    CallW Tryz.prog 6 [.int .i64 lim, v, .int .u64 sup] (fun r w' => if (loadF lim rows sup).1 = 0 then ∃ q, r = .tuple #[.pointer (some ⟨q, 0, none⟩), .int .i64 0] ∧ St w0 (A * pur q (loadF lim rows sup).2) w' else r = .tuple #[.pointer none, .int .i64 (loadF lim rows sup).1] ∧ St w0 A w') w := by
  obtain ⟨ra, rcap, rfl⟩ := hrow.val
  refine callW_of_lift l6_ok (by simp [l6]) ?_
  simp [l6]
  refine cndI (fun h => ?_) (fun h => ?_)
  · simp at h
    have e : (loadF lim rows sup).1 = 2 := by unfold loadF; rw [if_neg (by omega)]
    simp [e]
    exact s
  simp at h
  simp
  refine cndI (fun h1 => ?_) (fun h1 => ?_)
  · simp at h1
    have e : (loadF lim rows sup).1 = 144 := by unfold loadF; rw [if_pos (by omega), if_pos h1]
    simp [e]
    exact s
  simp at h1
  simp
  refine cndI (fun h2 => ?_) (fun h2 => ?_)
  · simp at h2
    have e : (loadF lim rows sup).1 = 141 := by unfold loadF; rw [if_pos (by omega), if_neg (by omega), if_pos h2]
    simp [e]
    exact s
  simp at h2
  by_cases hnil : rows = []
  · subst hnil
    simp
    have e : (loadF lim [] sup).1 = 142 := by unfold loadF; rw [if_pos (by omega), if_neg (by omega), if_neg (by simpa using h2), if_neg (by decide)]
    simp [e]
    exact s
  have hpos : 0 < rows.length := List.length_pos_iff.2 hnil
  obtain ⟨g, o, gcap, hv, hcell⟩ := hrow.at hpos
  cases hv
  simp [hnil, hpos]
  refine eff_ldc (v := .string (mk rows[0].name)) (hcell w s 0 _ (flat_name hpos)) ?_
  simp
  refine cndI (fun h3 => ?_) (fun h3 => ?_)
  · simp at h3
    have hnb : (rows.getD 0 ⟨[], 0⟩).name ≠ bankB := by
      simpa [hpos, bankB] using h3
    have e : (loadF lim rows sup).1 = 142 := by unfold loadF; rw [if_pos (by omega), if_neg (by omega), if_neg (by omega), if_neg hnb]
    rw [e]
    simp
    exact s
  have hb : (rows.getD 0 ⟨[], 0⟩).name = bankB := by
    simpa [hpos, bankB] using h3
  have e : loadF lim rows sup = loadL ⟨lim, [], sup, sup⟩ rows := by unfold loadF; rw [if_pos (by omega), if_neg (by omega), if_neg (by omega), if_pos hb]
  rw [e]
  simp
  simpa using load_rest lim rows sup _ rcap w0 w A (by omega) (by omega) hn hc hrow s
theorem bank_ok : (checkF bankB).2 = 0 := by decide +kernel
theorem new_ok {lim : Int} (h : 1 ≤ lim ∧ lim ≤ 64) : loadF lim [⟨bankB, 0⟩] 0 = (0, ⟨lim, [⟨bankB, 0⟩], 0, 0⟩) := by
  unfold loadF
  rw [if_pos h, if_neg (by decide), if_neg (by simp; omega), if_pos (by rfl)]
  have ho : (openF ⟨lim, [], 0, 0⟩ bankB).2.1 = 0 := by
    unfold openF
    rw [if_pos bank_ok]
    have : askB (keyF bankB) (keys []) = false := rfl
    simp [this]
    rw [if_neg (by omega)]
  have hs : stepE ⟨lim, [], 0, 0⟩ ⟨bankB, 0⟩ = 0 := by
    unfold stepE
    rw [if_pos ho]; rfl
  rw [loadL, if_pos hs]
  rfl
theorem new_bad {lim : Int} (h : ¬ (1 ≤ lim ∧ lim ≤ 64)) : (loadF lim [⟨bankB, 0⟩] 0).1 = 2 := by
  unfold loadF; rw [if_neg h]
theorem New_spec (lim : Int) (w0 w : World) (A : Asn) (s : St w0 A w) :
    CallW Tryz.prog 72 [.int .i64 lim] (fun r w' => if 1 ≤ lim ∧ lim ≤ 64 then ∃ q, r = .tuple #[.pointer (some ⟨q, 0, none⟩), .int .i64 0] ∧ St w0 (A * pur q ⟨lim, [⟨bankB, 0⟩], 0, 0⟩) w' else r = .tuple #[.pointer none, .int .i64 2] ∧ St w0 A w') w := by
  refine callW_of_lift l72_ok (by simp [l72]) ?_
  simp [l72, Instr.fill, Value.cells]
  refine eff_bslV s rfl ?_
  intro c w1 s1
  simp
  have hrow : Row w0 (A * pt c (.cells (Ac.cs ⟨bankB, 0⟩).toArray 58 (0, 0))) (.slice (some ⟨c, 0, none⟩) 1 1) 1 2 (flat [⟨bankB, 0⟩]) :=
    ⟨rfl, _, _, rfl, Nat.le_refl _, .inr ⟨c, 0, rfl, fun w s j u hu => s.row_cells j u hu⟩⟩
  refine eff_call ((Load_spec lim [⟨bankB, 0⟩] 0 (.slice (some ⟨c, 0, none⟩) 1 1) w0 w1 _ (by decide) (by decide) (by simp [bankB]) (by simp) hrow s1).mono ?_)
  intro r w2 h2
  by_cases h : 1 ≤ lim ∧ lim ≤ 64
  · rw [new_ok h] at h2
    simp only [if_true] at h2
    obtain ⟨q, rfl, s2⟩ := h2
    simp [h]
    exact St.cut (pt c (.cells (Ac.cs ⟨bankB, 0⟩).toArray 58 (0, 0))) s2 (by ac_rfl)
  · have e := new_bad h
    rw [e] at h2
    simp only [if_neg (show ¬ (2 : Int) = 0 by decide)] at h2
    obtain ⟨rfl, s2⟩ := h2
    simp [h]
    exact s2.drop
end Go.HL.Pu

namespace Go.HL.Gd
open Go.HL Go.Proofs
set_option maxRecDepth 4000
set_option linter.unusedSimpArgs false
set_option linter.unusedVariables false
structure It where
  num : Int
  kind : Int
  acc : Int
  con : Int
deriving DecidableEq
def It.cs (x : It) : List Value := [.int .i64 x.num, .int .i64 x.kind, .int .i64 x.acc, .int .i64 x.con]
def flat (l : List It) : List Value := l.flatMap It.cs
theorem cs_len (x : It) : x.cs.length = 4 := rfl
theorem flat_len (l : List It) : (flat l).length = l.length * 4 := flat_length It.cs 4 cs_len l
theorem cs_one (x : It) : ∀ u ∈ x.cs, u.oneCell' = true := by
  intro u hu
  simp only [It.cs, List.mem_cons, List.not_mem_nil, or_false] at hu
  rcases hu with rfl | rfl | rfl | rfl <;> rfl
theorem flat_at {its : List It} {i : Nat} (h : i < its.length) : ∀ j u, (its[i].cs)[j]? = some u → (flat its)[i * 4 + j]? = some u := by
  intro j u hu
  have hj : j < 4 := (List.getElem?_eq_some_iff.1 hu).1
  rw [← hu]
  exact flat_get It.cs 4 cs_len its i j h hj
theorem flat_set2 {its : List It} {i : Nat} (h : i < its.length) (a c : Int) : ((flat its).set (i * 4 + 2) (.int .i64 a)).set (i * 4 + 3) (.int .i64 c) = flat (its.set i ⟨its[i].num, its[i].kind, a, c⟩) := by
  have e := flat_set It.cs 4 cs_len (⟨its[i].num, its[i].kind, a, c⟩ : It) its i h
  show _ = List.flatMap It.cs _
  rw [← e]
  have hl := flat_len its
  apply List.ext_getElem?
  intro k
  have hlen : i * 4 + 4 ≤ (its.flatMap It.cs).length := by
    have : (its.flatMap It.cs).length = its.length * 4 := flat_len its
    omega
  have tl : ((its.flatMap It.cs).take (i * 4)).length = i * 4 := by rw [List.length_take]; omega
  have hf : flat its = its.flatMap It.cs := rfl
  rw [hf]
  have c4 : (⟨its[i].num, its[i].kind, a, c⟩ : It).cs.length = 4 := rfl
  by_cases k1 : k < i * 4
  · rw [List.getElem?_set_ne (by omega), List.getElem?_set_ne (by omega), List.append_assoc, List.getElem?_append_left (by omega), List.getElem?_take, if_pos k1]
  by_cases k2 : k < i * 4 + 4
  · have g0 : ∀ j, j < 4 → (its.flatMap It.cs)[i * 4 + j]? = (its[i].cs)[j]? := fun j hj => flat_get It.cs 4 cs_len its i j h hj
    rw [List.append_assoc, List.getElem?_append_right (by omega), tl, List.getElem?_append_left (by rw [c4]; omega)]
    obtain ⟨j, rfl⟩ : ∃ j, k = i * 4 + j := ⟨k - i * 4, by omega⟩
    have hj : j < 4 := by omega
    rw [Nat.add_sub_cancel_left]
    have : j = 0 ∨ j = 1 ∨ j = 2 ∨ j = 3 := by omega
    rcases this with rfl | rfl | rfl | rfl
    · rw [List.getElem?_set_ne (by omega), List.getElem?_set_ne (by omega), g0 0 (by omega)]; rfl
    · rw [List.getElem?_set_ne (by omega), List.getElem?_set_ne (by omega), g0 1 (by omega)]; rfl
    · rw [List.getElem?_set_ne (by omega), List.getElem?_set_self (by omega)]; rfl
    · rw [List.getElem?_set_self (by rw [List.length_set]; omega)]; rfl
  · rw [List.getElem?_set_ne (by omega), List.getElem?_set_ne (by omega), List.append_assoc, List.getElem?_append_right (by omega), tl, List.getElem?_append_right (by rw [c4]; omega), List.getElem?_drop, c4]
    congr 1
    omega
def gds (p : Nat) (lim : Int) (its : List It) : Asn := fun h => ∃ v, (pt p (.cells #[.int .i64 lim, v] 92 (0, 0)) * own 88 4 v its.length (flat its)) h
theorem gopen {w0 w : World} {A : Asn} {p : Nat} {lim : Int} {its : List It} (s : St w0 (A * gds p lim its) w) :
    ∃ v, St w0 (A * pt p (.cells #[.int .i64 lim, v] 92 (0, 0)) * own 88 4 v its.length (flat its)) w := by
  obtain ⟨g, h1, h2, h3, d, e, a, v, b⟩ := s.holds
  refine ⟨v, ?_⟩
  rw [sep_assoc]
  exact s.of ⟨g, h1, h2, h3, d, e, a, b⟩
theorem gclose {w0 w : World} {A : Asn} {p : Nat} {lim : Int} {its : List It} {v : Value}
    (s : St w0 (A * pt p (.cells #[.int .i64 lim, v] 92 (0, 0)) * own 88 4 v its.length (flat its)) w) : St w0 (A * gds p lim its) w := by
  rw [sep_assoc] at s
  obtain ⟨g, h1, h2, h3, d, e, a, b⟩ := s.holds
  exact s.of ⟨g, h1, h2, h3, d, e, a, v, b⟩
noncomputable abbrev G0 : PF Tryz.prog := PF.none _

def h36_0 : HC := (.seq (.reg (.chk none (.bin .geq) (.cons (.inp 0) (.cons (.cst (.int .i64 0)) .nil)) (.bnd (.op (.bin .geq) (.cons (.inp 0) (.cons (.cst (.int .i64 0)) .nil))) (.chk (some ((.bv 0), true)) (.bin .lss) (.cons (.inp 0) (.cons (.cst (.int .i64 64)) .nil)) (.isb none (.bv 0) (.done [(1, (.ite (.bv 0) true (.op (.bin .lss) (.cons (.inp 0) (.cons (.cst (.int .i64 64)) .nil))) (.cst (.bool false))))] none)))))) .ret)
@[simp] theorem h36_0_wp : type_of% (@wpH h36_0 _ h36_0.eq_1) := wpH h36_0.eq_1
def l36 : Lifted := ⟨[0, 2], 9, [.slot 1], (.seq (.reg (.done [(1, (.cst (.bool false)))] none)) h36_0)⟩
theorem l36_ok : liftFn G0 36 400 = some l36 := by kernel_rfl

def h34_0 : HC := (.seq (.reg (.chk none (.bin .geq) (.cons (.inp 0) (.cons (.cst (.int .i64 0)) .nil)) (.bnd (.op (.bin .geq) (.cons (.inp 0) (.cons (.cst (.int .i64 0)) .nil))) (.chk (some ((.bv 0), true)) (.bin .lss) (.cons (.inp 0) (.cons (.cst (.int .i64 16)) .nil)) (.isb none (.bv 0) (.done [(1, (.ite (.bv 0) true (.op (.bin .lss) (.cons (.inp 0) (.cons (.cst (.int .i64 16)) .nil))) (.cst (.bool false))))] none)))))) .ret)
@[simp] theorem h34_0_wp : type_of% (@wpH h34_0 _ h34_0.eq_1) := wpH h34_0.eq_1
def l34 : Lifted := ⟨[0, 2], 9, [.slot 1], (.seq (.reg (.done [(1, (.cst (.bool false)))] none)) h34_0)⟩
theorem l34_ok : liftFn G0 34 400 = some l34 := by kernel_rfl
def accF (a : Int) : Bool := decide (0 ≤ a) && decide (a < 64)
def kindF (a : Int) : Bool := decide (0 ≤ a) && decide (a < 16)
theorem account_spec (u : Int) (w : World) : CallW Tryz.prog 36 [.int .i64 u] (fun r w' => r = .bool (accF u) ∧ w' = w) w := by
  refine callW_of_lift l36_ok (by simp [l36]) ?_
  simp [l36, accF, condC_ite]
theorem kind_spec (u : Int) (w : World) : CallW Tryz.prog 34 [.int .i64 u] (fun r w' => r = .bool (kindF u) ∧ w' = w) w := by
  refine callW_of_lift l34_ok (by simp [l34]) ?_
  simp [l34, kindF, condC_ite]
def PS.ii {P : Program} (f : Nat) (k k' : IntKind) (g : Int → Int) (h : ∀ u w, CallW P f [.int k u] (fun r w' => r = .int k' (g u) ∧ w' = w) w) : PS P where
  f := f
  val args := match args with
    | [.int _ u] => .int k' (g u)
    | _ => undef
  ok args := match args with
    | [.int k' _] => k' = k
    | _ => False
  sound args w hok := by
    split at hok
    · subst hok; exact h _ w
    · exact hok.elim
def placeF (a n : Int) : Int := if a.tmod n < 0 then a.tmod n + n else a.tmod n
end Go.HL.Gd

namespace Go.HL.Gd
open Go.HL Go.Proofs
set_option maxRecDepth 4000
set_option linter.unusedSimpArgs false
set_option linter.unusedVariables false
noncomputable def accS : PS Tryz.prog := PS.ib 36 .i64 accF account_spec
noncomputable def kindS : PS Tryz.prog := PS.ib 34 .i64 kindF kind_spec
noncomputable abbrev G1 : PF Tryz.prog := PF.of [accS, kindS]
@[simp] theorem G1_a_val (args : List Value) : G1.val 36 args = accS.val args := rfl
@[simp] theorem G1_a_ok (args : List Value) : G1.ok 36 args = accS.ok args := rfl
@[simp] theorem G1_k_val (args : List Value) : G1.val 34 args = kindS.val args := rfl
@[simp] theorem G1_k_ok (args : List Value) : G1.ok 34 args = kindS.ok args := rfl
@[simp] theorem acc_val (u : Int) : accS.val [.int .i64 u] = .bool (accF u) := rfl
@[simp] theorem acc_ok (u : Int) : accS.ok [.int .i64 u] = (IntKind.i64 = .i64) := rfl
@[simp] theorem kind_val (u : Int) : kindS.val [.int .i64 u] = .bool (kindF u) := rfl
@[simp] theorem kind_ok (u : Int) : kindS.ok [.int .i64 u] = (IntKind.i64 = .i64) := rfl

def h35_0 : HC := (.seq (.reg (.chk none (.fld 0) (.cons (.inp 1) .nil) (.chk none (.fld 3) (.cons (.op (.fld 0) (.cons (.inp 1) .nil)) .nil) (.eff (.ld false 1) (.cons (.op (.fld 3) (.cons (.op (.fld 0) (.cons (.inp 1) .nil)) .nil)) .nil) (.chk none (.bin .gtr) (.cons (.bv 0) (.cons (.cst (.int .i64 0)) .nil)) (.done [(2, (.op (.bin .gtr) (.cons (.bv 0) (.cons (.cst (.int .i64 0)) .nil))))] none)))))) .ret)
@[simp] theorem h35_0_wp : type_of% (@wpH h35_0 _ h35_0.eq_1) := wpH h35_0.eq_1
def l35 : Lifted := ⟨[0, 1, 2], 7, [.slot 2], (.seq (.reg (.eff (.box 88) (.cons (.inp 0) .nil) (.done [(1, (.bv 0)), (2, (.cst (.bool false)))] none))) h35_0)⟩
theorem l35_ok : liftFn G1 35 400 = some l35 := by kernel_rfl

def h33_0 : HC := (.seq (.reg (.chk none (.build #[(.int .i64 0), (.slice none 0 0)] [(0, 1), (1, 1)] [0]) (.cons (.inp 0) .nil) (.eff (.box 92) (.cons (.op (.build #[(.int .i64 0), (.slice none 0 0)] [(0, 1), (1, 1)] [0]) (.cons (.inp 0) .nil)) .nil) (.done [(1, (.bv 0)), (2, (.cst (.int .i64 0)))] none)))) .ret)
@[simp] theorem h33_0_wp : type_of% (@wpH h33_0 _ h33_0.eq_1) := wpH h33_0.eq_1
def h33_1 : HC := (.seq (.reg (.done [(1, (.cst (.pointer none))), (2, (.cst (.int .i64 2)))] none)) .ret)
@[simp] theorem h33_1_wp : type_of% (@wpH h33_1 _ h33_1.eq_1) := wpH h33_1.eq_1
def h33_2 : HC := (.seq (.br (.chk none (.bin .lss) (.cons (.inp 0) (.cons (.cst (.int .i64 0)) .nil)) (.bnd (.op (.bin .lss) (.cons (.inp 0) (.cons (.cst (.int .i64 0)) .nil))) (.chk (some ((.bv 0), false)) (.bin .gtr) (.cons (.inp 0) (.cons (.cst (.int .i64 512)) .nil)) (.isb none (.bv 0) (.done [] (some (.ite (.bv 0) true (.cst (.bool true)) (.op (.bin .gtr) (.cons (.inp 0) (.cons (.cst (.int .i64 512)) .nil)))))))))) h33_1 .skip) h33_0)
@[simp] theorem h33_2_wp : type_of% (@wpH h33_2 _ h33_2.eq_1) := wpH h33_2.eq_1
def l33 : Lifted := ⟨[0, 2, 3], 13, [.slot 1, .slot 2], (.seq (.reg (.done [(1, (.cst (.pointer none))), (2, (.cst (.int .i64 0)))] none)) h33_2)⟩
theorem l33_ok : liftFn G1 33 400 = some l33 := by kernel_rfl

def h61_0 : HC := (.seq (.reg (.done [(3, (.inp 5)), (4, (.cst (.int .i64 0)))] none)) .ret)
@[simp] theorem h61_0_wp : type_of% (@wpH h61_0 _ h61_0.eq_1) := wpH h61_0.eq_1
def h61_1 : HC := (.seq (.reg (.chk none .chkp (.cons (.inp 0) .nil) (.chk none (.fld 1) (.cons (.op .chkp (.cons (.inp 0) .nil)) .nil) (.eff (.ld false 1) (.cons (.op (.fld 1) (.cons (.op .chkp (.cons (.inp 0) .nil)) .nil)) .nil) (.chk none (.build #[(.int .i64 0), (.int .i64 0), (.int .i64 0), (.int .i64 0)] [(0, 1), (1, 1), (2, 1), (3, 1)] [0, 1, 2]) (.cons (.inp 5) (.cons (.inp 1) (.cons (.inp 2) .nil))) (.chk none (.build #[(.int .i64 0), (.int .i64 0), (.int .i64 0), (.int .i64 0)] [(0, 4)] [0]) (.cons (.op (.build #[(.int .i64 0), (.int .i64 0), (.int .i64 0), (.int .i64 0)] [(0, 1), (1, 1), (2, 1), (3, 1)] [0, 1, 2]) (.cons (.inp 5) (.cons (.inp 1) (.cons (.inp 2) .nil)))) .nil) (.eff (.bsl 88 1 4 #[(.int .i64 0), (.int .i64 0), (.int .i64 0), (.int .i64 0)] [0]) (.cons (.op (.build #[(.int .i64 0), (.int .i64 0), (.int .i64 0), (.int .i64 0)] [(0, 4)] [0]) (.cons (.op (.build #[(.int .i64 0), (.int .i64 0), (.int .i64 0), (.int .i64 0)] [(0, 1), (1, 1), (2, 1), (3, 1)] [0, 1, 2]) (.cons (.inp 5) (.cons (.inp 1) (.cons (.inp 2) .nil)))) .nil)) .nil) (.eff (.app 90 90 88 4 32 (.agg #[(.int .i64 0), (.int .i64 0), (.int .i64 0), (.int .i64 0)])) (.cons (.bv 0) (.cons (.bv 1) .nil)) (.chk none .chkp (.cons (.inp 0) .nil) (.chk none (.fld 1) (.cons (.op .chkp (.cons (.inp 0) .nil)) .nil) (.eff (.st 1) (.cons (.op (.fld 1) (.cons (.op .chkp (.cons (.inp 0) .nil)) .nil)) (.cons (.bv 2) .nil)) (.done [] none)))))))))))) h61_0)
@[simp] theorem h61_1_wp : type_of% (@wpH h61_1 _ h61_1.eq_1) := wpH h61_1.eq_1
def h61_2 : HC := (.seq (.reg (.chk none .chkp (.cons (.inp 0) .nil) (.chk none (.fld 1) (.cons (.op .chkp (.cons (.inp 0) .nil)) .nil) (.eff (.ld false 1) (.cons (.op (.fld 1) (.cons (.op .chkp (.cons (.inp 0) .nil)) .nil)) .nil) (.chk none .lenL (.cons (.bv 0) .nil) (.chk none (.bin .add) (.cons (.op .lenL (.cons (.bv 0) .nil)) (.cons (.cst (.int .i64 1)) .nil)) (.done [(5, (.op (.bin .add) (.cons (.op .lenL (.cons (.bv 0) .nil)) (.cons (.cst (.int .i64 1)) .nil))))] none))))))) h61_1)
@[simp] theorem h61_2_wp : type_of% (@wpH h61_2 _ h61_2.eq_1) := wpH h61_2.eq_1
def h61_3 : HC := (.seq (.reg (.done [(3, (.cst (.int .i64 0))), (4, (.cst (.int .i64 1)))] none)) .ret)
@[simp] theorem h61_3_wp : type_of% (@wpH h61_3 _ h61_3.eq_1) := wpH h61_3.eq_1
def h61_4 : HC := (.seq (.reg (.done [(3, (.cst (.int .i64 0))), (4, (.cst (.int .i64 2)))] none)) .ret)
@[simp] theorem h61_4_wp : type_of% (@wpH h61_4 _ h61_4.eq_1) := wpH h61_4.eq_1
def h61_5 : HC := (.seq (.reg (.done [(3, (.cst (.int .i64 0))), (4, (.cst (.int .i64 152)))] none)) .ret)
@[simp] theorem h61_5_wp : type_of% (@wpH h61_5 _ h61_5.eq_1) := wpH h61_5.eq_1
def h61_6 : HC := (.seq (.reg (.done [(3, (.cst (.int .i64 0))), (4, (.cst (.int .i64 150)))] none)) .ret)
@[simp] theorem h61_6_wp : type_of% (@wpH h61_6 _ h61_6.eq_1) := wpH h61_6.eq_1
def h61_7 : HC := (.brq (some 0) (.chk none .chkp (.cons (.inp 0) .nil) (.chk none (.fld 1) (.cons (.op .chkp (.cons (.inp 0) .nil)) .nil) (.eff (.ld false 1) (.cons (.op (.fld 1) (.cons (.op .chkp (.cons (.inp 0) .nil)) .nil)) .nil) (.chk none .lenL (.cons (.bv 0) .nil) (.chk none .chkp (.cons (.inp 0) .nil) (.chk none (.fld 0) (.cons (.op .chkp (.cons (.inp 0) .nil)) .nil) (.eff (.ld false 1) (.cons (.op (.fld 0) (.cons (.op .chkp (.cons (.inp 0) .nil)) .nil)) .nil) (.chk none (.bin .geq) (.cons (.op .lenL (.cons (.bv 0) .nil)) (.cons (.bv 1) .nil)) (.done [] (some (.op (.bin .geq) (.cons (.op .lenL (.cons (.bv 0) .nil)) (.cons (.bv 1) .nil))))))))))))) h61_6 .skip)
@[simp] theorem h61_7_wp : type_of% (@wpH h61_7 _ h61_7.eq_1) := wpH h61_7.eq_1
def h61_8 : HC := (.br (.chk none (.cal 34) (.cons (.inp 1) .nil) (.chk none (.un .not) (.cons (.op (.cal 34) (.cons (.inp 1) .nil)) .nil) (.done [] (some (.op (.un .not) (.cons (.op (.cal 34) (.cons (.inp 1) .nil)) .nil)))))) h61_5 h61_7)
@[simp] theorem h61_8_wp : type_of% (@wpH h61_8 _ h61_8.eq_1) := wpH h61_8.eq_1
def h61_9 : HC := (.br (.chk none (.cal 36) (.cons (.inp 2) .nil) (.chk none (.un .not) (.cons (.op (.cal 36) (.cons (.inp 2) .nil)) .nil) (.done [] (some (.op (.un .not) (.cons (.op (.cal 36) (.cons (.inp 2) .nil)) .nil)))))) h61_4 h61_8)
@[simp] theorem h61_9_wp : type_of% (@wpH h61_9 _ h61_9.eq_1) := wpH h61_9.eq_1
def h61_10 : HC := (.br (.chk none (.eqNil false (.pointer 92) (.pointer none)) (.cons (.inp 0) .nil) (.done [] (some (.op (.eqNil false (.pointer 92) (.pointer none)) (.cons (.inp 0) .nil))))) h61_3 h61_9)
@[simp] theorem h61_10_wp : type_of% (@wpH h61_10 _ h61_10.eq_1) := wpH h61_10.eq_1
def h61_11 : HC := (.seq (.block 0 h61_10) h61_2)
@[simp] theorem h61_11_wp : type_of% (@wpH h61_11 _ h61_11.eq_1) := wpH h61_11.eq_1
def l61 : Lifted := ⟨[0, 1, 2, 6, 7, 8], 52, [.slot 3, .slot 4], (.seq (.reg (.done [(3, (.cst (.int .i64 0))), (4, (.cst (.int .i64 0)))] none)) h61_11)⟩
theorem l61_ok : liftFn G1 61 400 = some l61 := by kernel_rfl

def h148_0 : HC := (.seq (.reg (.done [(5, (.cst (.int .i64 0)))] none)) .ret)
@[simp] theorem h148_0_wp : type_of% (@wpH h148_0 _ h148_0.eq_1) := wpH h148_0.eq_1
def h148_1 : HC := (.seq (.reg (.chk none .chkp (.cons (.inp 6) .nil) (.chk none (.fld 0) (.cons (.op .chkp (.cons (.inp 6) .nil)) .nil) (.chk none (.fld 2) (.cons (.op (.fld 0) (.cons (.op .chkp (.cons (.inp 6) .nil)) .nil)) .nil) (.eff (.st 1) (.cons (.op (.fld 2) (.cons (.op (.fld 0) (.cons (.op .chkp (.cons (.inp 6) .nil)) .nil)) .nil)) (.cons (.inp 3) .nil)) (.chk none .chkp (.cons (.inp 6) .nil) (.chk none (.fld 0) (.cons (.op .chkp (.cons (.inp 6) .nil)) .nil) (.chk none (.fld 3) (.cons (.op (.fld 0) (.cons (.op .chkp (.cons (.inp 6) .nil)) .nil)) .nil) (.eff (.st 1) (.cons (.op (.fld 3) (.cons (.op (.fld 0) (.cons (.op .chkp (.cons (.inp 6) .nil)) .nil)) .nil)) (.cons (.inp 4) .nil)) (.done [] none)))))))))) h148_0)
@[simp] theorem h148_1_wp : type_of% (@wpH h148_1 _ h148_1.eq_1) := wpH h148_1.eq_1
def h148_2 : HC := (.seq (.reg (.chk none .chkp (.cons (.inp 0) .nil) (.chk none (.fld 1) (.cons (.op .chkp (.cons (.inp 0) .nil)) .nil) (.eff (.ld false 1) (.cons (.op (.fld 1) (.cons (.op .chkp (.cons (.inp 0) .nil)) .nil)) .nil) (.chk none (.bin .sub) (.cons (.inp 1) (.cons (.cst (.int .i64 1)) .nil)) (.chk none (.idxL 4) (.cons (.bv 0) (.cons (.op (.bin .sub) (.cons (.inp 1) (.cons (.cst (.int .i64 1)) .nil))) .nil)) (.done [(6, (.op (.idxL 4) (.cons (.bv 0) (.cons (.op (.bin .sub) (.cons (.inp 1) (.cons (.cst (.int .i64 1)) .nil))) .nil))))] none))))))) h148_1)
@[simp] theorem h148_2_wp : type_of% (@wpH h148_2 _ h148_2.eq_1) := wpH h148_2.eq_1
def h148_3 : HC := (.seq (.reg (.done [(5, (.cst (.int .i64 151)))] none)) .ret)
@[simp] theorem h148_3_wp : type_of% (@wpH h148_3 _ h148_3.eq_1) := wpH h148_3.eq_1
def h148_4 : HC := (.seq (.br (.chk none (.bin .lss) (.cons (.inp 1) (.cons (.cst (.int .i64 1)) .nil)) (.bnd (.op (.bin .lss) (.cons (.inp 1) (.cons (.cst (.int .i64 1)) .nil))) (.chk (some ((.bv 0), false)) .chkp (.cons (.inp 0) .nil) (.chk (some ((.bv 0), false)) (.fld 1) (.cons (.op .chkp (.cons (.inp 0) .nil)) .nil) (.ite (.bv 0) false (.eff (.ld false 1) (.cons (.ite (.bv 0) false (.op (.fld 1) (.cons (.op .chkp (.cons (.inp 0) .nil)) .nil)) (.cst (.tuple #[]))) .nil) (.chk none .lenL (.cons (.bv 1) .nil) (.chk none (.bin .gtr) (.cons (.ite (.bv 0) false (.inp 1) (.cst (.tuple #[]))) (.cons (.op .lenL (.cons (.bv 1) .nil)) .nil)) (.isb none (.bv 0) (.bnd (.op (.bin .gtr) (.cons (.ite (.bv 0) false (.inp 1) (.cst (.tuple #[]))) (.cons (.op .lenL (.cons (.bv 1) .nil)) .nil))) (.chk (some ((.bv 2), false)) .chkp (.cons (.inp 0) .nil) (.chk (some ((.bv 2), false)) (.fld 1) (.cons (.op .chkp (.cons (.inp 0) .nil)) .nil) (.ite (.bv 2) false (.eff (.ld false 1) (.cons (.ite (.bv 2) false (.op (.fld 1) (.cons (.op .chkp (.cons (.inp 0) .nil)) .nil)) (.cst (.tuple #[]))) .nil) (.chk none (.bin .sub) (.cons (.inp 1) (.cons (.cst (.int .i64 1)) .nil)) (.chk none (.idxL 4) (.cons (.bv 3) (.cons (.op (.bin .sub) (.cons (.inp 1) (.cons (.cst (.int .i64 1)) .nil))) .nil)) (.eff (.ld true 4) (.cons (.op (.idxL 4) (.cons (.bv 3) (.cons (.op (.bin .sub) (.cons (.inp 1) (.cons (.cst (.int .i64 1)) .nil))) .nil))) .nil) (.eff (.call 35) (.cons (.bv 4) .nil) (.chk none (.eqB true) (.cons (.bv 5) (.cons (.inp 2) .nil)) (.isb none (.bv 2) (.done [] (some (.op (.eqB true) (.cons (.bv 5) (.cons (.inp 2) .nil)))))))))))) (.isb none (.bv 2) (.done [] (some (.cst (.bool true))))))))))))) (.isb none (.bv 0) (.isb none (.cst (.bool true)) (.done [] (some (.cst (.bool true))))))))))) h148_3 .skip) h148_2)
@[simp] theorem h148_4_wp : type_of% (@wpH h148_4 _ h148_4.eq_1) := wpH h148_4.eq_1
def l148 : Lifted := ⟨[0, 1, 2, 3, 4, 10, 11], 53, [.slot 5], (.seq (.reg (.done [(5, (.cst (.int .i64 0)))] none)) h148_4)⟩
theorem l148_ok : liftFn G1 148 400 = some l148 := by kernel_rfl

def h115_0 : HC := (.seq (.reg (.eff (.call 148) (.cons (.inp 0) (.cons (.inp 1) (.cons (.cst (.bool false)) (.cons (.cst (.int .i64 (-1))) (.cons (.inp 2) .nil))))) (.done [(3, (.bv 0))] none))) .ret)
@[simp] theorem h115_0_wp : type_of% (@wpH h115_0 _ h115_0.eq_1) := wpH h115_0.eq_1
def h115_1 : HC := (.seq (.reg (.done [(3, (.cst (.int .i64 1)))] none)) .ret)
@[simp] theorem h115_1_wp : type_of% (@wpH h115_1 _ h115_1.eq_1) := wpH h115_1.eq_1
def h115_2 : HC := (.seq (.reg (.done [(3, (.cst (.int .i64 2)))] none)) .ret)
@[simp] theorem h115_2_wp : type_of% (@wpH h115_2 _ h115_2.eq_1) := wpH h115_2.eq_1
def h115_3 : HC := (.br (.chk none (.bin .lss) (.cons (.inp 2) (.cons (.cst (.int .i64 1)) .nil)) (.done [] (some (.op (.bin .lss) (.cons (.inp 2) (.cons (.cst (.int .i64 1)) .nil)))))) h115_2 .skip)
@[simp] theorem h115_3_wp : type_of% (@wpH h115_3 _ h115_3.eq_1) := wpH h115_3.eq_1
def h115_4 : HC := (.br (.chk none (.eqNil false (.pointer 92) (.pointer none)) (.cons (.inp 0) .nil) (.done [] (some (.op (.eqNil false (.pointer 92) (.pointer none)) (.cons (.inp 0) .nil))))) h115_1 h115_3)
@[simp] theorem h115_4_wp : type_of% (@wpH h115_4 _ h115_4.eq_1) := wpH h115_4.eq_1
def h115_5 : HC := (.seq (.block 0 h115_4) h115_0)
@[simp] theorem h115_5_wp : type_of% (@wpH h115_5 _ h115_5.eq_1) := wpH h115_5.eq_1
def l115 : Lifted := ⟨[0, 1, 2, 6], 17, [.slot 3], (.seq (.reg (.done [(3, (.cst (.int .i64 0)))] none)) h115_5)⟩
theorem l115_ok : liftFn G1 115 400 = some l115 := by kernel_rfl

def h144_0 : HC := (.seq (.reg (.eff (.call 148) (.cons (.inp 0) (.cons (.inp 1) (.cons (.cst (.bool true)) (.cons (.inp 2) (.cons (.cst (.int .i64 0)) .nil))))) (.done [(3, (.bv 0))] none))) .ret)
@[simp] theorem h144_0_wp : type_of% (@wpH h144_0 _ h144_0.eq_1) := wpH h144_0.eq_1
def h144_1 : HC := (.seq (.reg (.done [(3, (.cst (.int .i64 1)))] none)) .ret)
@[simp] theorem h144_1_wp : type_of% (@wpH h144_1 _ h144_1.eq_1) := wpH h144_1.eq_1
def h144_2 : HC := (.seq (.reg (.done [(3, (.cst (.int .i64 2)))] none)) .ret)
@[simp] theorem h144_2_wp : type_of% (@wpH h144_2 _ h144_2.eq_1) := wpH h144_2.eq_1
def h144_3 : HC := (.br (.chk none (.cal 36) (.cons (.inp 2) .nil) (.chk none (.un .not) (.cons (.op (.cal 36) (.cons (.inp 2) .nil)) .nil) (.done [] (some (.op (.un .not) (.cons (.op (.cal 36) (.cons (.inp 2) .nil)) .nil)))))) h144_2 .skip)
@[simp] theorem h144_3_wp : type_of% (@wpH h144_3 _ h144_3.eq_1) := wpH h144_3.eq_1
def h144_4 : HC := (.br (.chk none (.eqNil false (.pointer 92) (.pointer none)) (.cons (.inp 0) .nil) (.done [] (some (.op (.eqNil false (.pointer 92) (.pointer none)) (.cons (.inp 0) .nil))))) h144_1 h144_3)
@[simp] theorem h144_4_wp : type_of% (@wpH h144_4 _ h144_4.eq_1) := wpH h144_4.eq_1
def h144_5 : HC := (.seq (.block 0 h144_4) h144_0)
@[simp] theorem h144_5_wp : type_of% (@wpH h144_5 _ h144_5.eq_1) := wpH h144_5.eq_1
def l144 : Lifted := ⟨[0, 1, 2, 6], 18, [.slot 3], (.seq (.reg (.done [(3, (.cst (.int .i64 0)))] none)) h144_5)⟩
theorem l144_ok : liftFn G1 144 400 = some l144 := by kernel_rfl
theorem held_spec (x : It) (w0 w : World) (A : Asn) (s : St w0 A w) :
    CallW Tryz.prog 35 [.agg x.cs.toArray] (fun r w' => r = .bool (decide (0 < x.con)) ∧ St w0 A w') w := by
  refine callW_of_lift l35_ok (by simp [l35]) ?_
  simp [l35]
  refine eff_box s ?_
  intro b w1 s1
  simp
  refine eff_ldc (v := .int .i64 x.con) ?_ ?_
  · rw [cell_of s1.look]; rfl
  simp
  exact s1.drop
theorem New_spec (lim : Int) (w0 w : World) (A : Asn) (s : St w0 A w) :
    CallW Tryz.prog 33 [.int .i64 lim] (fun r w' => if 0 ≤ lim ∧ lim ≤ 512 then ∃ p, r = .tuple #[.pointer (some ⟨p, 0, none⟩), .int .i64 0] ∧ St w0 (A * gds p lim []) w' else r = .tuple #[.pointer none, .int .i64 2] ∧ St w0 A w') w := by
  refine callW_of_lift l33_ok (by simp [l33]) ?_
  simp [l33]
  refine cndI (fun h => ?_) (fun h => ?_)
  · simp at h
    have : ¬ (0 ≤ lim ∧ lim ≤ 512) := by omega
    simp [this]
    exact s
  · simp at h
    simp [h, Instr.fill, Value.cells]
    refine eff_box s ?_
    intro b w1 s1
    simp
    refine gclose (v := .slice none 0 0) ?_
    exact s1.own_nil _ _
def makeF (lim : Int) (its : List It) (k a : Int) : Int × Int × List It :=
  if accF a = false then (0, 2, its) else if kindF k = false then (0, 152, its) else if lim ≤ its.length then (0, 150, its) else (its.length + 1, 0, its ++ [⟨its.length + 1, k, a, 0⟩])
theorem Make_spec (p : Nat) (lim : Int) (its : List It) (k a : Int) (w0 w : World) (A : Asn) (hl : lim ≤ 512) (s : St w0 (A * gds p lim its) w) :
    CallW Tryz.prog 61 [.pointer (some ⟨p, 0, none⟩), .int .i64 k, .int .i64 a]
      (fun r w' => r = .tuple #[.int .i64 (makeF lim its k a).1, .int .i64 (makeF lim its k a).2.1] ∧ St w0 (A * gds p lim (makeF lim its k a).2.2) w') w := by
  refine callW_of_lift l61_ok (by simp [l61]) ?_
  simp [l61]
  refine cndI (fun h1 => ?_) (fun h1 => ?_)
  · simp at h1
    simp [makeF, h1]
    exact s
  simp at h1
  simp
  refine cndI (fun h2 => ?_) (fun h2 => ?_)
  · simp at h2
    simp [makeF, h1, h2]
    exact s
  simp at h2
  simp
  obtain ⟨v, s1⟩ := gopen s
  obtain ⟨b, cap, rfl, _⟩ := s1.own_val
  refine brqI s1 ?_
  simp
  refine effq_ldc (v := .slice b its.length cap) (fun w' s' => by rw [cell_of s'.swap.look]; rfl) ?_
  simp
  refine effq_ldc (v := .int .i64 lim) (fun w' s' => by rw [cell_of s'.swap.look]; rfl) ?_
  simp
  intro w2 s2
  refine cndI (fun h3 => ?_) (fun h3 => ?_)
  · simp at h3
    simp [makeF, h1, h2, h3]
    exact gclose s2
  simp at h3
  have h3' : ¬ lim ≤ its.length := by omega
  simp
  refine eff_ldc (v := .slice b its.length cap) (by rw [cell_of s2.swap.look]; rfl) ?_
  have hw : IntKind.i64.wrap (its.length + 1) = its.length + 1 := wrap64 (by omega) (by omega)
  simp [hw]
  refine eff_ldc (v := .slice b its.length cap) (by rw [cell_of s2.swap.look]; rfl) ?_
  simp [Instr.fill, Value.cells]
  refine eff_bslV s2 rfl ?_
  intro c w3 s3
  simp
  refine eff_app (m := 1) (news := It.cs ⟨its.length + 1, k, a, 0⟩) s3.swap rfl s3.cells_look (cs_one _) (by decide) rfl (by unfold maxLen; omega) (by omega) ?_
  intro v' w4 s4
  simp
  refine eff_st1 s4.p3 ?_ (by simp) ?_
  · rcases s4.own_val with ⟨_, _, rfl, _⟩; rfl
  intro w5 s5
  simp [makeF, h1, h2, h3']
  refine gclose (v := v') ?_
  have e : flat its ++ It.cs ⟨its.length + 1, k, a, 0⟩ = flat (its ++ [⟨its.length + 1, k, a, 0⟩]) := by simp [flat]
  rw [e] at s5
  simpa using s5.p3.drop.swap
def putF (its : List It) (item : Int) (held : Bool) (acc con : Int) : Int × List It :=
  if 1 ≤ item ∧ item ≤ its.length then
    if decide (0 < (its.getD (item.toNat - 1) ⟨0, 0, 0, 0⟩).con) = held then
      (0, its.set (item.toNat - 1) ⟨(its.getD (item.toNat - 1) ⟨0, 0, 0, 0⟩).num, (its.getD (item.toNat - 1) ⟨0, 0, 0, 0⟩).kind, acc, con⟩)
    else (151, its)
  else (151, its)
theorem put_spec (p : Nat) (lim : Int) (its : List It) (item : Int) (held : Bool) (acc con : Int) (w0 w : World) (A : Asn) (hl : its.length ≤ 1048576) (s : St w0 (A * gds p lim its) w) :
    CallW Tryz.prog 148 [.pointer (some ⟨p, 0, none⟩), .int .i64 item, .bool held, .int .i64 acc, .int .i64 con]
      (fun r w' => r = .int .i64 (putF its item held acc con).1 ∧ St w0 (A * gds p lim (putF its item held acc con).2) w') w := by
  refine callW_of_lift l148_ok (by simp [l148]) ?_
  simp [l148]
  by_cases h1 : item < 1
  · have : ¬ (1 ≤ item ∧ item ≤ its.length) := by omega
    simp [h1, putF, this]
    exact s
  obtain ⟨v, s1⟩ := gopen s
  obtain ⟨b, cap, rfl, _⟩ := s1.own_val
  simp [h1]
  refine eff_ldc (v := .slice b its.length cap) (by rw [cell_of s1.swap.look]; rfl) ?_
  by_cases h2 : its.length < item
  · have : ¬ (1 ≤ item ∧ item ≤ its.length) := by omega
    simp [h2, putF, this]
    exact s
  simp [h2]
  obtain ⟨i, rfl⟩ : ∃ i : Nat, item = i + 1 := ⟨item.toNat - 1, by omega⟩
  have hi : i < its.length := by omega
  obtain ⟨g, cap', hv, _, hc⟩ := s1.own_at (by omega)
  cases hv
  refine eff_ldc (v := .slice (some ⟨g, 0, none⟩) its.length cap) (by rw [cell_of s1.swap.look]; rfl) ?_
  have hw : IntKind.i64.wrap (i : Int) = i := wrap64 (by omega) (by omega)
  simp [hw, hi]
  refine eff_ldcs (vs := its[i].cs) (fun j u hu => hc _ _ (flat_at hi j u hu)) rfl ?_
  simp
  refine eff_call ((held_spec its[i] w0 w _ s1).mono ?_)
  rintro r w2 ⟨rfl, s2⟩
  simp
  have hp : putF its (i + 1) held acc con = if decide (0 < its[i].con) = held then (0, its.set i ⟨its[i].num, its[i].kind, acc, con⟩) else (151, its) := by
    unfold putF
    rw [if_pos (by omega)]
    have : ((i : Int) + 1).toNat - 1 = i := by omega
    simp [this, hi]
  refine cndI (fun h3 => ?_) (fun h3 => ?_)
  · have e3 : ¬ decide (0 < its[i].con) = held := by simpa using h3
    rw [hp, if_neg e3]
    simp
    exact gclose s2
  have e3 : decide (0 < its[i].con) = held := by simpa using h3
  rw [hp, if_pos e3]
  simp
  refine eff_ldc (v := .slice (some ⟨g, 0, none⟩) its.length cap) (by rw [cell_of s2.swap.look]; rfl) ?_
  simp [hw, hi]
  have hfl := flat_len its
  refine eff_stC s2 (by omega) rfl ?_
  intro w3 s3
  simp
  refine eff_stC s3 (by rw [List.length_set]; omega) rfl ?_
  intro w4 s4
  simp
  rw [flat_set2 hi] at s4
  refine gclose (v := .slice (some ⟨g, 0, none⟩) its.length cap) ?_
  simpa using s4
def moveF (its : List It) (item a : Int) : Int × List It := if accF a = true then putF its item false a 0 else (2, its)
def holdF (its : List It) (item c : Int) : Int × List It := if c < 1 then (2, its) else putF its item false (-1) c
def freeF (its : List It) (item a : Int) : Int × List It := if accF a = true then putF its item true a 0 else (2, its)
theorem Hold_spec (p : Nat) (lim : Int) (its : List It) (item c : Int) (w0 w : World) (A : Asn) (hl : its.length ≤ 1048576) (s : St w0 (A * gds p lim its) w) :
    CallW Tryz.prog 115 [.pointer (some ⟨p, 0, none⟩), .int .i64 item, .int .i64 c]
      (fun r w' => r = .int .i64 (holdF its item c).1 ∧ St w0 (A * gds p lim (holdF its item c).2) w') w := by
  refine callW_of_lift l115_ok (by simp [l115]) ?_
  simp [l115]
  refine cndI (fun h1 => ?_) (fun h1 => ?_)
  · simp at h1
    simp [holdF, h1]
    exact s
  simp at h1
  simp
  refine eff_call ((put_spec p lim its item false (-1) c w0 w A hl s).mono ?_)
  rintro r w1 ⟨rfl, s1⟩
  have : ¬ c < 1 := by omega
  simp [holdF, this]
  exact s1
theorem Free_spec (p : Nat) (lim : Int) (its : List It) (item a : Int) (w0 w : World) (A : Asn) (hl : its.length ≤ 1048576) (s : St w0 (A * gds p lim its) w) :
    CallW Tryz.prog 144 [.pointer (some ⟨p, 0, none⟩), .int .i64 item, .int .i64 a]
      (fun r w' => r = .int .i64 (freeF its item a).1 ∧ St w0 (A * gds p lim (freeF its item a).2) w') w := by
  refine callW_of_lift l144_ok (by simp [l144]) ?_
  simp [l144]
  refine cndI (fun h1 => ?_) (fun h1 => ?_)
  · simp at h1
    simp [freeF, h1]
    exact s
  simp at h1
  simp
  refine eff_call ((put_spec p lim its item true a 0 w0 w A hl s).mono ?_)
  rintro r w1 ⟨rfl, s1⟩
  simp [freeF, h1]
  exact s1
end Go.HL.Gd
