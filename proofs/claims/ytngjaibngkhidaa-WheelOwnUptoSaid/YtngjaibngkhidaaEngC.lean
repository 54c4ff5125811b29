/-
  The engine, third part: assertions on memory, block by block, and a rule for each effect. No condition.
-/
import Derived.Test.YtngjaibngkhidaaEngB
import Derived.IntWalk
namespace Go.HL
set_option linter.unusedSimpArgs false
set_option linter.unusedVariables false

/-! what a part of memory holds -/
def Hp := Nat → Option Obj
def Hp.sub (h g : Hp) : Prop := ∀ b o, h b = some o → g b = some o
def Hp.dis (h g : Hp) : Prop := ∀ b, h b = none ∨ g b = none
def Hp.un (h g : Hp) : Hp := fun b => match h b with | some o => some o | none => g b
def hpOf (w : World) : Hp := fun b => w.heap[b]?
def Asn := Hp → Prop
def sep (A B : Asn) : Asn := fun h => ∃ h1 h2, Hp.dis h1 h2 ∧ h = Hp.un h1 h2 ∧ A h1 ∧ B h2
instance : Mul Asn := ⟨sep⟩
def emp : Asn := fun h => ∀ b, h b = none
def pt (b : Nat) (o : Obj) : Asn := fun h => h b = some o ∧ ∀ c, c ≠ b → h c = none
/-- all of a given memory -/
def old (w0 : World) : Asn := fun h => h = hpOf w0

theorem Hp.un_comm {h g : Hp} (d : Hp.dis h g) : Hp.un h g = Hp.un g h := by
  funext b
  simp only [Hp.un]
  rcases d b with e | e <;> rw [e] <;> cases h b <;> cases g b <;> simp_all
theorem sep_comm (A B : Asn) : A * B = B * A := by
  have : ∀ A B : Asn, ∀ h, (A * B) h → (B * A) h := by
    rintro A B h ⟨h1, h2, d, rfl, a, b⟩
    exact ⟨h2, h1, fun x => (d x).symm, Hp.un_comm d, b, a⟩
  funext h; exact propext ⟨this A B h, this B A h⟩
theorem sep_assoc (A B C : Asn) : A * B * C = A * (B * C) := by
  funext h; apply propext
  constructor
  · rintro ⟨h12, h3, d, rfl, ⟨h1, h2, d', rfl, a, b⟩, c⟩
    have d13 : Hp.dis h1 h3 := fun x => by
      rcases d x with e | e
      · simp only [Hp.un] at e; cases hh : h1 x <;> simp_all
      · exact .inr e
    have d23 : Hp.dis h2 h3 := fun x => by
      rcases d x with e | e
      · simp only [Hp.un] at e; cases hh : h1 x <;> simp_all
      · exact .inr e
    refine ⟨h1, Hp.un h2 h3, fun x => ?_, ?_, a, h2, h3, d23, rfl, b, c⟩
    · rcases d' x with e | e
      · exact .inl e
      · rcases d13 x with e' | e'
        · exact .inl e'
        · right; simp only [Hp.un, e, e']
    · funext x; simp only [Hp.un]; cases h1 x <;> rfl
  · rintro ⟨h1, h23, d, rfl, a, h2, h3, d', rfl, b, c⟩
    have d12 : Hp.dis h1 h2 := fun x => by
      rcases d x with e | e
      · exact .inl e
      · simp only [Hp.un] at e; cases hh : h2 x <;> simp_all
    have d13 : Hp.dis h1 h3 := fun x => by
      rcases d x with e | e
      · exact .inl e
      · simp only [Hp.un] at e; cases hh : h2 x <;> simp_all
    refine ⟨Hp.un h1 h2, h3, fun x => ?_, ?_, ⟨h1, h2, d12, rfl, a, b⟩, c⟩
    · rcases d' x with e | e
      · rcases d13 x with e' | e'
        · left; simp only [Hp.un, e, e']
        · exact .inr e'
      · exact .inr e
    · funext x; simp only [Hp.un]; cases h1 x <;> rfl
theorem sep_right (A B C : Asn) : A * B * C = A * C * B := by rw [sep_assoc, sep_comm B C, ← sep_assoc]
theorem sep_mono {A A' B B' : Asn} (ha : ∀ h, A h → A' h) (hb : ∀ h, B h → B' h) : ∀ h, (A * B) h → (A' * B') h := by
  rintro h ⟨h1, h2, d, rfl, a, b⟩
  exact ⟨h1, h2, d, rfl, ha _ a, hb _ b⟩
theorem sep_emp (A : Asn) : A * emp = A := by
  funext h; apply propext
  constructor
  · rintro ⟨h1, h2, d, rfl, a, b⟩
    have : Hp.un h1 h2 = h1 := by funext x; simp only [Hp.un, b x]; cases h1 x <;> rfl
    rw [this]; exact a
  · intro a
    exact ⟨h, fun _ => none, fun x => .inr rfl, by funext x; simp only [Hp.un]; cases h x <;> rfl, a, fun x => rfl⟩

/-- from the world w0 on, the memory holds A (and whatever else) -/
structure St (w0 : World) (A : Asn) (w : World) : Prop where
  os : w.os = w0.os
  out : w.output = w0.output
  size : w0.heap.size ≤ w.heap.size
  ran : w.tape = w0.tape ∧ w0.drawn ≤ w.drawn
  holds : ∃ h, Hp.sub h (hpOf w) ∧ A h

theorem St.mono {w0 w : World} {A B : Asn} (s : St w0 A w) (h : ∀ h, A h → B h) : St w0 B w :=
  ⟨s.os, s.out, s.size, s.ran, let ⟨g, h1, h2⟩ := s.holds; ⟨g, h1, h _ h2⟩⟩
theorem sub_left {h1 h2 g : Hp} (s : Hp.sub (Hp.un h1 h2) g) : Hp.sub h1 g := fun b o e => s b o (by simp only [Hp.un, e])
theorem sub_right {h1 h2 g : Hp} (d : Hp.dis h1 h2) (s : Hp.sub (Hp.un h1 h2) g) : Hp.sub h2 g := fun b o e => s b o (by
  rcases d b with e' | e'
  · simp only [Hp.un, e', e]
  · rw [e'] at e; cases e)
/-- what is no longer needed -/
theorem St.drop {w0 w : World} {F A : Asn} (s : St w0 (F * A) w) : St w0 F w :=
  ⟨s.os, s.out, s.size, s.ran, let ⟨g, h1, h, h', d, e, a, _⟩ := s.holds; ⟨h, sub_left (e ▸ h1), a⟩⟩
theorem St.swap {w0 w : World} {F A B : Asn} (s : St w0 (F * A * B) w) : St w0 (F * B * A) w := by rwa [sep_right]
theorem St.p3 {w0 w : World} {F A B C : Asn} (s : St w0 (F * A * B * C) w) : St w0 (F * B * C * A) w := by
  rw [sep_right F A B, sep_right (F * B) A C] at s; exact s
theorem St.p4 {w0 w : World} {F A B C D : Asn} (s : St w0 (F * A * B * C * D) w) : St w0 (F * B * C * D * A) w := by
  rw [sep_right F A B, sep_right (F * B) A C, sep_right (F * B * C) A D] at s; exact s
theorem St.p5 {w0 w : World} {F A B C D E : Asn} (s : St w0 (F * A * B * C * D * E) w) : St w0 (F * B * C * D * E * A) w := by
  rw [sep_right F A B, sep_right (F * B) A C, sep_right (F * B * C) A D, sep_right (F * B * C * D) A E] at s; exact s
theorem St.p6 {w0 w : World} {F A B C D E G : Asn} (s : St w0 (F * A * B * C * D * E * G) w) : St w0 (F * B * C * D * E * G * A) w := by
  rw [sep_right F A B, sep_right (F * B) A C, sep_right (F * B * C) A D, sep_right (F * B * C * D) A E, sep_right (F * B * C * D * E) A G] at s; exact s

/-- what a cell block holds, out of the assertion -/
theorem St.look {w0 w : World} {F : Asn} {b : Nat} {o : Obj} (s : St w0 (F * pt b o) w) : w.heap[b]? = some o := by
  obtain ⟨g, h1, h, h', d, e, _, a⟩ := s.holds
  exact sub_right d (e ▸ h1) b o a.1
theorem St.lookOld {w0 w w1 : World} {F : Asn} (s : St w0 (F * old w1) w) {b : Nat} {o : Obj} (hb : w1.heap[b]? = some o) : w.heap[b]? = some o := by
  obtain ⟨g, h1, h, h', d, e, _, a⟩ := s.holds
  exact sub_right d (e ▸ h1) b o (by rw [a]; exact hb)
theorem St.lookOld0 {w0 w w1 : World} (s : St w0 (old w1) w) {b : Nat} {o : Obj} (hb : w1.heap[b]? = some o) : w.heap[b]? = some o := by
  obtain ⟨g, h1, a⟩ := s.holds
  exact h1 b o (by rw [a]; exact hb)
theorem St.cellOld {w0 w w1 : World} {F : Asn} (s : St w0 (F * old w1) w) {a : Addr} {v : Value} (h : w1.cell? a = some v) : w.cell? a = some v := by
  unfold World.cell? at h ⊢
  cases hb : w1.heap[a.block]? with
  | none => simp [hb] at h
  | some o => rw [s.lookOld hb]; simpa [hb] using h

theorem St.start (w : World) : St w (old w) w :=
  ⟨rfl, rfl, Nat.le_refl _, ⟨rfl, Nat.le_refl _⟩, _, fun b o h => h, rfl⟩

/-- a new block -/
def Obj.plainNew : Obj → Prop
  | .cells _ _ f => f = (0, 0)
  | _ => True
theorem heap_alloc (w : World) (o : Obj) (b : Nat) : (w.alloc o).heap[b]? = if b = w.heap.size then some o else w.heap[b]? := by
  simp only [World.alloc, Array.getElem?_push]
theorem St.alloc {w0 w : World} {F : Asn} (s : St w0 F w) {o : Obj} (_ : Obj.plainNew o) : St w0 (F * pt w.heap.size o) (w.alloc o) := by
  refine ⟨s.os, s.out, ?_, s.ran, ?_⟩
  · have := s.size; simp; omega
  · obtain ⟨g, h1, h2⟩ := s.holds
    have hn : g w.heap.size = none := by
      cases hh : g w.heap.size with
      | none => rfl
      | some o' =>
        have h3 : w.heap[w.heap.size]? = some o' := h1 _ _ hh
        exact absurd (Array.getElem?_eq_some_iff.1 h3).1 (by omega)
    refine ⟨Hp.un g (fun b => if b = w.heap.size then some o else none), fun b o' hb => ?_, g, _, fun b => ?_, rfl, h2, ?_, ?_⟩
    · show (w.alloc o).heap[b]? = some o'
      rw [heap_alloc]
      simp only [Hp.un] at hb
      by_cases e : b = w.heap.size
      · subst e; simp only [hn, if_true] at hb; simpa using hb
      · simp only [e, if_false] at hb ⊢
        cases hg : g b with
        | none => rw [hg] at hb; cases hb
        | some o'' => rw [hg] at hb; cases hb; exact h1 _ _ hg
    · by_cases e : b = w.heap.size
      · subst e; exact .inl hn
      · right; simp [e]
    · simp
    · intro c hc; simp [hc]
theorem St.drew {w0 w : World} {A : Asn} (s : St w0 A w) : St w0 A w.drew := ⟨s.os, s.out, s.size, ⟨s.ran.1, Nat.le_succ_of_le s.ran.2⟩, s.holds⟩

/-- a block that is held is turned -/
theorem St.turn {w0 w w' : World} {F : Asn} {b : Nat} {o o' : Obj} (s : St w0 (F * pt b o) w) (h1 : w'.heap[b]? = some o') (h2 : ∀ c, c ≠ b → w'.heap[c]? = w.heap[c]?)
    (hs : w'.heap.size = w.heap.size) (hos : w'.os = w.os) (hout : w'.output = w.output) (_ : ∀ c t f, o' = .cells c t f → f = (0, 0)) (hrun : w'.tape = w.tape ∧ w'.drawn = w.drawn := by exact ⟨rfl, rfl⟩) : St w0 (F * pt b o') w' := by
  refine ⟨hos.trans s.os, hout.trans s.out, by rw [hs]; exact s.size, ⟨hrun.1.trans s.ran.1, hrun.2 ▸ s.ran.2⟩, ?_⟩
  · obtain ⟨g, hg, h, h', d, rfl, a, hb, hn⟩ := s.holds
    have hnb : h b = none := by
      rcases d b with e | e
      · exact e
      · rw [hb] at e; cases e
    refine ⟨Hp.un h (fun c => if c = b then some o' else none), fun c x hx => ?_, h, _, fun c => ?_, rfl, a, ?_, ?_⟩
    · show w'.heap[c]? = some x
      simp only [Hp.un] at hx
      by_cases e : c = b
      · subst e; simp only [hnb, if_true] at hx; rw [h1]; exact hx
      · simp only [e, if_false] at hx
        rw [h2 c e]
        cases hh : h c with
        | none => rw [hh] at hx; cases hx
        | some y => rw [hh] at hx; cases hx; exact sub_left hg c _ hh
    · by_cases e : c = b
      · subst e; exact .inl hnb
      · right; simp [e]
    · simp
    · intro c hc; simp [hc]
theorem heap_setCell (w : World) (b off : Nat) (v : Value) (c : Array Value) (t : TypeId) (f : Nat × Nat) (h : w.heap[b]? = some (.cells c t f)) (x : Nat) :
    (w.setCell ⟨b, off, none⟩ v).heap[x]? = if x = b then some (.cells (c.setIfInBounds off v) t f) else w.heap[x]? := by
  simp only [World.setCell, Array.getElem?_modify]
  by_cases e : x = b
  · subst e; simp [h]
  · simp [Ne.symm e, e]
theorem St.set {w0 w : World} {F : Asn} {b off : Nat} {c : Array Value} {t : TypeId} {v : Value} (s : St w0 (F * pt b (.cells c t (0, 0))) w) :
    St w0 (F * pt b (.cells (c.setIfInBounds off v) t (0, 0))) (w.setCell ⟨b, off, none⟩ v) := by
  have hb := s.look
  refine s.turn (w' := w.setCell ⟨b, off, none⟩ v) ?_ ?_ (by simp) rfl rfl (fun c t f e => by cases e; rfl)
  · rw [heap_setCell w b off v c t _ hb b, if_pos rfl]
  · intro x hx; rw [heap_setCell w b off v c t _ hb x, if_neg hx]
end Go.HL

namespace Go.HL
set_option linter.unusedSimpArgs false
set_option linter.unusedVariables false
section
variable {P : Program} {K : Value → World → Prop} {w w0 : World} {F : Asn}

theorem cell_of {b off : Nat} {c : Array Value} {t : TypeId} {f : Nat × Nat} (hb : w.heap[b]? = some (.cells c t f)) : w.cell? ⟨b, off, none⟩ = c[off]? := by
  simp [World.cell?, hb]
theorem addr_add (b off n : Nat) : (⟨b, off, none⟩ : Addr).add n = ⟨b, off + n, none⟩ := by
  unfold Addr.add; split <;> simp_all

theorem upon_val {s : Sem Value} {v : Value} {w' : World} (h : s.run P w = .ok v w') (hk : K v w') : UponW P (valS s) K w := by
  unfold UponW valS; simp [h]; exact hk
theorem upon_unit {s : Sem Unit} {w' : World} (h : s.run P w = .ok () w') (hk : K undef w') : UponW P (unitS s) K w := by
  unfold UponW unitS; simp [h]; exact hk

theorem eff_ld1 {b off : Nat} {c : Array Value} {t : TypeId} {f : Nat × Nat} {v : Value} (hb : w.heap[b]? = some (.cells c t f)) (hv : c[off]? = some v) (hk : K v w) :
    EffW P (.ld false 1) [.pointer (some ⟨b, off, none⟩)] K w := by
  intro _
  refine upon_val (w' := w) (v := v) ?_ hk
  have : w.cell? ⟨b, off, none⟩ = some v := by rw [cell_of hb, hv]
  simp [ldS, Instr.sureAddr, this]
/-- a cell, however it is known -/
theorem eff_ldc {a : Addr} {n : Nat} {v : Value} (hc : w.cell? a = some v) (hk : K v w) : EffW P (.ld false n) [.pointer (some a)] K w := by
  intro _
  refine upon_val (w' := w) (v := v) ?_ hk
  simp [ldS, Instr.sureAddr, hc]
theorem eff_ldA {b off n : Nat} {c : Array Value} {t : TypeId} {f : Nat × Nat} (hb : w.heap[b]? = some (.cells c t f)) (hv : off + n ≤ c.size) (hk : K (.agg (c.extract off (off + n))) w) :
    EffW P (.ld true n) [.pointer (some ⟨b, off, none⟩)] K w := by
  intro _
  refine upon_val (w' := w) ?_ hk
  have hl : (c.extract off (off + n)).toList.length = n := by simp; omega
  have := run_loadCells_list (P := P) w ⟨b, off, none⟩ (c.extract off (off + n)).toList (by
    intro j v hj
    have hjn : j < n := by
      have := (List.getElem?_eq_some_iff.1 hj).1
      omega
    rw [addr_add, cell_of hb]
    simp only [Array.toList_extract, List.extract_eq_take_drop, List.getElem?_take, List.getElem?_drop] at hj
    split at hj
    · simpa using hj
    · cases hj)
  rw [hl, Array.toArray_toList] at this
  simp [ldS, Instr.sureAddr, this]
theorem eff_st1 {b off : Nat} {c : Array Value} {t : TypeId} {v : Value} (s : St w0 (F * pt b (.cells c t (0, 0))) w) (h1 : v.oneCell' = true) (hoff : off < c.size)
    (hk : ∀ w', St w0 (F * pt b (.cells (c.setIfInBounds off v) t (0, 0))) w' → K undef w') : EffW P (.st 1) [.pointer (some ⟨b, off, none⟩), v] K w := by
  intro _
  have hb := s.look
  have hc : w.cell? ⟨b, off, none⟩ = some c[off] := by rw [cell_of hb]; simp [hoff]
  have hf : w.frozen? ⟨b, off, none⟩ = false := by simp [World.frozen?, hb]
  refine upon_unit (w' := w.setCell ⟨b, off, none⟩ v) ?_ (hk _ s.set)
  have hcs : v.cells = #[v] := by cases v <;> first | rfl | (simp [Value.oneCell'] at h1)
  have hst := run_store P w ⟨b, off, none⟩ v .plain h1
  simp only [hc, hf, Bool.false_eq_true, if_false] at hst
  have ha : (⟨b, off, none⟩ : Addr).add 0 = ⟨b, off, none⟩ := rfl
  simp [stS, Instr.sureAddr, hcs, storeCells, ha, hst]
theorem splice_turn {b off : Nat} {c : Array Value} {t : TypeId} {vs : List Value} (s : St w0 (F * pt b (.cells c t (0, 0))) w) :
    St w0 (F * pt b (.cells (c.toList.take off ++ vs ++ c.toList.drop (off + vs.length)).toArray t (0, 0))) (w.setRow b (c.toList.take off ++ vs ++ c.toList.drop (off + vs.length)).toArray) :=
  s.turn (setRow_heap w b c _ t _ s.look) (fun x hx => setRow_other w b x _ hx) (by simp [World.setRow]) rfl rfl (fun _ _ _ e => by cases e; rfl)
theorem eff_stA {b off n : Nat} {c : Array Value} {t : TypeId} {v : Value} {vs : List Value} (s : St w0 (F * pt b (.cells c t (0, 0))) w) (hv : v.cells.toList = vs) (hn : vs.length = n) (h1 : ∀ u ∈ vs, u.oneCell' = true) (hoff : off + n ≤ c.size)
    (hk : ∀ w', St w0 (F * pt b (.cells (c.toList.take off ++ vs ++ c.toList.drop (off + n)).toArray t (0, 0))) w' → K undef w') : EffW P (.st n) [.pointer (some ⟨b, off, none⟩), v] K w := by
  intro _
  have hb := s.look
  have hst := run_storeCells_at P b off t vs 0 c w hb (by omega) h1
  simp only [Nat.add_zero] at hst
  have hh := splice_turn (off := off) (vs := vs) s
  rw [hn] at hst hh
  refine upon_unit ?_ (hk _ hh)
  have hsz : v.cells.size = n := by rw [← Array.length_toList, hv, hn]
  simp [stS, Instr.sureAddr, hsz, hv, hst]
theorem eff_new {t : TypeId} {z : Value} (s : St w0 F w) (hk : ∀ b w', St w0 (F * pt b (.cells z.cells t (0, 0))) w' → K (.pointer (some ⟨b, 0, none⟩)) w') : EffW P (.new t z) [] K w := by
  intro _
  refine upon_val (w' := w.alloc (.cells z.cells t)) ?_ (hk _ _ (s.alloc rfl))
  simp [newVar, newRow]
theorem eff_box {t : TypeId} {z : Value} (s : St w0 F w) (hk : ∀ b w', St w0 (F * pt b (.cells z.cells t (0, 0))) w' → K (.pointer (some ⟨b, 0, none⟩)) w') : EffW P (.box t) [z] K w := by
  intro _
  refine upon_val (w' := w.alloc (.cells z.cells t)) ?_ (hk _ _ (s.alloc rfl))
  simp [Instr.box, newVar, newRow]
theorem eff_bsl {e len size : Nat} {zero cells : Array Value} {ix : List Nat} {vs : List Value} (s : St w0 F w)
    (hf : Instr.fill (fun i => some (i * size, size)) ((Array.range (len * size)).map (zero[· % zero.size]!)) (ix.zip vs) = some cells)
    (hk : ∀ b w', St w0 (F * pt b (.cells cells e (0, 0))) w' → K (.slice (some ⟨b, 0, none⟩) len len) w') : EffW P (.bsl e len size zero ix) vs K w := by
  intro _
  refine upon_val (w' := w.alloc (.cells cells e)) ?_ (hk _ _ (s.alloc rfl))
  simp [bslS, hf, newRow]
theorem eff_bsl1 {e : Nat} {z x : Value} (s : St w0 F w) (h1 : x.oneCell' = true)
    (hk : ∀ b w', St w0 (F * pt b (.cells #[x] e (0, 0))) w' → K (.slice (some ⟨b, 0, none⟩) 1 1) w') : EffW P (.bsl e 1 1 #[z] [0]) [x] K w := by
  refine eff_bsl (cells := #[x]) s ?_ hk
  have hcs : x.cells = #[x] := by cases x <;> first | rfl | (simp [Value.oneCell'] at h1)
  have hz : ((Array.range (1 * 1)).map fun i => (#[z])[i % (#[z]).size]!) = #[z] := by
    apply Array.ext
    · simp
    · intro i h1 h2
      have : i = 0 := by simp at h2; omega
      subst this
      simp
  rw [hz]
  simp [Instr.fill, hcs]
theorem eff_call {f : FuncId} {vs : List Value} (h : CallW P f vs K w) : EffW P (.call f) vs K w := by
  intro hb
  unfold UponW
  simp only [EO.sem, callFunc_run hb]
  exact h
theorem eff_callv {f : FuncId} {first cap : Array Value} {vs : List Value} (hb : hasBody P f = true) (h : CallW P f (first.toList ++ vs ++ cap.toList) K w) : EffW P .callv (.func (.func f) first cap :: vs) K w := by
  intro _
  unfold UponW
  have e : first ++ vs.toArray ++ cap = (first.toList ++ vs ++ cap.toList).toArray := by apply Array.ext'; simp
  simp only [EO.sem, Deferred.ofValue, Sem.run_bind, Sem.run_pure, Result.andThen_ok, invoke]
  rw [e, callFunc_run hb]
  exact h

/-- a slice that owns its row: n elements of type e, of size cells each -/
def own (e size : Nat) (v : Value) (n : Nat) (xs : List Value) : Asn := fun h => xs.length = n * size ∧
  ((v = .slice none 0 0 ∧ n = 0 ∧ emp h) ∨
   ∃ g cap cur, v = .slice (some ⟨g, 0, none⟩) n cap ∧ n ≤ cap ∧ cap ≤ maxLen ∧ cap * size ≤ cur.size ∧ cur.toList.take (n * size) = xs ∧ pt g (.cells cur e (0, 0)) h)

theorem St.ex {A : Asn} (s : St w0 A w) : ∃ h, Hp.sub h (hpOf w) ∧ A h := s.holds
theorem St.of {A B : Asn} (s : St w0 A w) (h : ∃ h, Hp.sub h (hpOf w) ∧ B h) : St w0 B w := ⟨s.os, s.out, s.size, s.ran, h⟩
theorem St.or {A B C : Asn} (s : St w0 (F * A) w) (h : ∀ h, A h → B h ∨ C h) : St w0 (F * B) w ∨ St w0 (F * C) w := by
  obtain ⟨g, h1, h2, h3, d, e, a, b⟩ := s.holds
  rcases h _ b with b | c
  · exact .inl (s.of ⟨g, h1, h2, h3, d, e, a, b⟩)
  · exact .inr (s.of ⟨g, h1, h2, h3, d, e, a, c⟩)
/-- an owned slice, opened -/
theorem St.own {e size : Nat} {v : Value} {n : Nat} {xs : List Value} (s : St w0 (F * own e size v n xs) w) : xs.length = n * size ∧
    ((v = .slice none 0 0 ∧ n = 0 ∧ xs = [] ∧ St w0 F w) ∨
     ∃ g cap cur, v = .slice (some ⟨g, 0, none⟩) n cap ∧ n ≤ cap ∧ cap ≤ maxLen ∧ cap * size ≤ cur.size ∧ cur.toList.take (n * size) = xs ∧ St w0 (F * pt g (.cells cur e (0, 0))) w) := by
  obtain ⟨g, h1, h2, h3, d, e, a, hl, b⟩ := s.holds
  refine ⟨hl, ?_⟩
  rcases b with ⟨rfl, rfl, hb⟩ | ⟨g', cap, cur, rfl, hn, hm, hc, ht, hp⟩
  · refine .inl ⟨rfl, rfl, List.eq_nil_of_length_eq_zero (by simpa using hl), s.drop⟩
  · exact .inr ⟨g', cap, cur, rfl, hn, hm, hc, ht, s.of ⟨g, h1, h2, h3, d, e, a, hp⟩⟩
theorem St.own_nil (s : St w0 F w) (e size : Nat) : St w0 (F * HL.own e size (.slice none 0 0) 0 []) w := by
  have : F = F * emp := (sep_emp F).symm
  rw [this] at s
  exact s.mono (sep_mono (fun _ h => h) fun h hh => ⟨by simp, .inl ⟨rfl, rfl, hh⟩⟩)
theorem St.own_mk' {e size g n cap : Nat} {cur : Array Value} {xs : List Value} (s : St w0 (F * pt g (.cells cur e (0, 0))) w) (hn : n ≤ cap) (hm : cap ≤ maxLen) (hc : cap * size ≤ cur.size) (ht : cur.toList.take (n * size) = xs) :
    St w0 (F * HL.own e size (.slice (some ⟨g, 0, none⟩) n cap) n xs) w := by
  refine s.mono (sep_mono (fun _ h => h) fun h hh => ⟨?_, .inr ⟨g, cap, cur, rfl, hn, hm, hc, ht, hh⟩⟩)
  rw [← ht, List.length_take, Array.length_toList]
  exact Nat.min_eq_left (Nat.le_trans (Nat.mul_le_mul_right _ hn) hc)
theorem St.own_mk {e size g n cap : Nat} {cur : Array Value} {xs : List Value} (s : St w0 (F * pt g (.cells cur e (0, 0))) w) (hn : n ≤ cap) (hm : cap ≤ maxLen) (hc : cur.size = cap * size) (ht : cur.toList.take (n * size) = xs) :
    St w0 (F * HL.own e size (.slice (some ⟨g, 0, none⟩) n cap) n xs) w := s.own_mk' hn hm (Nat.le_of_eq hc.symm) ht
/-- its cells -/
theorem St.own_cell {e size : Nat} {v : Value} {n : Nat} {xs : List Value} (s : St w0 (F * HL.own e size v n xs) w) :
    xs = [] ∧ v = .slice none 0 0 ∨ ∃ g cap, v = .slice (some ⟨g, 0, none⟩) n cap ∧ n ≤ cap ∧ ∀ j u, xs[j]? = some u → w.cell? ⟨g, j, none⟩ = some u := by
  rcases s.own.2 with ⟨rfl, _, hx, _⟩ | ⟨g, cap, cur, rfl, hn, _, hc, ht, s'⟩
  · exact .inl ⟨hx, rfl⟩
  · refine .inr ⟨g, cap, rfl, hn, fun j u hu => ?_⟩
    rw [cell_of s'.look]
    rw [← ht, List.getElem?_take] at hu
    split at hu
    · simpa using hu
    · cases hu

theorem St.own_val {e size : Nat} {v : Value} {n : Nat} {xs : List Value} (s : St w0 (F * HL.own e size v n xs) w) : ∃ a cap, v = .slice a n cap ∧ n ≤ cap ∧ (0 < n → a ≠ none) := by
  rcases s.own.2 with ⟨rfl, rfl, _⟩ | ⟨g, cap, cur, rfl, hn, _⟩
  · exact ⟨_, _, rfl, Nat.le_refl _, fun h => absurd h (by omega)⟩
  · exact ⟨_, _, rfl, hn, fun _ => by simp⟩
theorem St.own_at {e size : Nat} {v : Value} {n : Nat} {xs : List Value} (s : St w0 (F * HL.own e size v n xs) w) (hn : 0 < n) :
    ∃ g cap, v = .slice (some ⟨g, 0, none⟩) n cap ∧ n ≤ cap ∧ ∀ j u, xs[j]? = some u → w.cell? ⟨g, j, none⟩ = some u := by
  rcases s.own_cell with ⟨_, rfl⟩ | h
  · obtain ⟨a, cap, h, _⟩ := s.own_val
    cases h; omega
  · exact h
theorem eff_app {t ty e size bytes : Nat} {z v : Value} {n m c : Nat} {xs news : List Value} {a : Addr} (s : St w0 (F * HL.own e size v n xs) w)
    (hl : news.length = m * size) (hx : ∀ j u, news[j]? = some u → w.cell? (a.add j) = some u) (h1 : ∀ u ∈ news, u.oneCell' = true)
    (hsz : 0 < size) (hz : z.cells.size = size) (hmax : n + m ≤ maxLen) (hb : (n + m) * bytes ≤ 140737488355328)
    (hk : ∀ v' w', St w0 (F * HL.own e size v' (n + m) (xs ++ news)) w' → K v' w') : EffW P (.app t ty e size bytes z) [v, .slice (some a) m c] K w := by
  rintro ⟨ht, i, hi, hiz, rfl, rfl⟩
  have hsmall : n + m ≤ 9223372036854775807 := by simp only [maxLen] at hmax; omega
  have grown : ∀ old, old < n + m → St w0 F w → xs.length = n * i.size →
      St w0 (F * HL.own e i.size (.slice (some ⟨w.heap.size, 0, none⟩) (n + m) (grownCap w (n + m) old e)) (n + m) (xs ++ news))
        (w.drew.alloc (.cells (xs.toArray ++ news.toArray ++ Builtin.zeroCells z.cells (grownCap w (n + m) old e - (n + m))) e)) := by
    intro old ho s hxl
    have hge := grownCap_ge w (n + m) old e
    refine St.own_mk (s.drew.alloc (by rfl)) hge (grownCap_le_maxLen w (n + m) old e hmax) ?_ ?_
    · simp only [Array.size_append, List.size_toArray, size_zeroCells, hz, hxl, hl, ← Nat.add_mul]
      congr 1; omega
    · simp only [Array.toList_append, List.append_assoc]
      rw [← List.append_assoc, Nat.add_mul, ← hxl, ← hl, ← List.length_append]
      exact List.take_left
  obtain ⟨hxl, hc⟩ := s.own
  rcases hc with ⟨rfl, rfl, rfl, s'⟩ | ⟨g, cap, cur, rfl, hnc, hcm, hcs, htake, s'⟩
  · by_cases hm : m = 0
    · subst hm
      have hn : news = [] := List.eq_nil_of_length_eq_zero (by simpa using hl)
      subst hn
      refine upon_val (w' := w) (v := .slice none 0 0) ?_ (hk _ _ s)
      simp [Builtin.append_, run_underlying ht, sizeOf, typeInfo, hi, Builtin.lenOf, Builtin.firstCells, loadCells, loadCellsFrom]
    · have hr := run_append_nil (P := P) w t ty e i z ht hi hiz a m c news hl hx (by omega) (by omega) (by have hb := hb; simp only [Nat.zero_add] at hb; omega)
      have hgr := grown 0 (by omega) s' (by simp)
      simp only [Nat.zero_add, List.nil_append, Array.empty_append] at hgr hk
      exact upon_val hr (hk _ _ hgr)
  · by_cases hroom : n + m ≤ cap
    · have hfit : n * i.size + news.length ≤ cur.size := by rw [hl, ← Nat.add_mul]; exact Nat.le_trans (Nat.mul_le_mul_right _ hroom) hcs
      have hr := run_append_room (P := P) w t ty e i ht hi g n cap cur s'.look a m c news hl hx h1 hroom hfit
      refine upon_val hr (hk _ _ ((splice_turn (off := n * i.size) (vs := news) s').own_mk' hroom hcm ?_ ?_))
      · simp only [List.size_toArray, List.length_append, List.length_take, List.length_drop, Array.length_toList]
        omega
      · rw [htake, Nat.add_mul, ← hxl, ← hl, ← List.length_append]
        exact List.take_left
    · have holds : ∀ j u, xs[j]? = some u → w.cell? ((⟨g, 0, none⟩ : Addr).add j) = some u := by
        intro j u hu
        rcases s.own_cell with ⟨rfl, h⟩ | ⟨g', cap', h, _, hh⟩
        · simp at hu
        · cases h; rw [addr_add, Nat.zero_add]; exact hh j u hu
      have hr := run_append_grow (P := P) w t ty e i z ht hi hiz ⟨g, 0, none⟩ n cap xs hxl holds a m c news hl hx (by omega) (by omega) (growslice_fits (by omega) hb)
      exact upon_val hr (hk _ _ (grown cap (by omega) s'.drop hxl))
/-- nothing is appended -/
theorem eff_app_nil {t ty e size bytes : Nat} {z : Value} {b : Option Addr} {n cap c : Nat} (hn : n ≤ cap) (hk : K (.slice b n cap) w) : EffW P (.app t ty e size bytes z) [.slice b n cap, .slice none 0 c] K w := by
  rintro ⟨ht, i, hi, hiz, rfl, rfl⟩
  refine upon_val (w' := w) (v := .slice b n cap) ?_ hk
  cases b <;> simp [Builtin.append_, run_underlying ht, sizeOf, typeInfo, hi, Builtin.lenOf, Builtin.firstCells, storeCells, hn]

theorem St.cells_look {b : Nat} {c : Array Value} {t : TypeId} {f : Nat × Nat} (s : St w0 (F * pt b (.cells c t f)) w) : ∀ j u, c.toList[j]? = some u → w.cell? ((⟨b, 0, none⟩ : Addr).add j) = some u := by
  intro j u h
  rw [addr_add, cell_of s.look]
  simpa using h
theorem eff_rngS {t : TypeId} {x : ByteArray} (s : St w0 F w) (hk : ∀ b w', St w0 (F * pt b (.stringIter x 0)) w' → K (.pointer (some ⟨b, 0, none⟩)) w') : EffW P (.rngS t) [.string x] K w := by
  intro _
  refine upon_val (w' := w.alloc (.stringIter x 0)) ?_ (hk _ _ (s.alloc trivial))
  simp
theorem eff_nxtS {ty : TypeId} {b : Nat} {x : ByteArray} {pos : Nat} (s : St w0 (F * pt b (.stringIter x pos)) w)
    (hk1 : pos < x.size → ∀ w', St w0 (F * pt b (.stringIter x (pos + (Utf8.decode x pos).2))) w' → K (.tuple #[.bool true, .int .i64 pos, .int .i32 (Utf8.decode x pos).1]) w')
    (hk2 : ¬ pos < x.size → K (.tuple #[.bool false]) w) : EffW P (.nxt true ty) [.pointer (some ⟨b, 0, none⟩)] K w := by
  intro _
  have hb := s.look
  by_cases hp : pos < x.size
  · have hlt : b < w.heap.size := (Array.getElem?_eq_some_iff.1 hb).1
    refine upon_val (w' := { w with heap := w.heap.setIfInBounds b (.stringIter x (pos + (Utf8.decode x pos).2)) }) ?_ (hk1 hp _ ?_)
    · simp [Instr.next, getObj, setObj, Sem.run, hb, hp, Sem.run_bind, goInt]
    · refine s.turn ?_ ?_ (by simp) rfl rfl (fun _ _ _ e => by cases e)
      · simp [hlt]
      · intro c hc; simp [Ne.symm hc]
  · refine upon_val (w' := w) ?_ (hk2 hp)
    simp [Instr.next, getObj, Sem.run, hb, hp]
end
end Go.HL

namespace Go.HL
set_option linter.unusedSimpArgs false
set_option linter.unusedVariables false
attribute [simp] wp_done wp_chk wp_isb wp_eff wp_bnd wp_rite cont_app wp_skip' wp_reg wp_br wp_cnd wp_seqC wp_blockC wp_loopC wp_exitC wp_retC seqQ_nrm seqQ_ex seqQ_ret blockQ_nrm blockQ_ret blockQ_ex regK_app brK_app condC_true condC_false iteR_true iteR_same iteR_not endQ_nrm endQ_ret rvW_nil rvW_slot guardOn_none guardOn_some isB_tt isB_ff ite_bool_and ite_bool_or
attribute [simp] addr_add
attribute [simp] bounds3 bounds3ok bnd allInts
attribute [simp] SE.val SEs.vals PO.ok PO.val setAll tup binI binS isNilV nilPair
section
variable {P : Program} {F : PF P} {env : List Value} {w : World} {Q : EX → List Value → World → Prop}
theorem loopI {x : HC} (I : List Value → World → Prop) (μ : List Value → World → Nat) (h0 : I env w)
    (h : ∀ (LQ : EX → List Value → World → Prop) (env : List Value) (w : World), I env w → (∀ env' w', I env' w' → μ env' w' < μ env w → LQ .nrm env' w') → (∀ i env' w', Q (.ex i) env' w' → LQ (.ex i) env' w') →
      (∀ env' w', Q .ret env' w' → LQ .ret env' w') → x.wp F LQ env w) : LoopC F x Q env w :=
  loopC' I μ h0 fun env w hI => h _ env w hI (fun _ _ h1 h2 => ⟨h1, h2⟩) (fun _ _ _ h => h) (fun _ _ h => h)
/-- a branch on a truth value -/
theorem cndI {x y : HC} {b : Bool} (h1 : b = true → x.wp F Q env w) (h2 : b = false → y.wp F Q env w) : CondC F (.bool b) x y Q env w := condC_bool h1 h2
theorem env0_cons (t N : Nat) (L : List Nat) (args : List Value) : env0 (t :: L) N args = (if t < N then (args[t]?).getD undef else undef) :: env0 L N args := rfl
theorem env0_nil (N : Nat) (args : List Value) : env0 [] N args = [] := rfl
theorem CallW.mono {f : FuncId} {args : List Value} {K K' : Value → World → Prop} (h : CallW P f args K w) (hk : ∀ v w', K v w' → K' v w') : CallW P f args K' w :=
  Calls.mono h fun _ _ ⟨v, e, h⟩ => ⟨v, e, hk _ _ h⟩
end
attribute [simp] env0_cons env0_nil
/-- a text of bytes -/
def mk (l : List UInt8) : ByteArray := ⟨l.toArray⟩
@[simp] theorem mk_data0 (l : List UInt8) : (mk l).data = l.toArray := rfl
@[simp] theorem mk_data (l : List UInt8) : (mk l).data.toList = l := by simp [mk]
@[simp] theorem mk_size (l : List UInt8) : (mk l).size = l.length := by simp [mk, ByteArray.size]
@[simp] theorem mk_fold (l : List UInt8) : (ByteArray.mk l.toArray) = mk l := rfl
theorem mk_eta (s : ByteArray) : s = mk s.data.toList := by cases s; simp [mk]
@[simp] theorem byteAt_mk (l : List UInt8) (i : Int) : byteAt (mk l) i = ((l[i.toNat]?.getD 0).toNat : Int) := by simp [byteAt]
/-- a slot's number, for a loop's measure -/
def slotN (env : List Value) (j : Nat) : Nat := match env.getD j undef with
  | .int _ k => k.toNat
  | _ => 0
theorem wrap64 {x : Int} (h1 : -9223372036854775808 ≤ x) (h2 : x ≤ 9223372036854775807) : IntKind.i64.wrap x = x := IntWalk.i64_in x ⟨h1, h2⟩
theorem wrap32 {x : Int} (h1 : -2147483648 ≤ x) (h2 : x ≤ 2147483647) : IntKind.i32.wrap x = x := IntWalk.i32_in x ⟨h1, h2⟩
theorem wrapu8 {x : Int} (h1 : 0 ≤ x) (h2 : x ≤ 255) : IntKind.u8.wrap x = x := IntWalk.u8_in x ⟨h1, h2⟩
theorem wrapu64 {x : Int} (h1 : 0 ≤ x) (h2 : x ≤ 18446744073709551615) : IntKind.u64.wrap x = x := IntWalk.u64_in x ⟨h1, h2⟩

theorem condC_ite {P : Program} {F : PF P} {env : List Value} {w : World} {Q : EX → List Value → World → Prop} (x y : HC) (b : Bool) :
    CondC F (.bool b) x y Q env w = if b = true then x.wp F Q env w else y.wp F Q env w := by cases b <;> simp
/-- a function that only computes -/
structure PS (P : Program) where
  f : Nat
  val : List Value → Value
  ok : List Value → Prop
  sound : ∀ (args : List Value) (w : World), ok args → CallW P f args (fun v w' => v = val args ∧ w' = w) w
def PF.of {P : Program} (l : List (PS P)) : PF P where
  ids := l.map (·.f)
  val f args := match l.find? (fun s => s.f == f) with
    | some s => s.val args
    | .none => undef
  ok f args := match l.find? (fun s => s.f == f) with
    | some s => s.ok args
    | .none => False
  sound := by
    intro f hf args w hok
    split at hok
    · rename_i s hs
      have h1 := List.find?_some hs
      simp only [beq_iff_eq] at h1
      subst h1
      exact Calls.mono (s.sound args w hok) fun e w' ⟨v, he, hv, hw⟩ => ⟨by rw [he, hv], hw⟩
    · exact hok.elim
/-- of one number, a truth value -/
def PS.ib {P : Program} (f : Nat) (k : IntKind) (g : Int → Bool) (h : ∀ u w, CallW P f [.int k u] (fun r w' => r = .bool (g u) ∧ w' = w) w) : PS P where
  f := f
  val args := match args with
    | [.int _ u] => .bool (g u)
    | _ => undef
  ok args := match args with
    | [.int k' _] => k' = k
    | _ => False
  sound args w hok := by
    split at hok
    · subst hok; exact h _ w
    · exact hok.elim
end Go.HL

