/-
  What the claim leans on, part 3 of 13. Conditions: as each theorem says.
-/
import Derived.Test.YtnpobdapojomnaaSRMb
import Derived.IntWalk
namespace Go.HL
set_option linter.unusedSimpArgs false
set_option linter.unusedVariables false
def Hp := Nat → Option Obj
def Hp.sub (h g : Hp) : Prop := ∀ b o, h b = some o → g b = some o
def Hp.dis (h g : Hp) : Prop := ∀ b, h b = none ∨ g b = none
def Hp.un (h g : Hp) : Hp := fun b => match h b with | some o => some o | none => g b
def hpOf (w : World) : Hp := fun b => w.heap[b]?
def Asn := Hp → Prop
def sep (A B : Asn) : Asn := fun h => ∃ h1 h2, Hp.dis h1 h2 ∧ h = Hp.un h1 h2 ∧ A h1 ∧ B h2
instance : Mul Asn := ⟨sep⟩
def emp : Asn := fun h => ∀ b, h b = none
def pt (b : Nat) (o : Obj) : Asn := fun h => h b = some o ∧ ∀ c, c ≠ b → h c = none
def old (w0 : World) : Asn := fun h => h = hpOf w0
theorem Hp.un_comm {h g : Hp} (d : Hp.dis h g) : Hp.un h g = Hp.un g h := by
  funext b
  simp only [Hp.un]
  rcases d b with e | e <;> rw [e] <;> cases h b <;> cases g b <;> simp_all
theorem sep_comm (A B : Asn) : A * B = B * A := by
  have : ∀ A B : Asn, ∀ h, (A * B) h → (B * A) h := by
    rintro A B h ⟨h1, h2, d, rfl, a, b⟩
    exact ⟨h2, h1, fun x => (d x).symm, Hp.un_comm d, b, a⟩
  funext h; exact propext ⟨this A B h, this B A h⟩
theorem sep_assoc (A B C : Asn) : A * B * C = A * (B * C) := by
  funext h; apply propext
  constructor
  · rintro ⟨h12, h3, d, rfl, ⟨h1, h2, d', rfl, a, b⟩, c⟩
    have d13 : Hp.dis h1 h3 := fun x => by
      rcases d x with e | e
      · simp only [Hp.un] at e; cases hh : h1 x <;> simp_all
      · exact .inr e
    have d23 : Hp.dis h2 h3 := fun x => by
      rcases d x with e | e
      · simp only [Hp.un] at e; cases hh : h1 x <;> simp_all
      · exact .inr e
    refine ⟨h1, Hp.un h2 h3, fun x => ?_, ?_, a, h2, h3, d23, rfl, b, c⟩
    · rcases d' x with e | e
      · exact .inl e
      · rcases d13 x with e' | e'
        · exact .inl e'
        · right; simp only [Hp.un, e, e']
    · funext x; simp only [Hp.un]; cases h1 x <;> rfl
  · rintro ⟨h1, h23, d, rfl, a, h2, h3, d', rfl, b, c⟩
    have d12 : Hp.dis h1 h2 := fun x => by
      rcases d x with e | e
      · exact .inl e
      · simp only [Hp.un] at e; cases hh : h2 x <;> simp_all
    have d13 : Hp.dis h1 h3 := fun x => by
      rcases d x with e | e
      · exact .inl e
      · simp only [Hp.un] at e; cases hh : h2 x <;> simp_all
    refine ⟨Hp.un h1 h2, h3, fun x => ?_, ?_, ⟨h1, h2, d12, rfl, a, b⟩, c⟩
    · rcases d' x with e | e
      · rcases d13 x with e' | e'
        · left; simp only [Hp.un, e, e']
        · exact .inr e'
      · exact .inr e
    · funext x; simp only [Hp.un]; cases h1 x <;> rfl
theorem sep_right (A B C : Asn) : A * B * C = A * C * B := by rw [sep_assoc, sep_comm B C, ← sep_assoc]
theorem sep_mono {A A' B B' : Asn} (ha : ∀ h, A h → A' h) (hb : ∀ h, B h → B' h) : ∀ h, (A * B) h → (A' * B') h := by
  rintro h ⟨h1, h2, d, rfl, a, b⟩
  exact ⟨h1, h2, d, rfl, ha _ a, hb _ b⟩
theorem sep_emp (A : Asn) : A * emp = A := by
  funext h; apply propext
  constructor
  · rintro ⟨h1, h2, d, rfl, a, b⟩
    have : Hp.un h1 h2 = h1 := by funext x; simp only [Hp.un, b x]; cases h1 x <;> rfl
    rw [this]; exact a
  · intro a
    exact ⟨h, fun _ => none, fun x => .inr rfl, by funext x; simp only [Hp.un]; cases h x <;> rfl, a, fun x => rfl⟩
structure St (w0 : World) (A : Asn) (w : World) : Prop where
  os : w.os = w0.os
  out : w.output = w0.output
  size : w0.heap.size ≤ w.heap.size
  ran : w.tape = w0.tape ∧ w0.drawn ≤ w.drawn
  holds : ∃ h, Hp.sub h (hpOf w) ∧ A h
theorem St.mono {w0 w : World} {A B : Asn} (s : St w0 A w) (h : ∀ h, A h → B h) : St w0 B w :=
  ⟨s.os, s.out, s.size, s.ran, let ⟨g, h1, h2⟩ := s.holds; ⟨g, h1, h _ h2⟩⟩
theorem sub_left {h1 h2 g : Hp} (s : Hp.sub (Hp.un h1 h2) g) : Hp.sub h1 g := fun b o e => s b o (by simp only [Hp.un, e])
theorem sub_right {h1 h2 g : Hp} (d : Hp.dis h1 h2) (s : Hp.sub (Hp.un h1 h2) g) : Hp.sub h2 g := fun b o e => s b o (by
  rcases d b with e' | e'
  · simp only [Hp.un, e', e]
  · rw [e'] at e; cases e)
theorem St.drop {w0 w : World} {F A : Asn} (s : St w0 (F * A) w) : St w0 F w :=
  ⟨s.os, s.out, s.size, s.ran, let ⟨g, h1, h, h', d, e, a, _⟩ := s.holds; ⟨h, sub_left (e ▸ h1), a⟩⟩
theorem St.swap {w0 w : World} {F A B : Asn} (s : St w0 (F * A * B) w) : St w0 (F * B * A) w := by rwa [sep_right]
theorem St.p3 {w0 w : World} {F A B C : Asn} (s : St w0 (F * A * B * C) w) : St w0 (F * B * C * A) w := by
  rw [sep_right F A B, sep_right (F * B) A C] at s; exact s
theorem St.look {w0 w : World} {F : Asn} {b : Nat} {o : Obj} (s : St w0 (F * pt b o) w) : w.heap[b]? = some o := by
  obtain ⟨g, h1, h, h', d, e, _, a⟩ := s.holds
  exact sub_right d (e ▸ h1) b o a.1
theorem St.lookOld0 {w0 w w1 : World} (s : St w0 (old w1) w) {b : Nat} {o : Obj} (hb : w1.heap[b]? = some o) : w.heap[b]? = some o := by
  obtain ⟨g, h1, a⟩ := s.holds
  exact h1 b o (by rw [a]; exact hb)
theorem St.start (w : World) : St w (old w) w :=
  ⟨rfl, rfl, Nat.le_refl _, ⟨rfl, Nat.le_refl _⟩, _, fun b o h => h, rfl⟩
def Obj.plainNew : Obj → Prop
  | .cells _ _ f => f = (0, 0)
  | _ => True
theorem heap_alloc (w : World) (o : Obj) (b : Nat) : (w.alloc o).heap[b]? = if b = w.heap.size then some o else w.heap[b]? := by
  simp only [World.alloc, Array.getElem?_push]
theorem St.alloc {w0 w : World} {F : Asn} (s : St w0 F w) {o : Obj} (_ : Obj.plainNew o) : St w0 (F * pt w.heap.size o) (w.alloc o) := by
  refine ⟨s.os, s.out, ?_, s.ran, ?_⟩
  · have := s.size; simp; omega
  · obtain ⟨g, h1, h2⟩ := s.holds
    have hn : g w.heap.size = none := by
      cases hh : g w.heap.size with
      | none => rfl
      | some o' =>
        have h3 : w.heap[w.heap.size]? = some o' := h1 _ _ hh
        exact absurd (Array.getElem?_eq_some_iff.1 h3).1 (by omega)
    refine ⟨Hp.un g (fun b => if b = w.heap.size then some o else none), fun b o' hb => ?_, g, _, fun b => ?_, rfl, h2, ?_, ?_⟩
    · show (w.alloc o).heap[b]? = some o'
      rw [heap_alloc]
      simp only [Hp.un] at hb
      by_cases e : b = w.heap.size
      · subst e; simp only [hn, if_true] at hb; simpa using hb
      · simp only [e, if_false] at hb ⊢
        cases hg : g b with
        | none => rw [hg] at hb; cases hb
        | some o'' => rw [hg] at hb; cases hb; exact h1 _ _ hg
    · by_cases e : b = w.heap.size
      · subst e; exact .inl hn
      · right; simp [e]
    · simp
    · intro c hc; simp [hc]
theorem St.drew {w0 w : World} {A : Asn} (s : St w0 A w) : St w0 A w.drew := ⟨s.os, s.out, s.size, ⟨s.ran.1, Nat.le_succ_of_le s.ran.2⟩, s.holds⟩
theorem St.turn {w0 w w' : World} {F : Asn} {b : Nat} {o o' : Obj} (s : St w0 (F * pt b o) w) (h1 : w'.heap[b]? = some o') (h2 : ∀ c, c ≠ b → w'.heap[c]? = w.heap[c]?)
    (hs : w'.heap.size = w.heap.size) (hos : w'.os = w.os) (hout : w'.output = w.output) (_ : ∀ c t f, o' = .cells c t f → f = (0, 0)) (hrun : w'.tape = w.tape ∧ w'.drawn = w.drawn := by exact ⟨rfl, rfl⟩) : St w0 (F * pt b o') w' := by
  refine ⟨hos.trans s.os, hout.trans s.out, by rw [hs]; exact s.size, ⟨hrun.1.trans s.ran.1, hrun.2 ▸ s.ran.2⟩, ?_⟩
  · obtain ⟨g, hg, h, h', d, rfl, a, hb, hn⟩ := s.holds
    have hnb : h b = none := by
      rcases d b with e | e
      · exact e
      · rw [hb] at e; cases e
    refine ⟨Hp.un h (fun c => if c = b then some o' else none), fun c x hx => ?_, h, _, fun c => ?_, rfl, a, ?_, ?_⟩
    · show w'.heap[c]? = some x
      simp only [Hp.un] at hx
      by_cases e : c = b
      · subst e; simp only [hnb, if_true] at hx; rw [h1]; exact hx
      · simp only [e, if_false] at hx
        rw [h2 c e]
        cases hh : h c with
        | none => rw [hh] at hx; cases hx
        | some y => rw [hh] at hx; cases hx; exact sub_left hg c _ hh
    · by_cases e : c = b
      · subst e; exact .inl hnb
      · right; simp [e]
    · simp
    · intro c hc; simp [hc]
theorem heap_setCell (w : World) (b off : Nat) (v : Value) (c : Array Value) (t : TypeId) (f : Nat × Nat) (h : w.heap[b]? = some (.cells c t f)) (x : Nat) :
    (w.setCell ⟨b, off, none⟩ v).heap[x]? = if x = b then some (.cells (c.setIfInBounds off v) t f) else w.heap[x]? := by
  simp only [World.setCell, Array.getElem?_modify]
  by_cases e : x = b
  · subst e; simp [h]
  · simp [Ne.symm e, e]
theorem St.set {w0 w : World} {F : Asn} {b off : Nat} {c : Array Value} {t : TypeId} {v : Value} (s : St w0 (F * pt b (.cells c t (0, 0))) w) :
    St w0 (F * pt b (.cells (c.setIfInBounds off v) t (0, 0))) (w.setCell ⟨b, off, none⟩ v) := by
  have hb := s.look
  refine s.turn (w' := w.setCell ⟨b, off, none⟩ v) ?_ ?_ (by simp) rfl rfl (fun c t f e => by cases e; rfl)
  · rw [heap_setCell w b off v c t _ hb b, if_pos rfl]
  · intro x hx; rw [heap_setCell w b off v c t _ hb x, if_neg hx]
end Go.HL
namespace Go.HL
set_option linter.unusedSimpArgs false
set_option linter.unusedVariables false
section
variable {P : Program} {K : Value → World → Prop} {w w0 : World} {F : Asn}
theorem cell_of {b off : Nat} {c : Array Value} {t : TypeId} {f : Nat × Nat} (hb : w.heap[b]? = some (.cells c t f)) : w.cell? ⟨b, off, none⟩ = c[off]? := by
  simp [World.cell?, hb]
theorem addr_add (b off n : Nat) : (⟨b, off, none⟩ : Addr).add n = ⟨b, off + n, none⟩ := by
  unfold Addr.add; split <;> simp_all
theorem upon_val {s : Sem Value} {v : Value} {w' : World} (h : s.run P w = .ok v w') (hk : K v w') : UponW P (valS s) K w := by
  unfold UponW valS; simp [h]; exact hk
theorem upon_unit {s : Sem Unit} {w' : World} (h : s.run P w = .ok () w') (hk : K undef w') : UponW P (unitS s) K w := by
  unfold UponW unitS; simp [h]; exact hk
theorem eff_ldc {a : Addr} {n : Nat} {v : Value} (hc : w.cell? a = some v) (hk : K v w) : EffW P (.ld false n) [.pointer (some a)] K w := by
  intro _
  refine upon_val (w' := w) (v := v) ?_ hk
  simp [ldS, Instr.sureAddr, hc]
theorem eff_st1 {b off : Nat} {c : Array Value} {t : TypeId} {v : Value} (s : St w0 (F * pt b (.cells c t (0, 0))) w) (h1 : v.oneCell' = true) (hoff : off < c.size)
    (hk : ∀ w', St w0 (F * pt b (.cells (c.setIfInBounds off v) t (0, 0))) w' → K undef w') : EffW P (.st 1) [.pointer (some ⟨b, off, none⟩), v] K w := by
  intro _
  have hb := s.look
  have hc : w.cell? ⟨b, off, none⟩ = some c[off] := by rw [cell_of hb]; simp [hoff]
  have hf : w.frozen? ⟨b, off, none⟩ = false := by simp [World.frozen?, hb]
  refine upon_unit (w' := w.setCell ⟨b, off, none⟩ v) ?_ (hk _ s.set)
  have hcs : v.cells = #[v] := by cases v <;> first | rfl | (simp [Value.oneCell'] at h1)
  have hst := run_store P w ⟨b, off, none⟩ v .plain h1
  simp only [hc, hf, Bool.false_eq_true, if_false] at hst
  have ha : (⟨b, off, none⟩ : Addr).add 0 = ⟨b, off, none⟩ := rfl
  simp [stS, Instr.sureAddr, hcs, storeCells, ha, hst]
theorem splice_turn {b off : Nat} {c : Array Value} {t : TypeId} {vs : List Value} (s : St w0 (F * pt b (.cells c t (0, 0))) w) :
    St w0 (F * pt b (.cells (c.toList.take off ++ vs ++ c.toList.drop (off + vs.length)).toArray t (0, 0))) (w.setRow b (c.toList.take off ++ vs ++ c.toList.drop (off + vs.length)).toArray) :=
  s.turn (setRow_heap w b c _ t _ s.look) (fun x hx => setRow_other w b x _ hx) (by simp [World.setRow]) rfl rfl (fun _ _ _ e => by cases e; rfl)
theorem eff_stA {b off n : Nat} {c : Array Value} {t : TypeId} {v : Value} {vs : List Value} (s : St w0 (F * pt b (.cells c t (0, 0))) w) (hv : v.cells.toList = vs) (hn : vs.length = n) (h1 : ∀ u ∈ vs, u.oneCell' = true) (hoff : off + n ≤ c.size)
    (hk : ∀ w', St w0 (F * pt b (.cells (c.toList.take off ++ vs ++ c.toList.drop (off + n)).toArray t (0, 0))) w' → K undef w') : EffW P (.st n) [.pointer (some ⟨b, off, none⟩), v] K w := by
  intro _
  have hb := s.look
  have hst := run_storeCells_at P b off t vs 0 c w hb (by omega) h1
  simp only [Nat.add_zero] at hst
  have hh := splice_turn (off := off) (vs := vs) s
  rw [hn] at hst hh
  refine upon_unit ?_ (hk _ hh)
  have hsz : v.cells.size = n := by rw [← Array.length_toList, hv, hn]
  simp [stS, Instr.sureAddr, hsz, hv, hst]
theorem eff_new {t : TypeId} {z : Value} (s : St w0 F w) (hk : ∀ b w', St w0 (F * pt b (.cells z.cells t (0, 0))) w' → K (.pointer (some ⟨b, 0, none⟩)) w') : EffW P (.new t z) [] K w := by
  intro _
  refine upon_val (w' := w.alloc (.cells z.cells t)) ?_ (hk _ _ (s.alloc rfl))
  simp [newVar, newRow]
theorem eff_box {t : TypeId} {z : Value} (s : St w0 F w) (hk : ∀ b w', St w0 (F * pt b (.cells z.cells t (0, 0))) w' → K (.pointer (some ⟨b, 0, none⟩)) w') : EffW P (.box t) [z] K w := by
  intro _
  refine upon_val (w' := w.alloc (.cells z.cells t)) ?_ (hk _ _ (s.alloc rfl))
  simp [Instr.box, newVar, newRow]
theorem eff_bsl {e len size : Nat} {zero cells : Array Value} {ix : List Nat} {vs : List Value} (s : St w0 F w)
    (hf : Instr.fill (fun i => some (i * size, size)) ((Array.range (len * size)).map (zero[· % zero.size]!)) (ix.zip vs) = some cells)
    (hk : ∀ b w', St w0 (F * pt b (.cells cells e (0, 0))) w' → K (.slice (some ⟨b, 0, none⟩) len len) w') : EffW P (.bsl e len size zero ix) vs K w := by
  intro _
  refine upon_val (w' := w.alloc (.cells cells e)) ?_ (hk _ _ (s.alloc rfl))
  simp [bslS, hf, newRow]
theorem eff_bsl1 {e : Nat} {z x : Value} (s : St w0 F w) (h1 : x.oneCell' = true)
    (hk : ∀ b w', St w0 (F * pt b (.cells #[x] e (0, 0))) w' → K (.slice (some ⟨b, 0, none⟩) 1 1) w') : EffW P (.bsl e 1 1 #[z] [0]) [x] K w := by
  refine eff_bsl (cells := #[x]) s ?_ hk
  have hcs : x.cells = #[x] := by cases x <;> first | rfl | (simp [Value.oneCell'] at h1)
  have hz : ((Array.range (1 * 1)).map fun i => (#[z])[i % (#[z]).size]!) = #[z] := by
    apply Array.ext
    · simp
    · intro i h1 h2
      have : i = 0 := by simp at h2; omega
      subst this
      simp
  rw [hz]
  simp [Instr.fill, hcs]
theorem eff_call {f : FuncId} {vs : List Value} (h : CallW P f vs K w) : EffW P (.call f) vs K w := by
  intro hb
  unfold UponW
  simp only [EO.sem, callFunc_run hb]
  exact h
def own (e size : Nat) (v : Value) (n : Nat) (xs : List Value) : Asn := fun h => xs.length = n * size ∧
  ((v = .slice none 0 0 ∧ n = 0 ∧ emp h) ∨
   ∃ g cap cur, v = .slice (some ⟨g, 0, none⟩) n cap ∧ n ≤ cap ∧ cap ≤ maxLen ∧ cap * size ≤ cur.size ∧ cur.toList.take (n * size) = xs ∧ pt g (.cells cur e (0, 0)) h)
theorem St.ex {A : Asn} (s : St w0 A w) : ∃ h, Hp.sub h (hpOf w) ∧ A h := s.holds
theorem St.of {A B : Asn} (s : St w0 A w) (h : ∃ h, Hp.sub h (hpOf w) ∧ B h) : St w0 B w := ⟨s.os, s.out, s.size, s.ran, h⟩
theorem St.or {A B C : Asn} (s : St w0 (F * A) w) (h : ∀ h, A h → B h ∨ C h) : St w0 (F * B) w ∨ St w0 (F * C) w := by
  obtain ⟨g, h1, h2, h3, d, e, a, b⟩ := s.holds
  rcases h _ b with b | c
  · exact .inl (s.of ⟨g, h1, h2, h3, d, e, a, b⟩)
  · exact .inr (s.of ⟨g, h1, h2, h3, d, e, a, c⟩)
theorem St.own {e size : Nat} {v : Value} {n : Nat} {xs : List Value} (s : St w0 (F * own e size v n xs) w) : xs.length = n * size ∧
    ((v = .slice none 0 0 ∧ n = 0 ∧ xs = [] ∧ St w0 F w) ∨
     ∃ g cap cur, v = .slice (some ⟨g, 0, none⟩) n cap ∧ n ≤ cap ∧ cap ≤ maxLen ∧ cap * size ≤ cur.size ∧ cur.toList.take (n * size) = xs ∧ St w0 (F * pt g (.cells cur e (0, 0))) w) := by
  obtain ⟨g, h1, h2, h3, d, e, a, hl, b⟩ := s.holds
  refine ⟨hl, ?_⟩
  rcases b with ⟨rfl, rfl, hb⟩ | ⟨g', cap, cur, rfl, hn, hm, hc, ht, hp⟩
  · refine .inl ⟨rfl, rfl, List.eq_nil_of_length_eq_zero (by simpa using hl), s.drop⟩
  · exact .inr ⟨g', cap, cur, rfl, hn, hm, hc, ht, s.of ⟨g, h1, h2, h3, d, e, a, hp⟩⟩
theorem St.own_nil (s : St w0 F w) (e size : Nat) : St w0 (F * HL.own e size (.slice none 0 0) 0 []) w := by
  have : F = F * emp := (sep_emp F).symm
  rw [this] at s
  exact s.mono (sep_mono (fun _ h => h) fun h hh => ⟨by simp, .inl ⟨rfl, rfl, hh⟩⟩)
theorem St.own_mk' {e size g n cap : Nat} {cur : Array Value} {xs : List Value} (s : St w0 (F * pt g (.cells cur e (0, 0))) w) (hn : n ≤ cap) (hm : cap ≤ maxLen) (hc : cap * size ≤ cur.size) (ht : cur.toList.take (n * size) = xs) :
    St w0 (F * HL.own e size (.slice (some ⟨g, 0, none⟩) n cap) n xs) w := by
  refine s.mono (sep_mono (fun _ h => h) fun h hh => ⟨?_, .inr ⟨g, cap, cur, rfl, hn, hm, hc, ht, hh⟩⟩)
  rw [← ht, List.length_take, Array.length_toList]
  exact Nat.min_eq_left (Nat.le_trans (Nat.mul_le_mul_right _ hn) hc)
theorem St.own_mk {e size g n cap : Nat} {cur : Array Value} {xs : List Value} (s : St w0 (F * pt g (.cells cur e (0, 0))) w) (hn : n ≤ cap) (hm : cap ≤ maxLen) (hc : cur.size = cap * size) (ht : cur.toList.take (n * size) = xs) :
    St w0 (F * HL.own e size (.slice (some ⟨g, 0, none⟩) n cap) n xs) w := s.own_mk' hn hm (Nat.le_of_eq hc.symm) ht
theorem St.own_cell {e size : Nat} {v : Value} {n : Nat} {xs : List Value} (s : St w0 (F * HL.own e size v n xs) w) :
    xs = [] ∧ v = .slice none 0 0 ∨ ∃ g cap, v = .slice (some ⟨g, 0, none⟩) n cap ∧ n ≤ cap ∧ ∀ j u, xs[j]? = some u → w.cell? ⟨g, j, none⟩ = some u := by
  rcases s.own.2 with ⟨rfl, _, hx, _⟩ | ⟨g, cap, cur, rfl, hn, _, hc, ht, s'⟩
  · exact .inl ⟨hx, rfl⟩
  · refine .inr ⟨g, cap, rfl, hn, fun j u hu => ?_⟩
    rw [cell_of s'.look]
    rw [← ht, List.getElem?_take] at hu
    split at hu
    · simpa using hu
    · cases hu
theorem St.own_val {e size : Nat} {v : Value} {n : Nat} {xs : List Value} (s : St w0 (F * HL.own e size v n xs) w) : ∃ a cap, v = .slice a n cap ∧ n ≤ cap ∧ (0 < n → a ≠ none) := by
  rcases s.own.2 with ⟨rfl, rfl, _⟩ | ⟨g, cap, cur, rfl, hn, _⟩
  · exact ⟨_, _, rfl, Nat.le_refl _, fun h => absurd h (by omega)⟩
  · exact ⟨_, _, rfl, hn, fun _ => by simp⟩
theorem St.own_at {e size : Nat} {v : Value} {n : Nat} {xs : List Value} (s : St w0 (F * HL.own e size v n xs) w) (hn : 0 < n) :
    ∃ g cap, v = .slice (some ⟨g, 0, none⟩) n cap ∧ n ≤ cap ∧ ∀ j u, xs[j]? = some u → w.cell? ⟨g, j, none⟩ = some u := by
  rcases s.own_cell with ⟨_, rfl⟩ | h
  · obtain ⟨a, cap, h, _⟩ := s.own_val
    cases h; omega
  · exact h
theorem eff_app {t ty e size bytes : Nat} {z v : Value} {n m c : Nat} {xs news : List Value} {a : Addr} (s : St w0 (F * HL.own e size v n xs) w)
    (hl : news.length = m * size) (hx : ∀ j u, news[j]? = some u → w.cell? (a.add j) = some u) (h1 : ∀ u ∈ news, u.oneCell' = true)
    (hsz : 0 < size) (hz : z.cells.size = size) (hmax : n + m ≤ maxLen) (hb : (n + m) * bytes ≤ 140737488355328)
    (hk : ∀ v' w', St w0 (F * HL.own e size v' (n + m) (xs ++ news)) w' → K v' w') : EffW P (.app t ty e size bytes z) [v, .slice (some a) m c] K w := by
  rintro ⟨ht, i, hi, hiz, rfl, rfl⟩
  have hsmall : n + m ≤ 9223372036854775807 := by simp only [maxLen] at hmax; omega
  have grown : ∀ old, old < n + m → St w0 F w → xs.length = n * i.size →
      St w0 (F * HL.own e i.size (.slice (some ⟨w.heap.size, 0, none⟩) (n + m) (grownCap w (n + m) old e)) (n + m) (xs ++ news))
        (w.drew.alloc (.cells (xs.toArray ++ news.toArray ++ Builtin.zeroCells z.cells (grownCap w (n + m) old e - (n + m))) e)) := by
    intro old ho s hxl
    have hge := grownCap_ge w (n + m) old e
    refine St.own_mk (s.drew.alloc (by rfl)) hge (grownCap_le_maxLen w (n + m) old e hmax) ?_ ?_
    · simp only [Array.size_append, List.size_toArray, size_zeroCells, hz, hxl, hl, ← Nat.add_mul]
      congr 1; omega
    · simp only [Array.toList_append, List.append_assoc]
      rw [← List.append_assoc, Nat.add_mul, ← hxl, ← hl, ← List.length_append]
      exact List.take_left
  obtain ⟨hxl, hc⟩ := s.own
  rcases hc with ⟨rfl, rfl, rfl, s'⟩ | ⟨g, cap, cur, rfl, hnc, hcm, hcs, htake, s'⟩
  · by_cases hm : m = 0
    · subst hm
      have hn : news = [] := List.eq_nil_of_length_eq_zero (by simpa using hl)
      subst hn
      refine upon_val (w' := w) (v := .slice none 0 0) ?_ (hk _ _ s)
      simp [Builtin.append_, run_underlying ht, sizeOf, typeInfo, hi, Builtin.lenOf, Builtin.firstCells, loadCells, loadCellsFrom]
    · have hr := run_append_nil (P := P) w t ty e i z ht hi hiz a m c news hl hx (by omega) (by omega) (by have hb := hb; simp only [Nat.zero_add] at hb; omega)
      have hgr := grown 0 (by omega) s' (by simp)
      simp only [Nat.zero_add, List.nil_append, Array.empty_append] at hgr hk
      exact upon_val hr (hk _ _ hgr)
  · by_cases hroom : n + m ≤ cap
    · have hfit : n * i.size + news.length ≤ cur.size := by rw [hl, ← Nat.add_mul]; exact Nat.le_trans (Nat.mul_le_mul_right _ hroom) hcs
      have hr := run_append_room (P := P) w t ty e i ht hi g n cap cur s'.look a m c news hl hx h1 hroom hfit
      refine upon_val hr (hk _ _ ((splice_turn (off := n * i.size) (vs := news) s').own_mk' hroom hcm ?_ ?_))
      · simp only [List.size_toArray, List.length_append, List.length_take, List.length_drop, Array.length_toList]
        omega
      · rw [htake, Nat.add_mul, ← hxl, ← hl, ← List.length_append]
        exact List.take_left
    · have holds : ∀ j u, xs[j]? = some u → w.cell? ((⟨g, 0, none⟩ : Addr).add j) = some u := by
        intro j u hu
        rcases s.own_cell with ⟨rfl, h⟩ | ⟨g', cap', h, _, hh⟩
        · simp at hu
        · cases h; rw [addr_add, Nat.zero_add]; exact hh j u hu
      have hr := run_append_grow (P := P) w t ty e i z ht hi hiz ⟨g, 0, none⟩ n cap xs hxl holds a m c news hl hx (by omega) (by omega) (growslice_fits (by omega) hb)
      exact upon_val hr (hk _ _ (grown cap (by omega) s'.drop hxl))
theorem eff_app_nil {t ty e size bytes : Nat} {z : Value} {b : Option Addr} {n cap c : Nat} (hn : n ≤ cap) (hk : K (.slice b n cap) w) : EffW P (.app t ty e size bytes z) [.slice b n cap, .slice none 0 c] K w := by
  rintro ⟨ht, i, hi, hiz, rfl, rfl⟩
  refine upon_val (w' := w) (v := .slice b n cap) ?_ hk
  cases b <;> simp [Builtin.append_, run_underlying ht, sizeOf, typeInfo, hi, Builtin.lenOf, Builtin.firstCells, storeCells, hn]
theorem St.cells_look {b : Nat} {c : Array Value} {t : TypeId} {f : Nat × Nat} (s : St w0 (F * pt b (.cells c t f)) w) : ∀ j u, c.toList[j]? = some u → w.cell? ((⟨b, 0, none⟩ : Addr).add j) = some u := by
  intro j u h
  rw [addr_add, cell_of s.look]
  simpa using h
end
end Go.HL
namespace Go.HL
set_option linter.unusedSimpArgs false
set_option linter.unusedVariables false
theorem wpH {h t : HC} (e : h = t) {P : Program} {F : PF P} {Q : EX → List Value → World → Prop} {env : List Value} {w : World} : h.wp F Q env w = t.wp F Q env w := by rw [e]
theorem wpR {h t : RT} (e : h = t) {P : Program} {F : PF P} {env : List Value} {K : List Value → Option Value → World → Prop} {bvs : List Value} {w : World} : h.wp F env K bvs w = t.wp F env K bvs w := by rw [e]
theorem wpRq {h t : RT} (e : h = t) {P : Program} {F : PF P} {C : World → Prop} {env : List Value} {K : List Value → Option Value → Prop} {bvs : List Value} : h.wpq F C env K bvs = t.wpq F C env K bvs := by rw [e]
theorem wpRm {h t : RT} (e : h = t) {P : Program} {F : PF P} {S : Cls} {m : Nat} {env : List Value} {K : List Value → Option Value → List Value → Prop} {bvs vs : List Value} : h.wpm F S m env K bvs vs = t.wpm F S m env K bvs vs := by rw [e]
attribute [simp] wp_done wp_chk wp_isb wp_eff wp_bnd wp_rite cont_app wp_skip' wp_reg wp_br wp_cnd wp_seqC wp_blockC wp_loopC wp_exitC wp_retC seqQ_nrm seqQ_ex seqQ_ret blockQ_nrm blockQ_ret blockQ_ex regK_app brK_app condC_true condC_false iteR_true iteR_same iteR_not endQ_nrm endQ_ret rvW_nil rvW_slot guardOn_none guardOn_some isB_tt isB_ff ite_bool_and ite_bool_or
attribute [simp] addr_add
attribute [simp] bounds3 bounds3ok bnd allInts
attribute [simp] SE.val SEs.vals PO.ok PO.val setAll tup binI binS isNilV nilPair
section
variable {P : Program} {F : PF P} {env : List Value} {w : World} {Q : EX → List Value → World → Prop}
theorem loopI {x : HC} (I : List Value → World → Prop) (μ : List Value → World → Nat) (h0 : I env w)
    (h : ∀ (LQ : EX → List Value → World → Prop) (env : List Value) (w : World), I env w → (∀ env' w', I env' w' → μ env' w' < μ env w → LQ .nrm env' w') → (∀ i env' w', Q (.ex i) env' w' → LQ (.ex i) env' w') →
      (∀ env' w', Q .ret env' w' → LQ .ret env' w') → x.wp F LQ env w) : LoopC F x Q env w :=
  loopC' I μ h0 fun env w hI => h _ env w hI (fun _ _ h1 h2 => ⟨h1, h2⟩) (fun _ _ _ h => h) (fun _ _ h => h)
theorem cndI {x y : HC} {b : Bool} (h1 : b = true → x.wp F Q env w) (h2 : b = false → y.wp F Q env w) : CondC F (.bool b) x y Q env w := condC_bool h1 h2
theorem env0_cons (t N : Nat) (L : List Nat) (args : List Value) : env0 (t :: L) N args = (if t < N then (args[t]?).getD undef else undef) :: env0 L N args := rfl
theorem env0_nil (N : Nat) (args : List Value) : env0 [] N args = [] := rfl
theorem CallW.mono {f : FuncId} {args : List Value} {K K' : Value → World → Prop} (h : CallW P f args K w) (hk : ∀ v w', K v w' → K' v w') : CallW P f args K' w :=
  Calls.mono h fun _ _ ⟨v, e, h⟩ => ⟨v, e, hk _ _ h⟩
end
attribute [simp] env0_cons env0_nil
def mk (l : List UInt8) : ByteArray := ⟨l.toArray⟩
@[simp] theorem mk_data0 (l : List UInt8) : (mk l).data = l.toArray := rfl
@[simp] theorem mk_data (l : List UInt8) : (mk l).data.toList = l := by simp [mk]
@[simp] theorem mk_size (l : List UInt8) : (mk l).size = l.length := by simp [mk, ByteArray.size]
@[simp] theorem mk_fold (l : List UInt8) : (ByteArray.mk l.toArray) = mk l := rfl
theorem mk_eta (s : ByteArray) : s = mk s.data.toList := by cases s; simp [mk]
@[simp] theorem byteAt_mk (l : List UInt8) (i : Int) : byteAt (mk l) i = ((l[i.toNat]?.getD 0).toNat : Int) := by simp [byteAt]
def slotN (env : List Value) (j : Nat) : Nat := match env.getD j undef with
  | .int _ k => k.toNat
  | _ => 0
theorem wrap64 {x : Int} (h1 : -9223372036854775808 ≤ x) (h2 : x ≤ 9223372036854775807) : IntKind.i64.wrap x = x := IntWalk.i64_in x ⟨h1, h2⟩
structure PS (P : Program) where
  f : Nat
  val : List Value → Value
  ok : List Value → Prop
  sound : ∀ (args : List Value) (w : World), ok args → CallW P f args (fun v w' => v = val args ∧ w' = w) w
def PF.of {P : Program} (l : List (PS P)) : PF P where
  ids := l.map (·.f)
  val f args := match l.find? (fun s => s.f == f) with
    | some s => s.val args
    | .none => undef
  ok f args := match l.find? (fun s => s.f == f) with
    | some s => s.ok args
    | .none => False
  sound := by
    intro f hf args w hok
    split at hok
    · rename_i s hs
      have h1 := List.find?_some hs
      simp only [beq_iff_eq] at h1
      subst h1
      exact Calls.mono (s.sound args w hok) fun e w' ⟨v, he, hv, hw⟩ => ⟨by rw [he, hv], hw⟩
    · exact hok.elim
def PS.ib {P : Program} (f : Nat) (k : IntKind) (g : Int → Bool) (h : ∀ u w, CallW P f [.int k u] (fun r w' => r = .bool (g u) ∧ w' = w) w) : PS P where
  f := f
  val args := match args with
    | [.int _ u] => .bool (g u)
    | _ => undef
  ok args := match args with
    | [.int k' _] => k' = k
    | _ => False
  sound args w hok := by
    split at hok
    · subst hok; exact h _ w
    · exact hok.elim
end Go.HL

namespace Go.HL
set_option linter.unusedSimpArgs false
set_option linter.unusedVariables false
section
variable {P : Program} {K : Value → World → Prop} {w w0 : World} {F : Asn}
theorem eff_mks {t e size bytes l c : Nat} {k k' : IntKind} {z : Value} (s : St w0 F w) (hlc : l ≤ c) (hm : c ≤ maxLen) (hb : bytes * c ≤ 281474976710656) (hz : z.cells.size = size)
    (hk : ∀ v w', St w0 (F * HL.own e size v l (((Array.range (c * size)).map (z.cells[· % z.cells.size]!)).toList.take (l * size))) w' → K v w') : EffW P (.mks t e size bytes z) [.int k l, .int k' c] K w := by
  rintro ⟨ht, i, hi, hiz, rfl, rfl⟩
  have hc2 : (c : Int) ≤ 9223372036854775807 := by simp only [maxLen] at hm; omega
  have wc : IntKind.i64.wrap (c : Int) = c := wrap64 (by omega) hc2
  have wl : IntKind.i64.wrap (l : Int) = l := wrap64 (by omega) (by omega)
  refine upon_val (w' := w.alloc (.cells ((Array.range (c * i.size)).map (z.cells[· % z.cells.size]!)) e)) (v := .slice (some ⟨w.heap.size, 0, none⟩) l c) ?_ (hk _ _ ?_)
  · have hb' : ¬ (281474976710656 < (i.bytes : Int) * (c : Int)) := by
      rw [← Int.natCast_mul]; omega
    have hlt : ¬ ((c : Int) < (l : Int)) := by omega
    have hc0 : ¬ ((c : Int) < 0) := by omega
    have hl0 : ¬ ((l : Int) < 0) := by omega
    have hr0 : Array.range 0 = #[] := rfl
    have hnew : ∀ cs, (newRow e cs).run P w = .ok ⟨w.heap.size, 0, none⟩ (w.alloc (.cells cs e)) := fun cs => by simp [newRow]
    have hzv : (zeroValue e).run P w = .ok z w := by simp [zeroValue, typeInfo, hi, hiz, Sem.run_bind]
    by_cases h0 : c * i.size = 0
    · have e1 : c = 0 ∨ i.size = 0 := Nat.mul_eq_zero.1 h0
      simp [Instr.makeSlice, run_underlying ht, typeInfo, hi, sizeOf, wc, wl, asInt, asIntOf, hb', hlt, hc0, hl0, h0, e1, hnew, hr0]
    · simp [Instr.makeSlice, run_underlying ht, typeInfo, hi, sizeOf, wc, wl, asInt, asIntOf, hb', hlt, hc0, hl0, h0, hnew, hzv]
  · refine St.own_mk (s.alloc (by rfl)) hlc hm (by simp) rfl
@[simp] theorem iteR_ft {F : PF P} {env : List Value} {Kr} (a b : RT) (bvs : List Value) : IteR F (.bool false) true a b env Kr bvs w = b.wp F env Kr bvs w := rfl
@[simp] theorem iteR_tf {F : PF P} {env : List Value} {Kr} (a b : RT) (bvs : List Value) : IteR F (.bool true) false a b env Kr bvs w = b.wp F env Kr bvs w := rfl
def bytesV (l : List UInt8) : List Value := l.map fun b => .int .u8 b.toNat
theorem push_all : ∀ (l : List UInt8) (s : ByteArray), l.foldl (fun b a => b.push a) s = ⟨s.data ++ l.toArray⟩
  | [], s => by simp
  | b :: l, s => by
    rw [List.foldl_cons, push_all l]
    simp [ByteArray.push]
theorem run_push (P : Program) (w : World) : ∀ (l : List UInt8) (s : ByteArray), (forIn (bytesV l) s (fun c s => (match c with
        | .int .u8 n => pure (ForInStep.yield (s.push (UInt8.ofNat n.toNat)))
        | x => do
          stuck (α := Unit) "bytesToString: byte expected"
          pure (ForInStep.yield s) : Sem (ForInStep ByteArray)))).run P w = .ok ⟨s.data ++ l.toArray⟩ w
  | [], s => by simp [bytesV]
  | b :: l, s => by
    have ih := run_push P w l (s.push b)
    simp only [bytesV] at ih
    simp only [bytesV, List.map_cons, List.forIn_cons, Sem.run_bind]
    simp
    rw [push_all]
    apply congrArg
    simp
theorem eff_b2s {t d e n : Nat} {v : Value} {bs : List UInt8} (s : St w0 (F * HL.own e 1 v n (bytesV bs)) w) (hk : K (.string (mk bs)) w) : EffW P (.b2s t d) [v] K w := by
  intro _
  rcases s.own_cell with ⟨hx, rfl⟩ | ⟨g, cap, rfl, hn, hc⟩
  · have : bs = [] := by simpa [bytesV] using hx
    subst this
    exact upon_val (w' := w) (v := .string (mk [])) (by simp [Conv.bytesToString]; rfl) hk
  · refine upon_val (w' := w) (v := .string (mk bs)) ?_ hk
    have hl : (bytesV bs).length = n := by simpa using s.own.1
    have := run_loadCells_list (P := P) w ⟨g, 0, none⟩ (bytesV bs) (by
      intro j u hj
      rw [addr_add, Nat.zero_add]; exact hc j u hj)
    rw [hl] at this
    have hp := run_push P w bs .empty
    simp only [Conv.bytesToString, Sem.run_bind, this, Result.andThen_ok]
    rw [List.forIn_toArray]
    refine (congrArg (fun r => Result.andThen r _) hp).trans ?_
    simp
end
section
variable {P : Program} {F : PF P} {env bvs : List Value} {w : World} {Q : EX → List Value → World → Prop} {C : World → Prop}
def EffQ (P : Program) (C : World → Prop) (eo : EO) (vs : List Value) (K : Value → Prop) : Prop := ∃ v, (∀ w, C w → QuietW P C eo vs v w) ∧ K v
def contQ (F : PF P) (C : World → Prop) (env : List Value) (K : List Value → Option Value → Prop) (k : RT) (bvs : List Value) (v : Value) : Prop := k.wpq F C env K (bvs ++ [v])
def IteQ (F : PF P) (C : World → Prop) (c : Value) (v : Bool) (a b : RT) (env : List Value) (K : List Value → Option Value → Prop) (bvs : List Value) : Prop := if isB c v = true then a.wpq F C env K bvs else b.wpq F C env K bvs
def regKq (C : World → Prop) (Q : EX → List Value → World → Prop) (env : List Value) (_ : Option Value) : Prop := ∀ w, C w → Q .nrm env w
def brKq (F : PF P) (C : World → Prop) (x y : HC) (Q : EX → List Value → World → Prop) (env : List Value) (c : Option Value) : Prop := ∀ w, C w → CondC F (c.getD undef) x y Q env w
@[simp] theorem wpq_done {K} (sets : List (Nat × SE)) (c : Option SE) : (RT.done sets c).wpq F C env K bvs = K (setAll F env bvs sets env) (c.map (SE.val F env bvs)) := rfl
@[simp] theorem wpq_chk {K} (g : Option (SE × Bool)) (p : PO) (xs : SEs) (k : RT) : (RT.chk g p xs k).wpq F C env K bvs = ((guardOn F env bvs g → p.ok F (SEs.vals F env bvs xs)) ∧ k.wpq F C env K bvs) := rfl
@[simp] theorem wpq_isb {K} (g : Option (SE × Bool)) (c : SE) (k : RT) : (RT.isb g c k).wpq F C env K bvs = ((guardOn F env bvs g → ∃ b, SE.val F env bvs c = .bool b) ∧ k.wpq F C env K bvs) := rfl
@[simp] theorem wpq_eff {K} (eo : EO) (xs : SEs) (k : RT) : (RT.eff eo xs k).wpq F C env K bvs = EffQ P C eo (SEs.vals F env bvs xs) (contQ F C env K k bvs) := rfl
@[simp] theorem wpq_bnd {K} (e : SE) (k : RT) : (RT.bnd e k).wpq F C env K bvs = k.wpq F C env K (bvs ++ [SE.val F env bvs e]) := rfl
@[simp] theorem wpq_ite {K} (c : SE) (v : Bool) (a b : RT) : (RT.ite c v a b).wpq F C env K bvs = IteQ F C (SE.val F env bvs c) v a b env K bvs := rfl
@[simp] theorem contQ_app {K} (k : RT) (v : Value) : contQ F C env K k bvs v = k.wpq F C env K (bvs ++ [v]) := rfl
@[simp] theorem iteQ_tt {K} (a b : RT) : IteQ F C (.bool true) true a b env K bvs = a.wpq F C env K bvs := rfl
@[simp] theorem iteQ_ft {K} (a b : RT) : IteQ F C (.bool false) true a b env K bvs = b.wpq F C env K bvs := rfl
@[simp] theorem regKq_app (c : Option Value) : regKq C Q env c = ∀ w, C w → Q .nrm env w := rfl
@[simp] theorem brKq_app (x y : HC) (c : Option Value) : brKq F C x y Q env c = ∀ w, C w → CondC F (c.getD undef) x y Q env w := rfl
theorem brqI {w0 : World} {A : Asn} {m : Option Nat} {t : RT} {x y : HC} (s : St w0 A w) (h : t.wpq F (St w0 A) env (brKq F (St w0 A) x y Q) []) : (HC.brq m t x y).wp F Q env w := .inl ⟨St w0 A, s.drew, h⟩
theorem regqI {w0 : World} {A : Asn} {m : Option Nat} {t : RT} (s : St w0 A w) (h : t.wpq F (St w0 A) env (regKq (St w0 A) Q) []) : (HC.regq m t).wp F Q env w := .inl ⟨St w0 A, s.drew, h⟩
theorem effq_ldc {a : Addr} {n : Nat} {v : Value} {K : Value → Prop} (hc : ∀ w, C w → w.cell? a = some v) (hk : K v) : EffQ P C (.ld false n) [.pointer (some a)] K := by
  refine ⟨v, fun w hw _ => ?_, hk⟩
  have := hc w hw
  have hr : (ldS false n (.pointer (some a))).run P w = .ok v w := by simp [ldS, Instr.sureAddr, this]
  simp only [EO.sem, valS, Sem.run_bind, hr, Result.andThen_ok, Sem.run_pure]
  exact ⟨rfl, rfl⟩
end
end Go.HL

namespace Go.HL
set_option linter.unusedSimpArgs false
set_option linter.unusedVariables false
section
variable {P : Program} {K : Value → World → Prop} {w w0 : World} {F : Asn}
theorem eff_ldcs {b off m : Nat} {vs : List Value} (hc : ∀ j u, vs[j]? = some u → w.cell? ⟨b, off + j, none⟩ = some u) (hl : vs.length = m) (hk : K (.agg vs.toArray) w) :
    EffW P (.ld true m) [.pointer (some ⟨b, off, none⟩)] K w := by
  intro _
  refine upon_val (w' := w) ?_ hk
  have := run_loadCells_list (P := P) w ⟨b, off, none⟩ vs (by
    intro j v hj
    rw [addr_add]; exact hc j v hj)
  rw [hl] at this
  simp [ldS, Instr.sureAddr, this]
def Row (w0 : World) (A : Asn) (v : Value) (n size : Nat) (xs : List Value) : Prop :=
  xs.length = n * size ∧ ∃ a cap, v = .slice a n cap ∧ n ≤ cap ∧
    (n = 0 ∨ ∃ g o, a = some ⟨g, o, none⟩ ∧ ∀ w, St w0 A w → ∀ j u, xs[j]? = some u → w.cell? ⟨g, o + j, none⟩ = some u)
theorem Row.mono {A B : Asn} {v : Value} {n size : Nat} {xs : List Value} (h : Row w0 A v n size xs) (hs : ∀ w, St w0 B w → St w0 A w) : Row w0 B v n size xs := by
  obtain ⟨hl, a, cap, rfl, hn, h⟩ := h
  refine ⟨hl, a, cap, rfl, hn, ?_⟩
  rcases h with h | ⟨g, o, rfl, hc⟩
  · exact .inl h
  · exact .inr ⟨g, o, rfl, fun w s => hc w (hs w s)⟩
theorem Row.val {A : Asn} {v : Value} {n size : Nat} {xs : List Value} (h : Row w0 A v n size xs) : ∃ a cap, v = .slice a n cap := by
  obtain ⟨_, a, cap, rfl, _⟩ := h
  exact ⟨_, _, rfl⟩
theorem Row.at {A : Asn} {v : Value} {n size : Nat} {xs : List Value} (h : Row w0 A v n size xs) (hn : 0 < n) :
    ∃ g o cap, v = .slice (some ⟨g, o, none⟩) n cap ∧ ∀ w, St w0 A w → ∀ j u, xs[j]? = some u → w.cell? ⟨g, o + j, none⟩ = some u := by
  obtain ⟨_, a, cap, rfl, _, h | ⟨g, o, rfl, hc⟩⟩ := h
  · omega
  · exact ⟨g, o, cap, rfl, hc⟩
theorem row_own {A : Asn} {e size n : Nat} {v : Value} {xs : List Value} (s : St w0 (A * own e size v n xs) w) : Row w0 (A * own e size v n xs) v n size xs := by
  refine ⟨s.own.1, ?_⟩
  rcases s.own_cell with ⟨_, rfl⟩ | ⟨g, cap, rfl, hn, _⟩
  · obtain ⟨a, cap, h, hn, _⟩ := s.own_val
    cases h
    exact ⟨none, 0, rfl, Nat.le_refl _, .inl rfl⟩
  · refine ⟨some ⟨g, 0, none⟩, cap, rfl, hn, .inr ⟨g, 0, rfl, fun w' s' j u hu => ?_⟩⟩
    rcases s'.own_cell with ⟨_, h⟩ | ⟨g', cap', h, _, hc⟩
    · cases h
    · cases h
      rw [Nat.zero_add]
      exact hc j u hu
theorem eff_stC {e size n g cap j : Nat} {u : Value} {xs : List Value} (s : St w0 (F * HL.own e size (.slice (some ⟨g, 0, none⟩) n cap) n xs) w) (hj : j < xs.length) (h1 : u.oneCell' = true)
    (hk : ∀ w', St w0 (F * HL.own e size (.slice (some ⟨g, 0, none⟩) n cap) n (xs.set j u)) w' → K undef w') : EffW P (.st 1) [.pointer (some ⟨g, j, none⟩), u] K w := by
  rcases s.own.2 with ⟨h, _⟩ | ⟨g', cap', cur, h, hn, hm, hc, ht, s'⟩
  · cases h
  · cases h
    have hl : xs.length = n * size := s.own.1
    have : n * size ≤ cap * size := Nat.mul_le_mul_right _ hn
    refine eff_st1 s' h1 (by omega) fun w' s2 => hk w' (s2.own_mk' hn hm (by simpa using hc) ?_)
    rw [Array.toList_setIfInBounds, List.take_set, ht]
theorem eff_stR {e size n g cap j m : Nat} {v : Value} {vs xs : List Value} (s : St w0 (F * HL.own e size (.slice (some ⟨g, 0, none⟩) n cap) n xs) w) (hv : v.cells.toList = vs) (hm : vs.length = m) (h1 : ∀ u ∈ vs, u.oneCell' = true) (hj : j + m ≤ xs.length)
    (hk : ∀ w', St w0 (F * HL.own e size (.slice (some ⟨g, 0, none⟩) n cap) n (xs.take j ++ vs ++ xs.drop (j + m))) w' → K undef w') : EffW P (.st m) [.pointer (some ⟨g, j, none⟩), v] K w := by
  rcases s.own.2 with ⟨h, _⟩ | ⟨g', cap', cur, h, hn, hmm, hc, ht, s'⟩
  · cases h
  · cases h
    have hl : xs.length = n * size := s.own.1
    have hle : n * size ≤ cap * size := Nat.mul_le_mul_right _ hn
    refine eff_stA s' hv hm h1 (by omega) fun w' s2 => hk w' (s2.own_mk' hn hmm ?_ ?_)
    · simp only [List.size_toArray, List.length_append, List.length_take, List.length_drop, Array.length_toList]
      omega
    · have e1 : cur.toList.take j = xs.take j := by rw [← ht, List.take_take, Nat.min_eq_left (by omega)]
      have e2 : (cur.toList.drop (j + m)).take (n * size - (j + m)) = xs.drop (j + m) := by rw [← ht, List.drop_take]
      have l1 : (cur.toList.take j ++ vs).length = j + m := by simp only [List.length_append, List.length_take, Array.length_toList]; omega
      rw [List.take_append, l1, e2, List.take_of_length_le (by omega), e1]
end
section
variable {α : Type}
theorem flat_length (f : α → List Value) (c : Nat) (hf : ∀ a, (f a).length = c) : ∀ l : List α, (l.flatMap f).length = l.length * c
  | [] => by simp
  | a :: l => by rw [List.flatMap_cons, List.length_append, hf, flat_length f c hf l, List.length_cons, Nat.add_mul]; omega
theorem flat_drop (f : α → List Value) (c : Nat) (hf : ∀ a, (f a).length = c) : ∀ (l : List α) (i : Nat), (l.flatMap f).drop (i * c) = (l.drop i).flatMap f
  | l, 0 => by simp
  | [], i + 1 => by simp
  | a :: l, i + 1 => by
    rw [List.flatMap_cons, List.drop_succ_cons, ← flat_drop f c hf l i, Nat.add_mul, Nat.one_mul, Nat.add_comm, ← List.drop_drop, ← hf a, List.drop_left]
theorem flat_row (f : α → List Value) (c : Nat) (hf : ∀ a, (f a).length = c) (l : List α) (i : Nat) (h : i < l.length) : ((l.flatMap f).drop (i * c)).take c = f l[i] := by
  rw [flat_drop f c hf, List.drop_eq_getElem_cons h, List.flatMap_cons, ← hf l[i], List.take_left]
theorem flat_get (f : α → List Value) (c : Nat) (hf : ∀ a, (f a).length = c) (l : List α) (i k : Nat) (h : i < l.length) (hk : k < c) : (l.flatMap f)[i * c + k]? = (f l[i])[k]? := by
  rw [← flat_row f c hf l i h, List.getElem?_take, if_pos hk, List.getElem?_drop]
theorem flat_set (f : α → List Value) (c : Nat) (hf : ∀ a, (f a).length = c) (x : α) : ∀ (l : List α) (i : Nat) (h : i < l.length), (l.flatMap f).take (i * c) ++ f x ++ (l.flatMap f).drop (i * c + c) = (l.set i x).flatMap f
  | a :: l, 0, _ => by
    rw [Nat.zero_mul, Nat.zero_add, List.take_zero, List.nil_append, List.set_cons_zero, List.flatMap_cons, List.flatMap_cons, ← hf a, List.drop_left]
  | a :: l, i + 1, h => by
    have ih := flat_set f c hf x l i (by simpa using h)
    have e1 : (i + 1) * c = c + i * c := by rw [Nat.add_mul]; omega
    have e2 : (i + 1) * c + c = c + (i * c + c) := by omega
    rw [List.set_cons_succ, List.flatMap_cons, List.flatMap_cons, ← ih, e2, e1, ← hf a, List.take_length_add_append, ← List.drop_drop, List.drop_left, List.append_assoc, List.append_assoc, hf a, List.append_assoc]
end
theorem foldl_set : ∀ (vs : List Value) (o : Nat) (c : List Value), o + vs.length ≤ c.length →
    ((vs.zipIdx o).foldl (fun (cs : Array Value) x => cs.setIfInBounds x.2 x.1) c.toArray) = (c.take o ++ vs ++ c.drop (o + vs.length)).toArray
  | [], o, c, _ => by simp
  | v :: vs, o, c, h => by
    simp only [List.length_cons] at h
    rw [List.zipIdx_cons, List.foldl_cons]
    have e : c.toArray.setIfInBounds o v = (c.set o v).toArray := by simp
    simp only [e]
    rw [foldl_set vs (o + 1) (c.set o v) (by rw [List.length_set]; omega)]
    congr 1
    have hlt : o < c.length := by omega
    rw [List.set_eq_take_append_cons_drop, if_pos hlt]
    have hl : (c.take o).length = o := by simp; omega
    have t1 : (c.take o ++ v :: c.drop (o + 1)).take (o + 1) = c.take o ++ [v] := by
      rw [List.take_append, hl, List.take_take, Nat.min_eq_right (by omega), show o + 1 - o = 1 by omega]; rfl
    have t2 : (c.take o ++ v :: c.drop (o + 1)).drop (o + 1 + vs.length) = c.drop (o + (vs.length + 1)) := by
      rw [List.drop_append, hl, List.drop_of_length_le (by rw [hl]; omega), show o + 1 + vs.length - o = vs.length + 1 by omega, List.drop_succ_cons, List.drop_drop, List.nil_append]
      congr 1; omega
    rw [t1, t2]
    simp
theorem fill1 (z : Array Value) (size : Nat) (v : Value) (hv : v.cells.size = size) : Instr.fill (fun i => some (i * size, size)) ((Array.range (1 * size)).map fun i => z[i % z.size]!) [(0, v)] = some v.cells := by
  have hf := foldl_set v.cells.toList 0 ((Array.range (1 * size)).map fun i => z[i % z.size]!).toList (by simp [hv])
  simp only [Instr.fill, Nat.zero_mul, Nat.zero_add, hv]
  rw [if_neg (by simp)]
  congr 1
  have e : v.cells.zipIdx = (v.cells.toList.zipIdx 0).toArray := by
    apply Array.ext'
    simp
  rw [e, List.size_toArray, List.foldl_toArray']
  · rw [Array.toArray_toList] at hf
    refine hf.trans ?_
    have hd : List.drop (0 + v.cells.toList.length) ((Array.range (1 * size)).map fun i => z[i % z.size]!).toList = [] := List.drop_of_length_le (by simp [hv])
    rw [hd]
    simp
  · rfl
theorem eff_bslV {P : Program} {K : Value → World → Prop} {w w0 : World} {F : Asn} {e size : Nat} {z : Array Value} {v : Value} (s : St w0 F w) (hv : v.cells.size = size)
    (hk : ∀ b w', St w0 (F * pt b (.cells v.cells e (0, 0))) w' → K (.slice (some ⟨b, 0, none⟩) 1 1) w') : EffW P (.bsl e 1 size z [0]) [v] K w :=
  eff_bsl s (fill1 z size v hv) hk
theorem eff_bsl0 {P : Program} {K : Value → World → Prop} {w w0 : World} {F : Asn} {e size : Nat} {z : Array Value} (s : St w0 F w)
    (hk : ∀ v w', St w0 (F * own e size v 0 []) w' → K v w') : EffW P (.bsl e 0 size z []) [] K w :=
  eff_bsl (cells := #[]) s (by simp [Instr.fill]) fun b w' s' => hk _ w' (s'.own_mk (Nat.le_refl 0) (Nat.zero_le _) (by simp) (by simp))
@[simp] theorem cells_agg (c : Array Value) : (Value.agg c).cells = c := rfl
theorem rv_cellA {P : Program} {env : List Value} {i n b off : Nat} {vs : List Value} {r : List RV} {K : List Value → World → Prop} {w : World} (he : env.getD i undef = .pointer (some ⟨b, off, none⟩))
    (hc : ∀ j u, vs[j]? = some u → w.cell? ⟨b, off + j, none⟩ = some u) (hl : vs.length = n) (hk : rvW P env r (fun us w => K (.agg vs.toArray :: us) w) w) : rvW P env (.cell i true n :: r) K w := by
  have := run_loadCells_list (P := P) w ⟨b, off, none⟩ vs (by
    intro j v hj
    rw [addr_add]; exact hc j v hj)
  rw [hl] at this
  show UponW P (valS (ldS true n (env.getD i undef))) _ w
  rw [he]
  refine upon_val (w' := w) (v := .agg vs.toArray) ?_ ⟨rfl, hk⟩
  simp [ldS, Instr.sureAddr, this]
theorem St.row_cells {w0 w : World} {F : Asn} {b : Nat} {vs : List Value} {t : TypeId} {f : Nat × Nat} (s : St w0 (F * pt b (.cells vs.toArray t f)) w) : ∀ j u, vs[j]? = some u → w.cell? ⟨b, 0 + j, none⟩ = some u := by
  intro j u hu
  rw [cell_of s.look, Nat.zero_add]
  simpa using hu
instance : Std.Associative (α := Asn) (· * ·) := ⟨sep_assoc⟩
instance : Std.Commutative (α := Asn) (· * ·) := ⟨sep_comm⟩
theorem St.to {w0 w : World} {A B : Asn} (s : St w0 A w) (h : A = B) : St w0 B w := h ▸ s
theorem St.cut {w0 w : World} {A B : Asn} (C : Asn) (s : St w0 A w) (h : A = B * C) : St w0 B w := (s.to h).drop
end Go.HL
