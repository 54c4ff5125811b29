/-
  What the claim leans on, part 5 of 14. Conditions: as each theorem says.
-/
import Derived.Test.YtdeidghdeijcaaaGreatMHMd
import Derived.Laws.StructEq
import Derived.ChangeKeysEq
namespace Go.HL
set_option linter.unusedSimpArgs false
set_option linter.unusedVariables false
section
variable {P : Program}
def intFields (P : Program) : List Field → Nat → Bool
  | [], _ => true
  | f :: fs, o => (f.name != "_") && (f.offset == o) && (match P.underlying f.type with | some (.int _) => true | _ => false) && intFields P fs (o + 1)
def holdsInts (xs : Array Value) (o : Nat) (as_ : List Int) : Prop := ∀ j u, as_[j]? = some u → xs[o + j]? = some (.int .i64 u)
structure IntStruct (P : Program) (t : TypeId) (n : Nat) : Prop where
  und : P.underlying t = some (.struct (P.fieldsOf t))
  stood : P.stoodInHeld t = false
  guard : P.eqGuardType P.depth t = false
  ints : intFields P (P.fieldsOf t).toList 0 = true
  len : (P.fieldsOf t).toList.length = n
structure IntArray (P : Program) (t : TypeId) (n : Nat) : Prop where
  elem : ∃ e k, P.underlying t = some (.array n e) ∧ (P.info? e).isSome = true ∧ P.underlying e = some (.int k) ∧ P.cellsOf e = 1
  guard : P.eqGuardType P.depth t = false
variable {K : Value → World → Prop} {w w0 : World} {A : Asn} {C : World → Prop}
theorem row_in {A B : Asn} {e size n : Nat} {v : Value} {xs : List Value} (s : St w0 A w) (h : A = B * own e size v n xs) : Row w0 A v n size xs := (row_own (s.to h)).mono fun w s => s.to h
theorem eff_appR {F : Asn} {t ty e size bytes : Nat} {z v v2 : Value} {n m : Nat} {xs news : List Value} (s : St w0 (F * own e size v n xs) w) (h : Row w0 (F * own e size v n xs) v2 m size news)
    (h1 : ∀ u ∈ news, u.oneCell' = true) (hsz : 0 < size) (hz : z.cells.size = size) (hmax : n + m ≤ maxLen) (hb : (n + m) * bytes ≤ 140737488355328)
    (hk : ∀ v' w', St w0 (F * own e size v' (n + m) (xs ++ news)) w' → K v' w') : EffW P (.app t ty e size bytes z) [v, v2] K w := by
  obtain ⟨hl, a, cap, rfl, hn, hc⟩ := h
  cases a with
  | none =>
    rcases hc with rfl | ⟨g, o, h, _⟩
    · have : news = [] := List.eq_nil_of_length_eq_zero (by simpa using hl)
      subst this
      obtain ⟨b, c, rfl, hle, _⟩ := s.own_val
      refine eff_app_nil hle (hk _ _ ?_)
      simpa using s
    · cases h
  | some a =>
    refine eff_app s hl (fun j u hu => ?_) h1 hsz hz hmax hb hk
    rcases hc with rfl | ⟨g, o, h, hc⟩
    · have : news = [] := List.eq_nil_of_length_eq_zero (by simpa using hl)
      subst this
      simp at hu
    · cases h
      rw [addr_add]
      exact hc w s j u hu
end
@[simp] theorem iteQ_ff {P : Program} {F : PF P} {C : World → Prop} {env bvs : List Value} {K} (a b : RT) : IteQ F C (.bool false) false a b env K bvs = a.wpq F C env K bvs := rfl
@[simp] theorem iteQ_tf {P : Program} {F : PF P} {C : World → Prop} {env bvs : List Value} {K} (a b : RT) : IteQ F C (.bool true) false a b env K bvs = b.wpq F C env K bvs := rfl
section
variable {P : Program} {F : PF P} {env bvs : List Value} {w : World} {Q : EX → List Value → World → Prop} {C : List Value → World → Prop} {q : Nat → List Value → Value} {m : Nat} {vs : List Value}
def EffM (F : PF P) (C : List Value → World → Prop) (q : Nat → List Value → Value) (m : Nat) (eo : EO) (args vs : List Value) (K : Value → List Value → Prop) : Prop :=
  (mvF F eo = false ∧ ∃ v, StillW F ⟨C, q⟩ m eo args vs v ∧ K v vs) ∨ (mvF F eo = true ∧ MovesW P ⟨C, q⟩ eo args vs ∧ ∀ v, (∃ w, C (vs ++ [v]) w) → K v (vs ++ [v]))
def contM (F : PF P) (C : List Value → World → Prop) (q : Nat → List Value → Value) (m : Nat) (env : List Value) (K : List Value → Option Value → List Value → Prop) (k : RT) (bvs : List Value) (v : Value) (vs : List Value) : Prop := k.wpm F ⟨C, q⟩ m env K (bvs ++ [v]) vs
def IteM (F : PF P) (C : List Value → World → Prop) (q : Nat → List Value → Value) (m : Nat) (c : Value) (v : Bool) (a b : RT) (env : List Value) (K : List Value → Option Value → List Value → Prop) (bvs vs : List Value) : Prop := if isB c v = true then a.wpm F ⟨C, q⟩ m env K bvs vs else b.wpm F ⟨C, q⟩ m env K bvs vs
def regKm (C : List Value → World → Prop) (Q : EX → List Value → World → Prop) (env : List Value) (_ : Option Value) (vs : List Value) : Prop := ∀ w, C vs w → Q .nrm env w
def brKm (F : PF P) (C : List Value → World → Prop) (x y : HC) (Q : EX → List Value → World → Prop) (env : List Value) (c : Option Value) (vs : List Value) : Prop := ∀ w, C vs w → CondC F (c.getD undef) x y Q env w
@[simp] theorem wpm_done {K} (sets : List (Nat × SE)) (c : Option SE) : (RT.done sets c).wpm F ⟨C, q⟩ m env K bvs vs = K (setAll F env bvs sets env) (c.map (SE.val F env bvs)) vs := rfl
@[simp] theorem wpm_chk {K} (g : Option (SE × Bool)) (p : PO) (xs : SEs) (k : RT) : (RT.chk g p xs k).wpm F ⟨C, q⟩ m env K bvs vs = ((guardOn F env bvs g → p.ok F (SEs.vals F env bvs xs)) ∧ k.wpm F ⟨C, q⟩ m env K bvs vs) := rfl
@[simp] theorem wpm_isb {K} (g : Option (SE × Bool)) (c : SE) (k : RT) : (RT.isb g c k).wpm F ⟨C, q⟩ m env K bvs vs = ((guardOn F env bvs g → ∃ b, SE.val F env bvs c = .bool b) ∧ k.wpm F ⟨C, q⟩ m env K bvs vs) := rfl
@[simp] theorem wpm_eff {K} (eo : EO) (xs : SEs) (k : RT) : (RT.eff eo xs k).wpm F ⟨C, q⟩ m env K bvs vs = EffM F C q m eo (SEs.vals F env bvs xs) vs (contM F C q m env K k bvs) := rfl
@[simp] theorem wpm_bnd {K} (e : SE) (k : RT) : (RT.bnd e k).wpm F ⟨C, q⟩ m env K bvs vs = k.wpm F ⟨C, q⟩ m env K (bvs ++ [SE.val F env bvs e]) vs := rfl
@[simp] theorem wpm_ite {K} (c : SE) (v : Bool) (a b : RT) : (RT.ite c v a b).wpm F ⟨C, q⟩ m env K bvs vs = IteM F C q m (SE.val F env bvs c) v a b env K bvs vs := rfl
@[simp] theorem contM_app {K} (k : RT) (v : Value) : contM F C q m env K k bvs v vs = k.wpm F ⟨C, q⟩ m env K (bvs ++ [v]) vs := rfl
@[simp] theorem iteM_tt {K} (a b : RT) : IteM F C q m (.bool true) true a b env K bvs vs = a.wpm F ⟨C, q⟩ m env K bvs vs := rfl
@[simp] theorem iteM_ft {K} (a b : RT) : IteM F C q m (.bool false) true a b env K bvs vs = b.wpm F ⟨C, q⟩ m env K bvs vs := rfl
@[simp] theorem iteM_tf {K} (a b : RT) : IteM F C q m (.bool true) false a b env K bvs vs = b.wpm F ⟨C, q⟩ m env K bvs vs := rfl
@[simp] theorem iteM_ff {K} (a b : RT) : IteM F C q m (.bool false) false a b env K bvs vs = a.wpm F ⟨C, q⟩ m env K bvs vs := rfl
@[simp] theorem regKm_app (c : Option Value) : regKm C Q env c vs = ∀ w, C vs w → Q .nrm env w := rfl
@[simp] theorem brKm_app (x y : HC) (c : Option Value) : brKm F C x y Q env c vs = ∀ w, C vs w → CondC F (c.getD undef) x y Q env w := rfl
theorem regmI {t : RT} {n : Nat} (C : List Value → World → Prop) (hC : C [] w.drew) (h : t.wpm F ⟨C, fun _ _ => undef⟩ n env (regKm C Q) [] []) : (HC.regq (.some n) t).wp F Q env w := .inr (.inl ⟨n, rfl, ⟨C, _⟩, hC, h⟩)
theorem brmI {t : RT} {n : Nat} {x y : HC} (C : List Value → World → Prop) (hC : C [] w.drew) (h : t.wpm F ⟨C, fun _ _ => undef⟩ n env (brKm F C x y Q) [] []) : (HC.brq (.some n) t x y).wp F Q env w := .inr (.inl ⟨n, rfl, ⟨C, _⟩, hC, h⟩)
theorem effm_mv {eo : EO} {args : List Value} {K : Value → List Value → Prop} (hm : mvF F eo = true) (h : ∀ w, C vs w → EffW P eo args (fun v w' => C (vs ++ [v]) w') w) (hk : ∀ v, (∃ w, C (vs ++ [v]) w) → K v (vs ++ [v])) : EffM F C q m eo args vs K := by
  refine .inr ⟨hm, fun hi w hw => ?_, hk⟩
  have := h w hw hi
  unfold UponW at this
  unfold moveUpon
  exact this
theorem effm_val {eo : EO} {args : List Value} {v : Value} {s : Sem Value} {K : Value → List Value → Prop} (he : eo.sem args = valS s) (hr : ∀ vs' w, era m vs' = era m vs → C vs' w → s.run P w = .ok v w) (hk : K v vs) (hm : mvF F eo = false := by rfl) : EffM F C q m eo args vs K := by
  refine .inl ⟨hm, v, fun _ vs' w hera hw => ?_, hk⟩
  rw [he]
  simp only [valS, Sem.run_bind, hr vs' w hera hw, Result.andThen_ok, Sem.run_pure]
  exact ⟨rfl, rfl⟩
theorem effm_ldc {a : Addr} {n : Nat} {v : Value} {K : Value → List Value → Prop} (hc : ∀ vs' w, era m vs' = era m vs → C vs' w → w.cell? a = some v) (hk : K v vs) : EffM F C q m (.ld false n) [.pointer (some a)] vs K :=
  effm_val (s := ldS false n (.pointer (some a))) rfl (fun vs' w he hw => by simp [ldS, Instr.sureAddr, hc vs' w he hw]) hk
theorem effm_ldcs {b off n : Nat} {us : List Value} {K : Value → List Value → Prop} (hc : ∀ vs' w, era m vs' = era m vs → C vs' w → ∀ j u, us[j]? = some u → w.cell? ⟨b, off + j, none⟩ = some u) (hl : us.length = n) (hk : K (.agg us.toArray) vs) :
    EffM F C q m (.ld true n) [.pointer (some ⟨b, off, none⟩)] vs K := by
  refine effm_val (s := ldS true n (.pointer (some ⟨b, off, none⟩))) rfl (fun vs' w he hw => ?_) hk
  have := run_loadCells_list (P := P) w ⟨b, off, none⟩ us (by
    intro j v hj
    rw [addr_add]; exact hc vs' w he hw j v hj)
  rw [hl] at this
  simp [ldS, Instr.sureAddr, this]
end
end Go.HL
