/-
  Maps with texts for keys and numbers by order for values: made, asked, gone on with. Conditions: new keys.
-/
import Derived.Test.YtngjaibngkhidaaEngF
import Derived.MapKept
namespace Go.HL
set_option maxRecDepth 4000
set_option linter.unusedSimpArgs false
set_option linter.unusedVariables false
section
variable {P : Program} {F0 : PF P} {F : Asn} {K : Value → World → Prop} {w w0 : World}
def entF : List (List UInt8) → Nat → List MapEntry
  | [], _ => []
  | x :: r, i => ⟨.string (mk x), .int .i64 (i : Int), i⟩ :: entF r (i + 1)
def mapE (ks : List (List UInt8)) : Array MapEntry := (entF ks 0).toArray
def lookK (k : List UInt8) : List (List UInt8) → Nat → Option Nat
  | [], _ => none
  | x :: r, i => if k = x then some i else lookK k r (i + 1)
theorem entF_snoc (k : List UInt8) : ∀ (ks : List (List UInt8)) (i : Nat), entF (ks ++ [k]) i = entF ks i ++ [⟨.string (mk k), .int .i64 ((i + ks.length : Nat) : Int), i + ks.length⟩]
  | [], i => by simp [entF]
  | x :: r, i => by
    simp only [List.cons_append, entF, entF_snoc k r (i + 1), List.length_cons]
    have : i + 1 + r.length = i + (r.length + 1) := by omega
    rw [this]
theorem mapE_snoc (k : List UInt8) (ks : List (List UInt8)) : (mapE ks).push ⟨.string (mk k), .int .i64 (ks.length : Int), ks.length⟩ = mapE (ks ++ [k]) := by
  apply Array.ext'
  simp [mapE, entF_snoc]
theorem mk_inj {a b : List UInt8} (h : mk a = mk b) : a = b := by
  have h2 : (mk a).data.toList = (mk b).data.toList := by rw [h]
  exact h2
theorem mk_eq_iff (a b : List UInt8) : (mk a == mk b) = decide (a = b) := by
  rw [Bool.eq_iff_iff, MapKept.bytes_beq]
  exact ⟨fun h => decide_eq_true (mk_inj h), fun h => by rw [of_decide_eq_true h]⟩
theorem find_keys (k : List UInt8) : ∀ (ks : List (List UInt8)) (i j : Nat), Instr.findNow .string (.string (mk k)) (entF ks j) i = some ((lookK k ks j).map fun n => (i + (n - j), .int .i64 (n : Int)))
  | [], _, _ => rfl
  | x :: r, i, j => by
    simp only [entF, Instr.findNow, Instr.sameNow, mk_eq_iff, lookK]
    by_cases h : k = x
    · simp [h]
    · simp only [h, decide_false, if_false]
      rw [find_keys k r (i + 1) (j + 1)]
      cases hl : lookK k r (j + 1) with
      | none => rfl
      | some n =>
        have : j + 1 ≤ n := by
          have key : ∀ (l : List (List UInt8)) (j n : Nat), lookK k l j = some n → j ≤ n := by
            intro l
            induction l with
            | nil => intro j n h; cases h
            | cons y t ih =>
              intro j n h
              simp only [lookK] at h
              split at h
              · cases h; exact Nat.le_refl _
              · have := ih _ _ h; omega
          exact key r _ _ hl
        simp only [Option.map_some, Option.some.injEq, Prod.mk.injEq, and_true]
        omega
/-- a new map -/
theorem eff_mkm {t : TypeId} (s : St w0 F w) (hk : ∀ b w', St w0 (F * pt b (.map (mapE []) 0)) w' → K (.map (some b)) w') : EffW P (.mkm t false) [] K w := by
  intro _
  refine upon_val (s := Instr.makeMap t none) (v := .map (some w.heap.size)) (w' := w.alloc (.map (mapE []) 0)) ?_ (hk _ _ (s.alloc trivial))
  simp [Instr.makeMap, newObj, Sem.run, mapE, entF, Sem.bind]
/-- what a map with texts for keys answers -/
def askN (k : List UInt8) (ks : List (List UInt8)) : Int := ((lookK k ks 0).getD 0 : Nat)
def askB (k : List UInt8) (ks : List (List UInt8)) : Bool := (lookK k ks 0).isSome
abbrev askK (k : List UInt8) (ks : List (List UInt8)) : Value := .tuple #[.int .i64 (askN k ks), .bool (askB k ks)]
structure MapT (P : Program) (t kt ke : TypeId) : Prop where
  ty : P.underlying t = some (.map kt ke)
  key : P.underlying kt = some .string
  zero : (P.info? ke).bind (·.zero) = some (.int .i64 0)
theorem look_run {t kt ke : TypeId} (T : MapT P t kt ke) {m : Nat} {ks : List (List UInt8)} {c : Nat} (hb : w.heap[m]? = some (.map (mapE ks) c)) (k : List UInt8) :
    (Instr.lookup t (.map (some m)) (.string (mk k)) true).run P w = .ok (askK k ks) w := by
  obtain ⟨i, hi, hz⟩ := Option.bind_eq_some_iff.1 T.zero
  have hf := find_keys k ks 0 0
  have he : (mapE ks).toList = entF ks 0 := by simp [mapE]
  have hck := fun e => MapKept.run_checkKey (P := P) (w := w) T.key (show MapKept.IsKey .string (.string (mk k)) from trivial) e 9999
  have hfk := MapKept.run_findKey (P := P) (w := w) T.key hf
  rw [← he] at hfk
  simp only [Instr.lookup, Sem.run_bind, run_underlying T.ty, MapKept.run_getObj_map hb, Result.andThen_ok, Sem.run_pure, hck, hfk]
  unfold askK askN askB
  cases hl : lookK k ks 0 with
  | none => simp [zeroValue, typeInfo, hi, hz]
  | some n => simp
theorem eff_look {t kt ke : TypeId} (T : MapT P t kt ke) {m : Nat} {ks : List (List UInt8)} {c : Nat} (hb : w.heap[m]? = some (.map (mapE ks) c)) {k : List UInt8} (hk : K (askK k ks) w) : EffW P (.look t true) [.map (some m), .string (mk k)] K w := by
  intro _
  exact upon_val (look_run T hb k) hk
theorem effm_look {C : List Value → World → Prop} {n : Nat} {vs : List Value} {t kt ke : TypeId} (T : MapT P t kt ke) {m : Nat} {ks : List (List UInt8)} {c : Nat} {k : List UInt8} {K : Value → List Value → Prop}
    (hb : ∀ vs' w, era n vs' = era n vs → C vs' w → w.heap[m]? = some (.map (mapE ks) c)) (hk : K (askK k ks) vs) : EffM F0 C n (.look t true) [.map (some m), .string (mk k)] vs K :=
  effm_val (s := Instr.lookup t (.map (some m)) (.string (mk k)) true) rfl (fun vs' w he hw => look_run T (hb vs' w he hw) k) hk
/-- a new key is entered -/
theorem eff_upd {t kt ke : TypeId} (T : MapT P t kt ke) {m : Nat} {ks : List (List UInt8)} {k : List UInt8} (s : St w0 (F * pt m (.map (mapE ks) ks.length)) w) (hn : lookK k ks 0 = none)
    (hk : ∀ w', St w0 (F * pt m (.map (mapE (ks ++ [k])) (ks ++ [k]).length)) w' → K undef w') : EffW P (.upd t) [.map (some m), .string (mk k), .int .i64 (ks.length : Int)] K w := by
  have hb := s.look
  have hf := find_keys k ks 0 0
  rw [hn] at hf
  have he : (mapE ks).toList = entF ks 0 := by simp [mapE]
  have hck := fun e => MapKept.run_checkKey (P := P) (w := w) T.key (show MapKept.IsKey .string (.string (mk k)) from trivial) e 9999
  have hfk := MapKept.run_findKey (P := P) (w := w) T.key hf
  rw [← he] at hfk
  have hs := MapKept.heap_set (o' := .map (mapE (ks ++ [k])) (ks ++ [k]).length) hb
  intro _
  refine upon_unit (s := Instr.mapUpdate t (.map (some m)) (.string (mk k)) (.int .i64 (ks.length : Int))) (w' := { w with heap := w.heap.setIfInBounds m (.map (mapE (ks ++ [k])) (ks ++ [k]).length) }) ?_ (hk _ (s.turn (o' := .map (mapE (ks ++ [k])) (ks ++ [k]).length) hs.1 hs.2 (by simp) rfl rfl (fun _ _ _ h => by cases h)))
  simp only [Instr.mapUpdate, Sem.run_bind, run_underlying T.ty, MapKept.run_getObj_map hb, Result.andThen_ok, hck, hfk, Option.map_none, mapE_snoc]
  rw [MapKept.run_setObj_map _ hb]
  simp
/-- out of an interface -/
theorem eff_tas {xt t : TypeId} {v : Value} {d : TypeDesc} (hu : P.underlying t = some d) (hd : ∀ ms, d ≠ .interface ms) (hk : K v w) : EffW P (.tas xt t false) [.iface t v] K w := by
  intro _
  refine upon_val (s := Instr.typeAssert (.iface t v) xt t false) (v := v) (w' := w) ?_ hk
  simp only [Instr.typeAssert, Sem.run_bind, run_underlying hu, Result.andThen_ok]
  cases d <;> simp_all
end
end Go.HL
