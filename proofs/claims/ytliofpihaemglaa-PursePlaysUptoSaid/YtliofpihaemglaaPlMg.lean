/-
  What the claim leans on, part 7 of 12. Conditions: as each theorem says.
-/
import Derived.Test.YtliofpihaemglaaPlMf
import Derived.MapKept
namespace Go.HL
set_option maxRecDepth 4000
set_option linter.unusedSimpArgs false
set_option linter.unusedVariables false
section
variable {P : Program} {F0 : PF P} {F : Asn} {K : Value → World → Prop} {w w0 : World}
def entF : List (List UInt8) → Nat → List MapEntry
  | [], _ => []
  | x :: r, i => ⟨.string (mk x), .int .i64 (i : Int), i⟩ :: entF r (i + 1)
def mapE (ks : List (List UInt8)) : Array MapEntry := (entF ks 0).toArray
def lookK (k : List UInt8) : List (List UInt8) → Nat → Option Nat
  | [], _ => none
  | x :: r, i => if k = x then some i else lookK k r (i + 1)
theorem entF_snoc (k : List UInt8) : ∀ (ks : List (List UInt8)) (i : Nat), entF (ks ++ [k]) i = entF ks i ++ [⟨.string (mk k), .int .i64 ((i + ks.length : Nat) : Int), i + ks.length⟩]
  | [], i => by simp [entF]
  | x :: r, i => by
    simp only [List.cons_append, entF, entF_snoc k r (i + 1), List.length_cons]
    have : i + 1 + r.length = i + (r.length + 1) := by omega
    rw [this]
theorem mapE_snoc (k : List UInt8) (ks : List (List UInt8)) : (mapE ks).push ⟨.string (mk k), .int .i64 (ks.length : Int), ks.length⟩ = mapE (ks ++ [k]) := by
  apply Array.ext'
  simp [mapE, entF_snoc]
theorem mk_inj {a b : List UInt8} (h : mk a = mk b) : a = b := by
  have h2 : (mk a).data.toList = (mk b).data.toList := by rw [h]
  exact h2
theorem mk_eq_iff (a b : List UInt8) : (mk a == mk b) = decide (a = b) := by
  rw [Bool.eq_iff_iff, MapKept.bytes_beq]
  exact ⟨fun h => decide_eq_true (mk_inj h), fun h => by rw [of_decide_eq_true h]⟩
theorem find_keys (k : List UInt8) : ∀ (ks : List (List UInt8)) (i j : Nat), Instr.findNow .string (.string (mk k)) (entF ks j) i = some ((lookK k ks j).map fun n => (i + (n - j), .int .i64 (n : Int)))
  | [], _, _ => rfl
  | x :: r, i, j => by
    simp only [entF, Instr.findNow, Instr.sameNow, mk_eq_iff, lookK]
    by_cases h : k = x
    · simp [h]
    · simp only [h, decide_false, if_false]
      rw [find_keys k r (i + 1) (j + 1)]
      cases hl : lookK k r (j + 1) with
      | none => rfl
      | some n =>
        have : j + 1 ≤ n := by
          have key : ∀ (l : List (List UInt8)) (j n : Nat), lookK k l j = some n → j ≤ n := by
            intro l
            induction l with
            | nil => intro j n h; cases h
            | cons y t ih =>
              intro j n h
              simp only [lookK] at h
              split at h
              · cases h; exact Nat.le_refl _
              · have := ih _ _ h; omega
          exact key r _ _ hl
        simp only [Option.map_some, Option.some.injEq, Prod.mk.injEq, and_true]
        omega
/-- a new map -/
theorem eff_mkm {t : TypeId} (s : St w0 F w) (hk : ∀ b w', St w0 (F * pt b (.map (mapE []) 0)) w' → K (.map (some b)) w') : EffW P (.mkm t false) [] K w := by
  intro _
  refine upon_val (s := Instr.makeMap t none) (v := .map (some w.heap.size)) (w' := w.alloc (.map (mapE []) 0)) ?_ (hk _ _ (s.alloc trivial))
  simp [Instr.makeMap, newObj, Sem.run, mapE, entF, Sem.bind]
/-- what a map with texts for keys answers -/
def askN (k : List UInt8) (ks : List (List UInt8)) : Int := ((lookK k ks 0).getD 0 : Nat)
def askB (k : List UInt8) (ks : List (List UInt8)) : Bool := (lookK k ks 0).isSome
abbrev askK (k : List UInt8) (ks : List (List UInt8)) : Value := .tuple #[.int .i64 (askN k ks), .bool (askB k ks)]
structure MapT (P : Program) (t kt ke : TypeId) : Prop where
  ty : P.underlying t = some (.map kt ke)
  key : P.underlying kt = some .string
  zero : (P.info? ke).bind (·.zero) = some (.int .i64 0)
theorem look_run {t kt ke : TypeId} (T : MapT P t kt ke) {m : Nat} {ks : List (List UInt8)} {c : Nat} (hb : w.heap[m]? = some (.map (mapE ks) c)) (k : List UInt8) :
    (Instr.lookup t (.map (some m)) (.string (mk k)) true).run P w = .ok (askK k ks) w := by
  obtain ⟨i, hi, hz⟩ := Option.bind_eq_some_iff.1 T.zero
  have hf := find_keys k ks 0 0
  have he : (mapE ks).toList = entF ks 0 := by simp [mapE]
  have hck := fun e => MapKept.run_checkKey (P := P) (w := w) T.key (show MapKept.IsKey .string (.string (mk k)) from trivial) e 9999
  have hfk := MapKept.run_findKey (P := P) (w := w) T.key hf
  rw [← he] at hfk
  simp only [Instr.lookup, Sem.run_bind, run_underlying T.ty, MapKept.run_getObj_map hb, Result.andThen_ok, Sem.run_pure, hck, hfk]
  unfold askK askN askB
  cases hl : lookK k ks 0 with
  | none => simp [zeroValue, typeInfo, hi, hz]
  | some n => simp
theorem effm_look {C : List Value → World → Prop} {n : Nat} {vs : List Value} {t kt ke : TypeId} (T : MapT P t kt ke) {m : Nat} {ks : List (List UInt8)} {c : Nat} {k : List UInt8} {K : Value → List Value → Prop}
    (hb : ∀ vs' w, era n vs' = era n vs → C vs' w → w.heap[m]? = some (.map (mapE ks) c)) (hk : K (askK k ks) vs) : EffM F0 C n (.look t true) [.map (some m), .string (mk k)] vs K :=
  effm_val (s := Instr.lookup t (.map (some m)) (.string (mk k)) true) rfl (fun vs' w he hw => look_run T (hb vs' w he hw) k) hk
/-- a new key is entered -/
theorem eff_upd {t kt ke : TypeId} (T : MapT P t kt ke) {m : Nat} {ks : List (List UInt8)} {k : List UInt8} (s : St w0 (F * pt m (.map (mapE ks) ks.length)) w) (hn : lookK k ks 0 = none)
    (hk : ∀ w', St w0 (F * pt m (.map (mapE (ks ++ [k])) (ks ++ [k]).length)) w' → K undef w') : EffW P (.upd t) [.map (some m), .string (mk k), .int .i64 (ks.length : Int)] K w := by
  have hb := s.look
  have hf := find_keys k ks 0 0
  rw [hn] at hf
  have he : (mapE ks).toList = entF ks 0 := by simp [mapE]
  have hck := fun e => MapKept.run_checkKey (P := P) (w := w) T.key (show MapKept.IsKey .string (.string (mk k)) from trivial) e 9999
  have hfk := MapKept.run_findKey (P := P) (w := w) T.key hf
  rw [← he] at hfk
  have hs := MapKept.heap_set (o' := .map (mapE (ks ++ [k])) (ks ++ [k]).length) hb
  intro _
  refine upon_unit (s := Instr.mapUpdate t (.map (some m)) (.string (mk k)) (.int .i64 (ks.length : Int))) (w' := { w with heap := w.heap.setIfInBounds m (.map (mapE (ks ++ [k])) (ks ++ [k]).length) }) ?_ (hk _ (s.turn (o' := .map (mapE (ks ++ [k])) (ks ++ [k]).length) hs.1 hs.2 (by simp) rfl rfl (fun _ _ _ h => by cases h)))
  simp only [Instr.mapUpdate, Sem.run_bind, run_underlying T.ty, MapKept.run_getObj_map hb, Result.andThen_ok, hck, hfk, Option.map_none, mapE_snoc]
  rw [MapKept.run_setObj_map _ hb]
  simp
/-- out of an interface -/
theorem eff_tas {xt t : TypeId} {v : Value} {d : TypeDesc} (hu : P.underlying t = some d) (hd : ∀ ms, d ≠ .interface ms) (hk : K v w) : EffW P (.tas xt t false) [.iface t v] K w := by
  intro _
  refine upon_val (s := Instr.typeAssert (.iface t v) xt t false) (v := v) (w' := w) ?_ hk
  simp only [Instr.typeAssert, Sem.run_bind, run_underlying hu, Result.andThen_ok]
  cases d <;> simp_all
end
end Go.HL

namespace Go.HL
set_option maxRecDepth 4000
set_option linter.unusedSimpArgs false
set_option linter.unusedVariables false
section
variable {P : Program}
inductive PV where
  | int (k : IntKind) (a : Int)
  | str (b : List UInt8)
  | bool (b : Bool)
deriving DecidableEq
inductive PK where
  | int (k : IntKind)
  | str
  | bool
deriving DecidableEq
def PV.val : PV → Value
  | .int k a => .int k a
  | .str b => .string (mk b)
  | .bool b => .bool b
def PV.kind : PV → PK
  | .int k _ => .int k
  | .str _ => .str
  | .bool _ => .bool
def PK.of : PK → TypeDesc → Bool
  | .int _, .int _ => true
  | .str, .string => true
  | .bool, .bool => true
  | _, _ => false
def primFields (P : Program) : List Field → List PK → Nat → Bool
  | [], [], _ => true
  | f :: fs, k :: ks, o => (f.name != "_") && (f.offset == o) && (match P.underlying f.type with | some d => k.of d | none => false) && primFields P fs ks (o + 1)
  | _, _, _ => false
def holdsP (xs : Array Value) (o : Nat) (as_ : List PV) : Prop := ∀ j u, as_[j]? = some u → xs[o + j]? = some u.val
theorem holdsP_tail {xs : Array Value} {o : Nat} {a : PV} {as_ : List PV} (h : holdsP xs o (a :: as_)) : holdsP xs (o + 1) as_ := by
  intro j u hu
  have := h (j + 1) u (by simpa using hu)
  rw [Nat.add_assoc, Nat.add_comm 1]
  exact this
theorem holdsP_list (as_ : List PV) : holdsP (as_.map PV.val).toArray 0 as_ := by
  intro j u hu
  simp [hu]
theorem part_prim {t : TypeId} {d : TypeDesc} {a : PV} {xs : Array Value} {o : Nat} (ht : P.underlying t = some d) (hk : a.kind.of d = true) (h : xs[o]? = some a.val) (w : World) : (part t xs o).run P w = .ok a.val w := by
  simp only [part, Sem.run_bind, isAgg_run ht, Result.andThen_ok]
  have : isAggD d = false := by
    cases a <;> cases d <;> first | rfl | (simp [PV.kind, PK.of] at hk)
  rw [this]
  simp [h]
theorem equal_prim {t : TypeId} {d : TypeDesc} {a b : PV} (ht : P.underlying t = some d) (hk : a.kind.of d = true) (hab : a.kind = b.kind) (n : Nat) (w : World) : (Op.equalIn (n + 1) t a.val b.val).run P w = .ok (decide (a = b)) w := by
  simp only [Op.equalIn, Sem.run_bind, und_run ht, Result.andThen_ok]
  cases a <;> cases b <;> simp only [PV.kind, PK.int.injEq, reduceCtorEq] at hab
  · subst hab
    cases d <;> simp [PV.kind, PK.of] at hk
    simp [PV.val]
    rw [Bool.eq_iff_iff]; simp
  · cases d <;> simp [PV.kind, PK.of] at hk
    simp only [PV.val, Sem.run_pure, mk_eq_iff, PV.str.injEq]
  · cases d <;> simp [PV.kind, PK.of] at hk
    simp [PV.val]
    rw [Bool.eq_iff_iff]; simp
theorem eqFields_prims (d : Nat) (w : World) (xs ys : Array Value) : ∀ (as_ bs : List PV) (fs : List Field) (o : Nat), primFields P fs (as_.map PV.kind) o = true → as_.map PV.kind = bs.map PV.kind → holdsP xs o as_ → holdsP ys o bs →
    (Op.eqFields (d + 1) xs ys fs).run P w = .ok (decide (as_ = bs)) w
  | [], [], [], o, _, _, _, _ => by simp [Op.eqFields]
  | a :: as_, b :: bs, f :: fs, o, h, hk, h1, h2 => by
    simp only [List.map_cons, primFields, Bool.and_eq_true, bne_iff_ne, beq_iff_eq] at h
    obtain ⟨⟨⟨hn, ho⟩, ht⟩, hr⟩ := h
    simp only [List.map_cons, List.cons.injEq] at hk
    have ih := eqFields_prims d w xs ys as_ bs fs (o + 1) hr hk.2 (holdsP_tail h1) (holdsP_tail h2)
    split at ht
    · rename_i k hku
      have p1 := part_prim (P := P) hku ht (h1 0 a rfl) w
      have p2 := part_prim (P := P) hku (hk.1 ▸ ht) (h2 0 b rfl) w
      rw [Nat.add_zero] at p1 p2
      simp only [Op.eqFields, ne_eq, hn, not_false_eq_true, if_true, ho, Sem.run_bind, p1, p2, Result.andThen_ok, equal_prim hku ht hk.1]
      by_cases e : a = b
      · simp [e, ih]
      · simp [e]
    · cases ht
  | [], _ :: _, _, _, _, hk, _, _ => by simp at hk
  | _ :: _, [], _, _, _, hk, _, _ => by simp at hk
  | [], [], _ :: _, _, h, _, _, _ => by simp [primFields] at h
  | _ :: _, _ :: _, [], _, h, _, _, _ => by simp [primFields] at h
/-- what is known of a struct of such -/
structure PrimStruct (P : Program) (t : TypeId) (ks : List PK) : Prop where
  und : P.underlying t = some (.struct (P.fieldsOf t))
  stood : P.stoodInHeld t = false
  guard : P.eqGuardType P.depth t = false
  prims : primFields P (P.fieldsOf t).toList ks 0 = true
theorem primEq_run {t : TypeId} {ks : List PK} (T : PrimStruct P t ks) (neg : Bool) (x y : Operand) (xs ys : Array Value) (as_ bs : List PV) (l1 : as_.map PV.kind = ks) (l2 : bs.map PV.kind = ks) (h1 : holdsP xs 0 as_) (h2 : holdsP ys 0 bs) (w : World) :
    (do eqGuard (if neg then .neq else .eql) t x y (.agg xs) (.agg ys); binOp (if neg then .neq else .eql) t (.agg xs) (.agg ys) : Sem Value).run P w = .ok (.bool (if neg then !(decide (as_ = bs)) else decide (as_ = bs))) w := by
  have hg : ∀ op, (eqGuard op t x y (.agg xs) (.agg ys)).run P w = .ok () w := by
    intro op
    unfold eqGuard
    cases op <;> simp [T.guard]
  have he : (Op.equal t (.agg xs) (.agg ys)).run P w = .ok (decide (as_ = bs)) w := by
    rw [equal_succ, run_equalIn_struct w 9999 t xs ys T.und T.stood]
    exact eqFields_prims 9998 w xs ys as_ bs _ 0 (by rw [l1]; exact T.prims) (by rw [l1, l2]) h1 h2
  cases neg
  · show (do eqGuard .eql t x y (.agg xs) (.agg ys); (do pure (.bool (← Op.equal t (.agg xs) (.agg ys)))) : Sem Value).run P w = _
    simp only [Sem.run_bind, hg, Result.andThen_ok, he, Sem.run_pure]; rfl
  · show (do eqGuard .neq t x y (.agg xs) (.agg ys); (do pure (.bool (!(← Op.equal t (.agg xs) (.agg ys))))) : Sem Value).run P w = _
    simp only [Sem.run_bind, hg, Result.andThen_ok, he, Sem.run_pure]; rfl
variable {K : Value → World → Prop} {w w0 : World} {A : Asn} {C : World → Prop}
theorem eff_eqP {t : TypeId} {ks : List PK} (T : PrimStruct P t ks) {neg : Bool} {x y : Operand} (as_ bs : List PV) (l1 : as_.map PV.kind = ks) (l2 : bs.map PV.kind = ks) (hk : K (.bool (if neg then !(decide (as_ = bs)) else decide (as_ = bs))) w) :
    EffW P (.bin (if neg then .neq else .eql) t x y) [.agg (as_.map PV.val).toArray, .agg (bs.map PV.val).toArray] K w := by
  intro _
  exact upon_val (primEq_run T neg x y _ _ as_ bs l1 l2 (holdsP_list as_) (holdsP_list bs) w) hk
theorem eff_eqlP {t : TypeId} {ks : List PK} (T : PrimStruct P t ks) {x y : Operand} (as_ bs : List PV) (l1 : as_.map PV.kind = ks) (l2 : bs.map PV.kind = ks) (hk : K (.bool (decide (as_ = bs))) w) :
    EffW P (.bin .eql t x y) [.agg (as_.map PV.val).toArray, .agg (bs.map PV.val).toArray] K w := eff_eqP (neg := false) T as_ bs l1 l2 hk
theorem effq_neqP {t : TypeId} {ks : List PK} (T : PrimStruct P t ks) {x y : Operand} (as_ bs : List PV) (l1 : as_.map PV.kind = ks) (l2 : bs.map PV.kind = ks) {K : Value → Prop} (hk : K (.bool (!decide (as_ = bs)))) :
    EffQ P C (.bin .neq t x y) [.agg (as_.map PV.val).toArray, .agg (bs.map PV.val).toArray] K :=
  ⟨_, fun w _ => quiet_val rfl (primEq_run T true x y _ _ as_ bs l1 l2 (holdsP_list as_) (holdsP_list bs) w), hk⟩
end
end Go.HL

namespace Go.HL.Pu
open Go.HL Go.HL.Nm Go.Proofs
set_option maxRecDepth 4000
set_option linter.unusedSimpArgs false
set_option linter.unusedVariables false
/-- an account -/
structure Ac where
  name : List UInt8
  coins : Int
deriving DecidableEq
def Ac.cs (x : Ac) : List Value := [.string (HL.mk x.name), .int .u64 x.coins]
def flat (l : List Ac) : List Value := l.flatMap Ac.cs
theorem cs_len (x : Ac) : x.cs.length = 2 := rfl
theorem flat_len (l : List Ac) : (flat l).length = l.length * 2 := flat_length Ac.cs 2 cs_len l
theorem cs_one (x : Ac) : ∀ u ∈ x.cs, u.oneCell' = true := by
  intro u hu
  simp only [Ac.cs, List.mem_cons, List.not_mem_nil, or_false] at hu
  rcases hu with rfl | rfl <;> rfl
theorem flat_one (l : List Ac) : ∀ u ∈ flat l, u.oneCell' = true := by
  intro u hu
  obtain ⟨x, _, hx⟩ := List.mem_flatMap.1 hu
  exact cs_one x u hx
theorem flat_at {its : List Ac} {i : Nat} (h : i < its.length) : ∀ j u, (its[i].cs)[j]? = some u → (flat its)[i * 2 + j]? = some u := by
  intro j u hu
  have hj : j < 2 := (List.getElem?_eq_some_iff.1 hu).1
  rw [← hu]
  exact flat_get Ac.cs 2 cs_len its i j h hj
theorem flat_name {its : List Ac} {i : Nat} (h : i < its.length) : (flat its)[i * 2]? = some (.string (mk its[i].name)) := flat_at h 0 _ rfl
theorem flat_coins {its : List Ac} {i : Nat} (h : i < its.length) : (flat its)[i * 2 + 1]? = some (.int .u64 its[i].coins) := flat_at h 1 _ rfl
theorem flat_set1 {its : List Ac} {i : Nat} (h : i < its.length) (c : Int) : (flat its).set (i * 2 + 1) (.int .u64 c) = flat (its.set i ⟨its[i].name, c⟩) := by
  have e := flat_set Ac.cs 2 cs_len (⟨its[i].name, c⟩ : Ac) its i h
  show _ = List.flatMap Ac.cs _
  rw [← e]
  have hl := flat_len its
  have hf : flat its = its.flatMap Ac.cs := rfl
  apply List.ext_getElem?
  intro k
  have hlen : i * 2 + 2 ≤ (its.flatMap Ac.cs).length := by rw [← hf]; omega
  have tl : ((its.flatMap Ac.cs).take (i * 2)).length = i * 2 := by rw [List.length_take]; omega
  rw [hf]
  have c4 : (⟨its[i].name, c⟩ : Ac).cs.length = 2 := rfl
  by_cases k1 : k < i * 2
  · rw [List.getElem?_set_ne (by omega), List.append_assoc, List.getElem?_append_left (by omega), List.getElem?_take, if_pos k1]
  by_cases k2 : k < i * 2 + 2
  · rw [List.append_assoc, List.getElem?_append_right (by omega), tl, List.getElem?_append_left (by rw [c4]; omega)]
    obtain ⟨j, rfl⟩ : ∃ j, k = i * 2 + j := ⟨k - i * 2, by omega⟩
    have hj : j < 2 := by omega
    rw [Nat.add_sub_cancel_left]
    have : j = 0 ∨ j = 1 := by omega
    rcases this with rfl | rfl
    · rw [List.getElem?_set_ne (by omega), flat_get Ac.cs 2 cs_len its i 0 h (by omega)]; rfl
    · rw [List.getElem?_set_self (by omega)]; rfl
  · rw [List.getElem?_set_ne (by omega), List.append_assoc, List.getElem?_append_right (by omega), tl, List.getElem?_append_right (by rw [c4]; omega), List.getElem?_drop, c4]
    congr 1
    omega
def keyF (l : List UInt8) : List UInt8 := encAll (foldedF l)
def seemF (l : List UInt8) : List UInt8 := encAll (lookF l)
def keys (l : List Ac) : List (List UInt8) := l.map fun x => keyF x.name
/-- a purse's numbers -/
structure Ps where
  lim : Int
  rows : List Ac
  sup : Int
  held : Int
deriving DecidableEq
/-- a purse at p -/
abbrev pt4 (p : Nat) (P : Ps) (m : Nat) (v : Value) : Asn := pt p (.cells #[.map (some m), .int .i64 P.lim, v, .int .u64 P.sup, .int .u64 P.held] 81 (0, 0))
abbrev mpt (m : Nat) (l : List Ac) : Asn := pt m (.map (mapE (keys l)) (keys l).length)
def pur (p : Nat) (P : Ps) : Asn := fun h => ∃ m v, (pt4 p P m v * mpt m P.rows * own 66 2 v P.rows.length (flat P.rows)) h
theorem popen {w0 w : World} {A : Asn} {p : Nat} {P : Ps} (s : St w0 (A * pur p P) w) :
    ∃ m v, St w0 (A * pt4 p P m v * mpt m P.rows * own 66 2 v P.rows.length (flat P.rows)) w := by
  obtain ⟨g, h1, h2, h3, d, e, a, m, v, b⟩ := s.holds
  refine ⟨m, v, ?_⟩
  rw [sep_assoc, sep_assoc, ← sep_assoc (pt4 p P m v)]
  exact s.of ⟨g, h1, h2, h3, d, e, a, b⟩
theorem pclose {w0 w : World} {A : Asn} {p : Nat} {P : Ps} {m : Nat} {v : Value}
    (s : St w0 (A * pt4 p P m v * mpt m P.rows * own 66 2 v P.rows.length (flat P.rows)) w) : St w0 (A * pur p P) w := by
  rw [sep_assoc, sep_assoc, ← sep_assoc (pt4 p P m v)] at s
  obtain ⟨g, h1, h2, h3, d, e, a, b⟩ := s.holds
  exact s.of ⟨g, h1, h2, h3, d, e, a, m, v, b⟩
theorem accT : PrimStruct Try.prog 66 [.str, .int .u64] := ⟨by kernel_rfl, by kernel_rfl, by kernel_rfl, by kernel_rfl⟩
theorem regT : MapT Try.prog 77 9 3 := ⟨by kernel_rfl, by kernel_rfl, by kernel_rfl⟩
noncomputable abbrev U0 : PF Try.prog := PF.none _
-- (*bazaar/purse.register).known
def h47_0 : HC := (.seq (.reg (.done [(2, (.inp 4)), (3, (.inp 5))] none)) .ret)
@[simp] theorem h47_0_wp {P : Program} {F : PF P} {Q : EX → List Value → World → Prop} {env : List Value} {w : World} : h47_0.wp F Q env w = HC.wp F (.seq (.reg (.done [(2, (.inp 4)), (3, (.inp 5))] none)) .ret) Q env w := rfl
def h47_1 : HC := (.seq (.regq (some 2) (.chk none .chkp (.cons (.inp 0) .nil) (.chk none (.fld 0) (.cons (.op .chkp (.cons (.inp 0) .nil)) .nil) (.eff (.ld false 1) (.cons (.op (.fld 0) (.cons (.op .chkp (.cons (.inp 0) .nil)) .nil)) .nil) (.eff (.call 15) (.cons (.inp 1) .nil) (.eff (.look 77 true) (.cons (.bv 0) (.cons (.bv 1) .nil)) (.chk none (.ext 0) (.cons (.bv 2) .nil) (.chk none (.ext 1) (.cons (.bv 2) .nil) (.done [(4, (.op (.ext 0) (.cons (.bv 2) .nil))), (5, (.op (.ext 1) (.cons (.bv 2) .nil)))] none))))))))) h47_0)
@[simp] theorem h47_1_wp {P : Program} {F : PF P} {Q : EX → List Value → World → Prop} {env : List Value} {w : World} : h47_1.wp F Q env w = HC.wp F (.seq (.regq (some 2) (.chk none .chkp (.cons (.inp 0) .nil) (.chk none (.fld 0) (.cons (.op .chkp (.cons (.inp 0) .nil)) .nil) (.eff (.ld false 1) (.cons (.op (.fld 0) (.cons (.op .chkp (.cons (.inp 0) .nil)) .nil)) .nil) (.eff (.call 15) (.cons (.inp 1) .nil) (.eff (.look 77 true) (.cons (.bv 0) (.cons (.bv 1) .nil)) (.chk none (.ext 0) (.cons (.bv 2) .nil) (.chk none (.ext 1) (.cons (.bv 2) .nil) (.done [(4, (.op (.ext 0) (.cons (.bv 2) .nil))), (5, (.op (.ext 1) (.cons (.bv 2) .nil)))] none))))))))) h47_0) Q env w := rfl
def l47 : Lifted := ⟨[0, 1, 4, 5, 6, 7], 20, [.slot 2, .slot 3], (.seq (.reg (.done [(2, (.cst (.int .i64 0))), (3, (.cst (.bool false)))] none)) h47_1)⟩
theorem l47_ok : liftFn U0 47 400 = some l47 := by kernel_rfl

-- (*bazaar/purse.register).enter

def l48 : Lifted := ⟨[0, 1, 2], 13, [], (.regq (some 2) (.chk none .chkp (.cons (.inp 0) .nil) (.chk none (.fld 0) (.cons (.op .chkp (.cons (.inp 0) .nil)) .nil) (.eff (.ld false 1) (.cons (.op (.fld 0) (.cons (.op .chkp (.cons (.inp 0) .nil)) .nil)) .nil) (.eff (.call 15) (.cons (.inp 1) .nil) (.eff (.upd 77) (.cons (.bv 0) (.cons (.bv 1) (.cons (.inp 2) .nil))) (.done [] none)))))))⟩
theorem l48_ok : liftFn U0 48 400 = some l48 := by kernel_rfl

-- maps.Clone[map[string]int,string,int]
def h57_0 : HC := (.seq (.reg (.chk none (.ifc 77) (.cons (.inp 0) .nil) (.eff (.cext 84) (.cons (.op (.ifc 77) (.cons (.inp 0) .nil)) .nil) (.eff (.tas 20 77 false) (.cons (.bv 0) .nil) (.done [(1, (.bv 1))] none))))) .ret)
@[simp] theorem h57_0_wp {P : Program} {F : PF P} {Q : EX → List Value → World → Prop} {env : List Value} {w : World} : h57_0.wp F Q env w = HC.wp F (.seq (.reg (.chk none (.ifc 77) (.cons (.inp 0) .nil) (.eff (.cext 84) (.cons (.op (.ifc 77) (.cons (.inp 0) .nil)) .nil) (.eff (.tas 20 77 false) (.cons (.bv 0) .nil) (.done [(1, (.bv 1))] none))))) .ret) Q env w := rfl
def h57_1 : HC := (.seq (.reg (.done [(1, (.cst (.map none)))] none)) .ret)
@[simp] theorem h57_1_wp {P : Program} {F : PF P} {Q : EX → List Value → World → Prop} {env : List Value} {w : World} : h57_1.wp F Q env w = HC.wp F (.seq (.reg (.done [(1, (.cst (.map none)))] none)) .ret) Q env w := rfl
def h57_2 : HC := (.seq (.br (.chk none (.eqNil false (.map 9 3) (.map none)) (.cons (.inp 0) .nil) (.done [] (some (.op (.eqNil false (.map 9 3) (.map none)) (.cons (.inp 0) .nil))))) h57_1 .skip) h57_0)
@[simp] theorem h57_2_wp {P : Program} {F : PF P} {Q : EX → List Value → World → Prop} {env : List Value} {w : World} : h57_2.wp F Q env w = HC.wp F (.seq (.br (.chk none (.eqNil false (.map 9 3) (.map none)) (.cons (.inp 0) .nil) (.done [] (some (.op (.eqNil false (.map 9 3) (.map none)) (.cons (.inp 0) .nil))))) h57_1 .skip) h57_0) Q env w := rfl
def l57 : Lifted := ⟨[0, 2], 9, [.slot 1], (.seq (.reg (.done [(1, (.cst (.map none)))] none)) h57_2)⟩
theorem l57_ok : liftFn U0 57 400 = some l57 := by kernel_rfl

-- slices.Clip[[]int,int]
def h52_0 : HC := (.seq (.reg (.chk none .lenL (.cons (.inp 0) .nil) (.chk none .lenL (.cons (.inp 0) .nil) (.chk none (.slL 1 false true true) (.cons (.inp 0) (.cons (.op .lenL (.cons (.inp 0) .nil)) (.cons (.op .lenL (.cons (.inp 0) .nil)) .nil))) (.done [(1, (.op (.slL 1 false true true) (.cons (.inp 0) (.cons (.op .lenL (.cons (.inp 0) .nil)) (.cons (.op .lenL (.cons (.inp 0) .nil)) .nil)))))] none))))) .ret)
@[simp] theorem h52_0_wp {P : Program} {F : PF P} {Q : EX → List Value → World → Prop} {env : List Value} {w : World} : h52_0.wp F Q env w = HC.wp F (.seq (.reg (.chk none .lenL (.cons (.inp 0) .nil) (.chk none .lenL (.cons (.inp 0) .nil) (.chk none (.slL 1 false true true) (.cons (.inp 0) (.cons (.op .lenL (.cons (.inp 0) .nil)) (.cons (.op .lenL (.cons (.inp 0) .nil)) .nil))) (.done [(1, (.op (.slL 1 false true true) (.cons (.inp 0) (.cons (.op .lenL (.cons (.inp 0) .nil)) (.cons (.op .lenL (.cons (.inp 0) .nil)) .nil)))))] none))))) .ret) Q env w := rfl
def l52 : Lifted := ⟨[0, 2], 9, [.slot 1], (.seq (.reg (.done [(1, (.cst (.slice none 0 0)))] none)) h52_0)⟩
theorem l52_ok : liftFn U0 52 400 = some l52 := by kernel_rfl

-- slices.Clip[[]bazaar/api.Account,bazaar/api.Account]
def h59_0 : HC := (.seq (.reg (.chk none .lenL (.cons (.inp 0) .nil) (.chk none .lenL (.cons (.inp 0) .nil) (.chk none (.slL 2 false true true) (.cons (.inp 0) (.cons (.op .lenL (.cons (.inp 0) .nil)) (.cons (.op .lenL (.cons (.inp 0) .nil)) .nil))) (.done [(1, (.op (.slL 2 false true true) (.cons (.inp 0) (.cons (.op .lenL (.cons (.inp 0) .nil)) (.cons (.op .lenL (.cons (.inp 0) .nil)) .nil)))))] none))))) .ret)
@[simp] theorem h59_0_wp {P : Program} {F : PF P} {Q : EX → List Value → World → Prop} {env : List Value} {w : World} : h59_0.wp F Q env w = HC.wp F (.seq (.reg (.chk none .lenL (.cons (.inp 0) .nil) (.chk none .lenL (.cons (.inp 0) .nil) (.chk none (.slL 2 false true true) (.cons (.inp 0) (.cons (.op .lenL (.cons (.inp 0) .nil)) (.cons (.op .lenL (.cons (.inp 0) .nil)) .nil))) (.done [(1, (.op (.slL 2 false true true) (.cons (.inp 0) (.cons (.op .lenL (.cons (.inp 0) .nil)) (.cons (.op .lenL (.cons (.inp 0) .nil)) .nil)))))] none))))) .ret) Q env w := rfl
def l59 : Lifted := ⟨[0, 2], 9, [.slot 1], (.seq (.reg (.done [(1, (.cst (.slice none 0 0)))] none)) h59_0)⟩
theorem l59_ok : liftFn U0 59 400 = some l59 := by kernel_rfl

-- slices.Clone[[]bazaar/api.Account,bazaar/api.Account]
def h56_0 : HC := (.seq (.reg (.eff (.bsl 66 0 2 #[] []) .nil (.eff (.app 39 39 66 2 24 (.agg #[(.string ⟨#[]⟩), (.int .u64 0)])) (.cons (.bv 0) (.cons (.inp 0) .nil)) (.done [(1, (.bv 1))] none)))) .ret)
@[simp] theorem h56_0_wp {P : Program} {F : PF P} {Q : EX → List Value → World → Prop} {env : List Value} {w : World} : h56_0.wp F Q env w = HC.wp F (.seq (.reg (.eff (.bsl 66 0 2 #[] []) .nil (.eff (.app 39 39 66 2 24 (.agg #[(.string ⟨#[]⟩), (.int .u64 0)])) (.cons (.bv 0) (.cons (.inp 0) .nil)) (.done [(1, (.bv 1))] none)))) .ret) Q env w := rfl
def h56_1 : HC := (.seq (.reg (.done [(1, (.cst (.slice none 0 0)))] none)) .ret)
@[simp] theorem h56_1_wp {P : Program} {F : PF P} {Q : EX → List Value → World → Prop} {env : List Value} {w : World} : h56_1.wp F Q env w = HC.wp F (.seq (.reg (.done [(1, (.cst (.slice none 0 0)))] none)) .ret) Q env w := rfl
def h56_2 : HC := (.seq (.br (.chk none (.eqNil false (.slice 66) (.slice none 0 0)) (.cons (.inp 0) .nil) (.done [] (some (.op (.eqNil false (.slice 66) (.slice none 0 0)) (.cons (.inp 0) .nil))))) h56_1 .skip) h56_0)
@[simp] theorem h56_2_wp {P : Program} {F : PF P} {Q : EX → List Value → World → Prop} {env : List Value} {w : World} : h56_2.wp F Q env w = HC.wp F (.seq (.br (.chk none (.eqNil false (.slice 66) (.slice none 0 0)) (.cons (.inp 0) .nil) (.done [] (some (.op (.eqNil false (.slice 66) (.slice none 0 0)) (.cons (.inp 0) .nil))))) h56_1 .skip) h56_0) Q env w := rfl
def l56 : Lifted := ⟨[0, 2], 8, [.slot 1], (.seq (.reg (.done [(1, (.cst (.slice none 0 0)))] none)) h56_2)⟩
theorem l56_ok : liftFn U0 56 400 = some l56 := by kernel_rfl

-- bazaar/count.Take
def h53_0 : HC := (.seq (.reg (.chk none (.bin .sub) (.cons (.inp 0) (.cons (.inp 1) .nil)) (.done [(2, (.op (.bin .sub) (.cons (.inp 0) (.cons (.inp 1) .nil)))), (3, (.cst (.int .i64 0)))] none))) .ret)
@[simp] theorem h53_0_wp {P : Program} {F : PF P} {Q : EX → List Value → World → Prop} {env : List Value} {w : World} : h53_0.wp F Q env w = HC.wp F (.seq (.reg (.chk none (.bin .sub) (.cons (.inp 0) (.cons (.inp 1) .nil)) (.done [(2, (.op (.bin .sub) (.cons (.inp 0) (.cons (.inp 1) .nil)))), (3, (.cst (.int .i64 0)))] none))) .ret) Q env w := rfl
def h53_1 : HC := (.seq (.reg (.done [(2, (.cst (.int .u64 0))), (3, (.cst (.int .i64 11)))] none)) .ret)
@[simp] theorem h53_1_wp {P : Program} {F : PF P} {Q : EX → List Value → World → Prop} {env : List Value} {w : World} : h53_1.wp F Q env w = HC.wp F (.seq (.reg (.done [(2, (.cst (.int .u64 0))), (3, (.cst (.int .i64 11)))] none)) .ret) Q env w := rfl
def h53_2 : HC := (.seq (.br (.chk none (.bin .gtr) (.cons (.inp 1) (.cons (.inp 0) .nil)) (.done [] (some (.op (.bin .gtr) (.cons (.inp 1) (.cons (.inp 0) .nil)))))) h53_1 .skip) h53_0)
@[simp] theorem h53_2_wp {P : Program} {F : PF P} {Q : EX → List Value → World → Prop} {env : List Value} {w : World} : h53_2.wp F Q env w = HC.wp F (.seq (.br (.chk none (.bin .gtr) (.cons (.inp 1) (.cons (.inp 0) .nil)) (.done [] (some (.op (.bin .gtr) (.cons (.inp 1) (.cons (.inp 0) .nil)))))) h53_1 .skip) h53_0) Q env w := rfl
def l53 : Lifted := ⟨[0, 1, 4, 5], 12, [.slot 2, .slot 3], (.seq (.reg (.done [(2, (.cst (.int .u64 0))), (3, (.cst (.int .i64 0)))] none)) h53_2)⟩
theorem l53_ok : liftFn U0 53 400 = some l53 := by kernel_rfl

-- bazaar/bazaarlaw14.num
def h10_0 : HC := (.seq (.reg (.done [(1, (.inp 0))] none)) .ret)
@[simp] theorem h10_0_wp {P : Program} {F : PF P} {Q : EX → List Value → World → Prop} {env : List Value} {w : World} : h10_0.wp F Q env w = HC.wp F (.seq (.reg (.done [(1, (.inp 0))] none)) .ret) Q env w := rfl
def l10 : Lifted := ⟨[0, 2], 4, [.slot 1], (.seq (.reg (.done [(1, (.cst (.int .i64 0)))] none)) h10_0)⟩
theorem l10_ok : liftFn U0 10 400 = some l10 := by kernel_rfl

-- bazaar/bazaarlaw14.round
def h25_0 : HC := (.seq (.reg (.done [(2, (.inp 0))] none)) .ret)
@[simp] theorem h25_0_wp {P : Program} {F : PF P} {Q : EX → List Value → World → Prop} {env : List Value} {w : World} : h25_0.wp F Q env w = HC.wp F (.seq (.reg (.done [(2, (.inp 0))] none)) .ret) Q env w := rfl
def h25_1 : HC := (.reg (.chk none (.bin .add) (.cons (.inp 0) (.cons (.inp 1) .nil)) (.done [(0, (.op (.bin .add) (.cons (.inp 0) (.cons (.inp 1) .nil))))] none)))
@[simp] theorem h25_1_wp {P : Program} {F : PF P} {Q : EX → List Value → World → Prop} {env : List Value} {w : World} : h25_1.wp F Q env w = HC.wp F (.reg (.chk none (.bin .add) (.cons (.inp 0) (.cons (.inp 1) .nil)) (.done [(0, (.op (.bin .add) (.cons (.inp 0) (.cons (.inp 1) .nil))))] none))) Q env w := rfl
def h25_2 : HC := (.seq (.br (.chk none (.bin .lss) (.cons (.inp 0) (.cons (.cst (.int .i64 0)) .nil)) (.done [] (some (.op (.bin .lss) (.cons (.inp 0) (.cons (.cst (.int .i64 0)) .nil)))))) h25_1 .skip) h25_0)
@[simp] theorem h25_2_wp {P : Program} {F : PF P} {Q : EX → List Value → World → Prop} {env : List Value} {w : World} : h25_2.wp F Q env w = HC.wp F (.seq (.br (.chk none (.bin .lss) (.cons (.inp 0) (.cons (.cst (.int .i64 0)) .nil)) (.done [] (some (.op (.bin .lss) (.cons (.inp 0) (.cons (.cst (.int .i64 0)) .nil)))))) h25_1 .skip) h25_0) Q env w := rfl
def h25_3 : HC := (.seq (.reg (.chk none (.bin .rem) (.cons (.inp 0) (.cons (.inp 1) .nil)) (.done [(0, (.op (.bin .rem) (.cons (.inp 0) (.cons (.inp 1) .nil))))] none))) h25_2)
@[simp] theorem h25_3_wp {P : Program} {F : PF P} {Q : EX → List Value → World → Prop} {env : List Value} {w : World} : h25_3.wp F Q env w = HC.wp F (.seq (.reg (.chk none (.bin .rem) (.cons (.inp 0) (.cons (.inp 1) .nil)) (.done [(0, (.op (.bin .rem) (.cons (.inp 0) (.cons (.inp 1) .nil))))] none))) h25_2) Q env w := rfl
def l25 : Lifted := ⟨[0, 1, 4], 14, [.slot 2], (.seq (.reg (.done [(2, (.cst (.int .i64 0)))] none)) h25_3)⟩
theorem l25_ok : liftFn U0 25 400 = some l25 := by kernel_rfl


theorem known_spec (p : Nat) (c : Array Value) (t : TypeId) (m : Nat) (ks : List (List UInt8)) (n : Nat) (x : List UInt8) (w0 w : World) (A : Asn) (hc : c[0]? = some (.map (some m))) (hx : x.length ≤ 1048576)
    (s : St w0 (A * pt p (.cells c t (0, 0)) * pt m (.map (mapE ks) n)) w) :
    CallW Try.prog 47 [.pointer (some ⟨p, 0, none⟩), .string (mk x)] (fun r w' => r = .tuple #[.int .i64 (askN (keyF x) ks), .bool (askB (keyF x) ks)] ∧ St w0 (A * pt p (.cells c t (0, 0)) * pt m (.map (mapE ks) n)) w') w := by
  refine callW_of_lift l47_ok (by simp [l47]) ?_
  simp [l47]
  refine regmI (fun vs w => match vs with
    | [] => St w0 (A * pt p (.cells c t (0, 0)) * pt m (.map (mapE ks) n)) w
    | r :: _ => r = .string (mk (keyF x)) ∧ St w0 (A * pt p (.cells c t (0, 0)) * pt m (.map (mapE ks) n)) w) s.drew ?_
  have base : ∀ {vs' : List Value} {w : World}, (match vs' with
    | [] => St w0 (A * pt p (.cells c t (0, 0)) * pt m (.map (mapE ks) n)) w
    | r :: _ => r = .string (mk (keyF x)) ∧ St w0 (A * pt p (.cells c t (0, 0)) * pt m (.map (mapE ks) n)) w) → St w0 (A * pt p (.cells c t (0, 0)) * pt m (.map (mapE ks) n)) w := by
    intro vs' w h
    cases vs' with
    | nil => exact h
    | cons r l => exact h.2
  simp
  refine effm_ldc (v := .map (some m)) (fun vs' w _ hw => by rw [cell_of (base hw).drop.look]; exact hc) ?_
  simp
  refine effm_mv rfl (fun w hw => eff_call ((Fold_spec x w0 w _ hx hw).mono fun r w' h => h)) (fun r hr => ?_)
  obtain ⟨_, rfl, _⟩ := hr
  simp
  refine effm_look regT (fun vs' w _ hw => (base hw).look) ?_
  simp
theorem enter_spec (p : Nat) (c : Array Value) (t : TypeId) (m : Nat) (ks : List (List UInt8)) (x : List UInt8) (w0 w : World) (A : Asn) (hc : c[0]? = some (.map (some m))) (hx : x.length ≤ 1048576) (hn : lookK (keyF x) ks 0 = none)
    (s : St w0 (A * pt p (.cells c t (0, 0)) * pt m (.map (mapE ks) ks.length)) w) :
    CallW Try.prog 48 [.pointer (some ⟨p, 0, none⟩), .string (mk x), .int .i64 (ks.length : Int)] (fun r w' => St w0 (A * pt p (.cells c t (0, 0)) * pt m (.map (mapE (ks ++ [keyF x])) (ks ++ [keyF x]).length)) w') w := by
  refine callW_of_lift l48_ok (by simp [l48]) ?_
  simp [l48]
  refine regmI (fun vs w => match vs with
    | [] => St w0 (A * pt p (.cells c t (0, 0)) * pt m (.map (mapE ks) ks.length)) w
    | [r] => r = .string (mk (keyF x)) ∧ St w0 (A * pt p (.cells c t (0, 0)) * pt m (.map (mapE ks) ks.length)) w
    | _ => St w0 (A * pt p (.cells c t (0, 0)) * pt m (.map (mapE (ks ++ [keyF x])) (ks ++ [keyF x]).length)) w) s.drew ?_
  simp
  refine effm_ldc (v := .map (some m)) (fun vs' w he hw => ?_) ?_
  · match vs', hw with
    | [], hw => rw [cell_of (St.drop hw).look]; exact hc
    | [_], hw => rw [cell_of (St.drop hw.2).look]; exact hc
    | _ :: _ :: _, hw => simp [era] at he
  simp
  refine effm_mv rfl (fun w hw => eff_call ((Fold_spec x w0 w _ hx hw).mono fun r w' h => h)) (fun r hr => ?_)
  obtain ⟨_, rfl, _⟩ := hr
  simp
  refine effm_mv rfl (fun w hw => eff_upd regT hw.2 hn fun w' h => by simpa using h) (fun r hr => ?_)
  simp
theorem take_spec (a b : Int) (w : World) (ha : 0 ≤ a ∧ a < 18446744073709551616) (hb : 0 ≤ b ∧ b < 18446744073709551616) : CallW Try.prog 53 [.int .u64 a, .int .u64 b] (fun r w' => r = .tuple #[.int .u64 (if a < b then 0 else a - b), .int .i64 (if a < b then 11 else 0)] ∧ w' = w) w := by
  refine callW_of_lift l53_ok (by simp [l53]) ?_
  simp [l53]
  refine cndI (fun h => ?_) (fun h => ?_)
  · simp at h
    simp [h]
  · simp at h
    simp
    try simp (disch := omega) only [wrapu64]
    exact ⟨by rw [if_neg (by omega)], by omega⟩
theorem num_spec (u : Int) (w : World) : CallW Try.prog 10 [.int .i64 u] (fun r w' => r = .int .i64 u ∧ w' = w) w := by
  refine callW_of_lift l10_ok (by simp [l10]) ?_
  simp [l10]
def clipV : Value → Value
  | .slice a n _ => .slice a n n
  | v => v
theorem clip_own {w0 w : World} {A : Asn} {e size n : Nat} {v : Value} {xs : List Value} (s : St w0 (A * own e size v n xs) w) : St w0 (A * own e size (clipV v) n xs) w := by
  rcases s.own with ⟨hl, ⟨rfl, rfl, rfl, s'⟩ | ⟨g, cap, cur, rfl, h1, h2, h3, h4, s'⟩⟩
  · exact s
  · exact s'.own_mk' (Nat.le_refl n) (Nat.le_trans h1 h2) (Nat.le_trans (Nat.mul_le_mul_right _ h1) h3) h4
theorem add_zero : (fun x : Addr => x.add 0) = id := by funext x; cases x; rfl
theorem clipI_spec (v : Value) (n : Nat) (xs : List Value) (e : Nat) (w0 w : World) (A : Asn) (hn : n ≤ 1048576) (s : St w0 (A * own e 1 v n xs) w) :
    CallW Try.prog 52 [v] (fun r w' => St w0 (A * own e 1 r n xs) w') w := by
  obtain ⟨a, cap, rfl, hc, _⟩ := s.own_val
  refine callW_of_lift l52_ok (by simp [l52]) ?_
  simp [l52, add_zero]
  exact ⟨hc, clip_own s⟩
theorem clipA_spec (v : Value) (n : Nat) (xs : List Value) (e : Nat) (w0 w : World) (A : Asn) (hn : n ≤ 1048576) (s : St w0 (A * own e 2 v n xs) w) :
    CallW Try.prog 59 [v] (fun r w' => St w0 (A * own e 2 r n xs) w') w := by
  obtain ⟨a, cap, rfl, hc, _⟩ := s.own_val
  refine callW_of_lift l59_ok (by simp [l59]) ?_
  simp [l59, add_zero]
  exact ⟨hc, clip_own s⟩
theorem clone_spec (v : Value) (rows : List Ac) (w0 w : World) (A : Asn) (hl : rows.length ≤ 1048576) (s : St w0 (A * own 66 2 v rows.length (flat rows)) w) :
    CallW Try.prog 56 [v] (fun r w' => St w0 (A * own 66 2 v rows.length (flat rows) * own 66 2 r rows.length (flat rows)) w') w := by
  obtain ⟨a, cap, rfl, hcap, _⟩ := s.own_val
  refine callW_of_lift l56_ok (by simp [l56]) ?_
  simp [l56]
  cases a with
  | none =>
    simp
    rcases s.own.2 with ⟨h, h0, _⟩ | ⟨_, _, _, h, _⟩
    · have hi : rows = [] := List.eq_nil_of_length_eq_zero h0
      subst hi
      exact s.own_nil _ _
    · cases h
  | some a =>
    simp
    refine eff_bsl0 s ?_
    intro v0 w1 s1
    simp
    have hr : Row w0 (A * own 66 2 (.slice (some a) rows.length cap) rows.length (flat rows) * own 66 2 v0 0 []) (.slice (some a) rows.length cap) rows.length 2 (flat rows) := (row_own s).mono fun w s => s.drop
    refine eff_appR s1 hr (flat_one _) (by decide) rfl (by unfold maxLen; omega) (by omega) ?_
    intro v' w2 s2
    simp
    simpa using s2
theorem eff_mclone {m : Nat} {es : Array MapEntry} {n : Nat} {t : TypeId} {w0 w : World} {A : Asn} {K : Value → World → Prop} (s : St w0 (A * pt m (.map es n)) w) (hk : ∀ m' w', St w0 (A * pt m (.map es n) * pt m' (.map es n)) w' → K (.iface t (.map (some m'))) w') :
    EffW Try.prog (.cext 84) [.iface t (.map (some m))] K w := by
  intro _
  unfold UponW
  have h := run_callFunc_extern (P := Try.prog) (f := 84) (fn := Try.f84) (e := Extern.MapsClone.clone) Try.func84 (by kernel_rfl) (by kernel_rfl) (by kernel_rfl) (by kernel_rfl) #[.iface t (.map (some m))] w
  have hb := s.look
  have hr : (Extern.MapsClone.clone #[.iface t (.map (some m))]).run Try.prog w = .ok (.iface t (.map (some w.heap.size))) (w.alloc (.map es n)) := by
    have e : Extern.MapsClone.clone #[.iface t (.map (some m))] = (getObj m >>= fun o => match o with
      | .map entries clock => (newObj (.map entries clock) >>= fun n => pure (.iface t (.map (some n))))
      | _ => stuck "maps.clone: a map expected") := rfl
    rw [e]
    simp [MapKept.run_getObj_map hb, Result.andThen, newObj]
    rfl
  rw [hr] at h
  simp only [EO.sem]
  rw [h]
  simp only [Result.andThen]
  exact hk _ _ (s.alloc trivial)
theorem mclone_spec (m : Nat) (ks : List (List UInt8)) (n : Nat) (w0 w : World) (A : Asn) (s : St w0 (A * pt m (.map (mapE ks) n)) w) :
    CallW Try.prog 57 [.map (some m)] (fun r w' => ∃ m', r = .map (some m') ∧ St w0 (A * pt m (.map (mapE ks) n) * pt m' (.map (mapE ks) n)) w') w := by
  refine callW_of_lift l57_ok (by simp [l57]) ?_
  simp [l57]
  refine eff_mclone s ?_
  intro m' w1 s1
  simp
  refine eff_tas regT.ty (by intro ms h; cases h) ?_
  simp
  exact s1
end Go.HL.Pu

namespace Go.HL.Pu
open Go.HL Go.HL.Nm Go.Proofs
set_option maxRecDepth 4000
set_option linter.unusedSimpArgs false
set_option linter.unusedVariables false
/-- coins within bounds -/
structure Bd (P : Ps) : Prop where
  coins : ∀ i, i < P.rows.length → 0 ≤ (P.rows.getD i ⟨[], 0⟩).coins ∧ (P.rows.getD i ⟨[], 0⟩).coins ≤ 4611686018427387904
  held : 0 ≤ P.held ∧ P.held ≤ 4611686018427387904
  sup : 0 ≤ P.sup ∧ P.sup ≤ 4611686018427387904
  len : P.rows.length ≤ 64
def coin (l : List Ac) (i : Nat) : Int := (l.getD i ⟨[], 0⟩).coins
def setC (l : List Ac) (i : Nat) (c : Int) : List Ac := l.set i ⟨(l.getD i ⟨[], 0⟩).name, c⟩
theorem coin_at {l : List Ac} {i : Nat} (h : i < l.length) : coin l i = l[i].coins := by simp [coin, h]
theorem setC_at {l : List Ac} {i : Nat} (h : i < l.length) (c : Int) : (flat l).set (i * 2 + 1) (.int .u64 c) = flat (setC l i c) := by
  rw [flat_set1 h]; simp [setC, h]
theorem setC_len (l : List Ac) (i : Nat) (c : Int) : (setC l i c).length = l.length := by simp [setC]
theorem keys_setC (l : List Ac) (i : Nat) (c : Int) : keys (setC l i c) = keys l := by
  unfold keys setC
  rw [List.map_set]
  by_cases h : i < l.length
  · have e : keyF (l.getD i ⟨[], 0⟩).name = (l.map fun x => keyF x.name)[i]'(by simpa using h) := by simp [h]
    show (l.map fun x => keyF x.name).set i (keyF (l.getD i ⟨[], 0⟩).name) = _
    rw [e]; exact List.set_getElem_self _
  · rw [List.set_eq_of_length_le (by simp; omega)]
def accE (l : List Ac) (n : Int) : Int := if 0 ≤ n ∧ n < l.length then 0 else 142
-- (*bazaar/purse.Purse).account
def h75_0 : HC := (.seq (.reg (.done [(2, (.cst (.int .i64 0)))] none)) .ret)
@[simp] theorem h75_0_wp {P : Program} {F : PF P} {Q : EX → List Value → World → Prop} {env : List Value} {w : World} : h75_0.wp F Q env w = HC.wp F (.seq (.reg (.done [(2, (.cst (.int .i64 0)))] none)) .ret) Q env w := rfl
def h75_1 : HC := (.seq (.reg (.done [(2, (.cst (.int .i64 142)))] none)) .ret)
@[simp] theorem h75_1_wp {P : Program} {F : PF P} {Q : EX → List Value → World → Prop} {env : List Value} {w : World} : h75_1.wp F Q env w = HC.wp F (.seq (.reg (.done [(2, (.cst (.int .i64 142)))] none)) .ret) Q env w := rfl
def h75_2 : HC := (.seq (.br (.chk none (.bin .lss) (.cons (.inp 1) (.cons (.cst (.int .i64 0)) .nil)) (.bnd (.op (.bin .lss) (.cons (.inp 1) (.cons (.cst (.int .i64 0)) .nil))) (.chk (some ((.bv 0), false)) .chkp (.cons (.inp 0) .nil) (.chk (some ((.bv 0), false)) (.fld 2) (.cons (.op .chkp (.cons (.inp 0) .nil)) .nil) (.ite (.bv 0) false (.eff (.ld false 1) (.cons (.ite (.bv 0) false (.op (.fld 2) (.cons (.op .chkp (.cons (.inp 0) .nil)) .nil)) (.cst (.tuple #[]))) .nil) (.chk none .lenL (.cons (.bv 1) .nil) (.chk none (.bin .geq) (.cons (.ite (.bv 0) false (.inp 1) (.cst (.tuple #[]))) (.cons (.op .lenL (.cons (.bv 1) .nil)) .nil)) (.isb none (.bv 0) (.done [] (some (.op (.bin .geq) (.cons (.ite (.bv 0) false (.inp 1) (.cst (.tuple #[]))) (.cons (.op .lenL (.cons (.bv 1) .nil)) .nil))))))))) (.isb none (.bv 0) (.done [] (some (.cst (.bool true)))))))))) h75_1 .skip) h75_0)
@[simp] theorem h75_2_wp {P : Program} {F : PF P} {Q : EX → List Value → World → Prop} {env : List Value} {w : World} : h75_2.wp F Q env w = HC.wp F (.seq (.br (.chk none (.bin .lss) (.cons (.inp 1) (.cons (.cst (.int .i64 0)) .nil)) (.bnd (.op (.bin .lss) (.cons (.inp 1) (.cons (.cst (.int .i64 0)) .nil))) (.chk (some ((.bv 0), false)) .chkp (.cons (.inp 0) .nil) (.chk (some ((.bv 0), false)) (.fld 2) (.cons (.op .chkp (.cons (.inp 0) .nil)) .nil) (.ite (.bv 0) false (.eff (.ld false 1) (.cons (.ite (.bv 0) false (.op (.fld 2) (.cons (.op .chkp (.cons (.inp 0) .nil)) .nil)) (.cst (.tuple #[]))) .nil) (.chk none .lenL (.cons (.bv 1) .nil) (.chk none (.bin .geq) (.cons (.ite (.bv 0) false (.inp 1) (.cst (.tuple #[]))) (.cons (.op .lenL (.cons (.bv 1) .nil)) .nil)) (.isb none (.bv 0) (.done [] (some (.op (.bin .geq) (.cons (.ite (.bv 0) false (.inp 1) (.cst (.tuple #[]))) (.cons (.op .lenL (.cons (.bv 1) .nil)) .nil))))))))) (.isb none (.bv 0) (.done [] (some (.cst (.bool true)))))))))) h75_1 .skip) h75_0) Q env w := rfl
def h75_3 : HC := (.seq (.reg (.done [(2, (.cst (.int .i64 1)))] none)) .ret)
@[simp] theorem h75_3_wp {P : Program} {F : PF P} {Q : EX → List Value → World → Prop} {env : List Value} {w : World} : h75_3.wp F Q env w = HC.wp F (.seq (.reg (.done [(2, (.cst (.int .i64 1)))] none)) .ret) Q env w := rfl
def h75_4 : HC := (.seq (.br (.chk none (.eqNil false (.pointer 81) (.pointer none)) (.cons (.inp 0) .nil) (.done [] (some (.op (.eqNil false (.pointer 81) (.pointer none)) (.cons (.inp 0) .nil))))) h75_3 .skip) h75_2)
@[simp] theorem h75_4_wp {P : Program} {F : PF P} {Q : EX → List Value → World → Prop} {env : List Value} {w : World} : h75_4.wp F Q env w = HC.wp F (.seq (.br (.chk none (.eqNil false (.pointer 81) (.pointer none)) (.cons (.inp 0) .nil) (.done [] (some (.op (.eqNil false (.pointer 81) (.pointer none)) (.cons (.inp 0) .nil))))) h75_3 .skip) h75_2) Q env w := rfl
def l75 : Lifted := ⟨[0, 1, 4], 18, [.slot 2], (.seq (.reg (.done [(2, (.cst (.int .i64 0)))] none)) h75_4)⟩
theorem l75_ok : liftFn U0 75 400 = some l75 := by kernel_rfl

-- (*bazaar/purse.Purse).Open
def h13_0 : HC := (.seq (.reg (.done [(2, (.inp 6)), (3, (.cst (.int .i64 0)))] none)) .ret)
@[simp] theorem h13_0_wp {P : Program} {F : PF P} {Q : EX → List Value → World → Prop} {env : List Value} {w : World} : h13_0.wp F Q env w = HC.wp F (.seq (.reg (.done [(2, (.inp 6)), (3, (.cst (.int .i64 0)))] none)) .ret) Q env w := rfl
def h13_1 : HC := (.seq (.reg (.chk none .chkp (.cons (.inp 0) .nil) (.chk none (.fld 0) (.cons (.op .chkp (.cons (.inp 0) .nil)) .nil) (.eff (.call 48) (.cons (.op (.fld 0) (.cons (.op .chkp (.cons (.inp 0) .nil)) .nil)) (.cons (.inp 1) (.cons (.inp 6) .nil))) (.done [] none))))) h13_0)
@[simp] theorem h13_1_wp {P : Program} {F : PF P} {Q : EX → List Value → World → Prop} {env : List Value} {w : World} : h13_1.wp F Q env w = HC.wp F (.seq (.reg (.chk none .chkp (.cons (.inp 0) .nil) (.chk none (.fld 0) (.cons (.op .chkp (.cons (.inp 0) .nil)) .nil) (.eff (.call 48) (.cons (.op (.fld 0) (.cons (.op .chkp (.cons (.inp 0) .nil)) .nil)) (.cons (.inp 1) (.cons (.inp 6) .nil))) (.done [] none))))) h13_0) Q env w := rfl
def h13_2 : HC := (.seq (.reg (.chk none .chkp (.cons (.inp 0) .nil) (.chk none (.fld 2) (.cons (.op .chkp (.cons (.inp 0) .nil)) .nil) (.eff (.ld false 1) (.cons (.op (.fld 2) (.cons (.op .chkp (.cons (.inp 0) .nil)) .nil)) .nil) (.chk none (.build #[(.string ⟨#[]⟩), (.int .u64 0)] [(0, 1), (1, 1)] [0]) (.cons (.inp 1) .nil) (.eff (.bsl 66 1 2 #[(.string ⟨#[]⟩), (.int .u64 0)] [0]) (.cons (.op (.build #[(.string ⟨#[]⟩), (.int .u64 0)] [(0, 1), (1, 1)] [0]) (.cons (.inp 1) .nil)) .nil) (.eff (.app 39 39 66 2 24 (.agg #[(.string ⟨#[]⟩), (.int .u64 0)])) (.cons (.bv 0) (.cons (.bv 1) .nil)) (.chk none .chkp (.cons (.inp 0) .nil) (.chk none (.fld 2) (.cons (.op .chkp (.cons (.inp 0) .nil)) .nil) (.eff (.st 1) (.cons (.op (.fld 2) (.cons (.op .chkp (.cons (.inp 0) .nil)) .nil)) (.cons (.bv 2) .nil)) (.done [] none))))))))))) h13_1)
@[simp] theorem h13_2_wp {P : Program} {F : PF P} {Q : EX → List Value → World → Prop} {env : List Value} {w : World} : h13_2.wp F Q env w = HC.wp F (.seq (.reg (.chk none .chkp (.cons (.inp 0) .nil) (.chk none (.fld 2) (.cons (.op .chkp (.cons (.inp 0) .nil)) .nil) (.eff (.ld false 1) (.cons (.op (.fld 2) (.cons (.op .chkp (.cons (.inp 0) .nil)) .nil)) .nil) (.chk none (.build #[(.string ⟨#[]⟩), (.int .u64 0)] [(0, 1), (1, 1)] [0]) (.cons (.inp 1) .nil) (.eff (.bsl 66 1 2 #[(.string ⟨#[]⟩), (.int .u64 0)] [0]) (.cons (.op (.build #[(.string ⟨#[]⟩), (.int .u64 0)] [(0, 1), (1, 1)] [0]) (.cons (.inp 1) .nil)) .nil) (.eff (.app 39 39 66 2 24 (.agg #[(.string ⟨#[]⟩), (.int .u64 0)])) (.cons (.bv 0) (.cons (.bv 1) .nil)) (.chk none .chkp (.cons (.inp 0) .nil) (.chk none (.fld 2) (.cons (.op .chkp (.cons (.inp 0) .nil)) .nil) (.eff (.st 1) (.cons (.op (.fld 2) (.cons (.op .chkp (.cons (.inp 0) .nil)) .nil)) (.cons (.bv 2) .nil)) (.done [] none))))))))))) h13_1) Q env w := rfl
def h13_3 : HC := (.seq (.reg (.done [(2, (.cst (.int .i64 0))), (3, (.cst (.int .i64 141)))] none)) .ret)
@[simp] theorem h13_3_wp {P : Program} {F : PF P} {Q : EX → List Value → World → Prop} {env : List Value} {w : World} : h13_3.wp F Q env w = HC.wp F (.seq (.reg (.done [(2, (.cst (.int .i64 0))), (3, (.cst (.int .i64 141)))] none)) .ret) Q env w := rfl
def h13_4 : HC := (.seq (.br (.chk none .chkp (.cons (.inp 0) .nil) (.chk none (.fld 1) (.cons (.op .chkp (.cons (.inp 0) .nil)) .nil) (.eff (.ld false 1) (.cons (.op (.fld 1) (.cons (.op .chkp (.cons (.inp 0) .nil)) .nil)) .nil) (.chk none (.bin .eql) (.cons (.inp 6) (.cons (.bv 0) .nil)) (.done [] (some (.op (.bin .eql) (.cons (.inp 6) (.cons (.bv 0) .nil))))))))) h13_3 .skip) h13_2)
@[simp] theorem h13_4_wp {P : Program} {F : PF P} {Q : EX → List Value → World → Prop} {env : List Value} {w : World} : h13_4.wp F Q env w = HC.wp F (.seq (.br (.chk none .chkp (.cons (.inp 0) .nil) (.chk none (.fld 1) (.cons (.op .chkp (.cons (.inp 0) .nil)) .nil) (.eff (.ld false 1) (.cons (.op (.fld 1) (.cons (.op .chkp (.cons (.inp 0) .nil)) .nil)) .nil) (.chk none (.bin .eql) (.cons (.inp 6) (.cons (.bv 0) .nil)) (.done [] (some (.op (.bin .eql) (.cons (.inp 6) (.cons (.bv 0) .nil))))))))) h13_3 .skip) h13_2) Q env w := rfl
def h13_5 : HC := (.seq (.reg (.chk none .chkp (.cons (.inp 0) .nil) (.chk none (.fld 2) (.cons (.op .chkp (.cons (.inp 0) .nil)) .nil) (.eff (.ld false 1) (.cons (.op (.fld 2) (.cons (.op .chkp (.cons (.inp 0) .nil)) .nil)) .nil) (.chk none .lenL (.cons (.bv 0) .nil) (.done [(6, (.op .lenL (.cons (.bv 0) .nil)))] none)))))) h13_4)
@[simp] theorem h13_5_wp {P : Program} {F : PF P} {Q : EX → List Value → World → Prop} {env : List Value} {w : World} : h13_5.wp F Q env w = HC.wp F (.seq (.reg (.chk none .chkp (.cons (.inp 0) .nil) (.chk none (.fld 2) (.cons (.op .chkp (.cons (.inp 0) .nil)) .nil) (.eff (.ld false 1) (.cons (.op (.fld 2) (.cons (.op .chkp (.cons (.inp 0) .nil)) .nil)) .nil) (.chk none .lenL (.cons (.bv 0) .nil) (.done [(6, (.op .lenL (.cons (.bv 0) .nil)))] none)))))) h13_4) Q env w := rfl
def h13_6 : HC := (.seq (.reg (.done [(2, (.cst (.int .i64 0))), (3, (.cst (.int .i64 140)))] none)) .ret)
@[simp] theorem h13_6_wp {P : Program} {F : PF P} {Q : EX → List Value → World → Prop} {env : List Value} {w : World} : h13_6.wp F Q env w = HC.wp F (.seq (.reg (.done [(2, (.cst (.int .i64 0))), (3, (.cst (.int .i64 140)))] none)) .ret) Q env w := rfl
def h13_7 : HC := (.seq (.br (.done [] (some (.inp 5))) h13_6 .skip) h13_5)
@[simp] theorem h13_7_wp {P : Program} {F : PF P} {Q : EX → List Value → World → Prop} {env : List Value} {w : World} : h13_7.wp F Q env w = HC.wp F (.seq (.br (.done [] (some (.inp 5))) h13_6 .skip) h13_5) Q env w := rfl
def h13_8 : HC := (.seq (.reg (.chk none .chkp (.cons (.inp 0) .nil) (.chk none (.fld 0) (.cons (.op .chkp (.cons (.inp 0) .nil)) .nil) (.eff (.call 47) (.cons (.op (.fld 0) (.cons (.op .chkp (.cons (.inp 0) .nil)) .nil)) (.cons (.inp 1) .nil)) (.chk none (.ext 0) (.cons (.bv 0) .nil) (.chk none (.ext 1) (.cons (.bv 0) .nil) (.done [(5, (.op (.ext 1) (.cons (.bv 0) .nil)))] none))))))) h13_7)
@[simp] theorem h13_8_wp {P : Program} {F : PF P} {Q : EX → List Value → World → Prop} {env : List Value} {w : World} : h13_8.wp F Q env w = HC.wp F (.seq (.reg (.chk none .chkp (.cons (.inp 0) .nil) (.chk none (.fld 0) (.cons (.op .chkp (.cons (.inp 0) .nil)) .nil) (.eff (.call 47) (.cons (.op (.fld 0) (.cons (.op .chkp (.cons (.inp 0) .nil)) .nil)) (.cons (.inp 1) .nil)) (.chk none (.ext 0) (.cons (.bv 0) .nil) (.chk none (.ext 1) (.cons (.bv 0) .nil) (.done [(5, (.op (.ext 1) (.cons (.bv 0) .nil)))] none))))))) h13_7) Q env w := rfl
def h13_9 : HC := (.seq (.reg (.done [(2, (.cst (.int .i64 0))), (3, (.inp 4))] none)) .ret)
@[simp] theorem h13_9_wp {P : Program} {F : PF P} {Q : EX → List Value → World → Prop} {env : List Value} {w : World} : h13_9.wp F Q env w = HC.wp F (.seq (.reg (.done [(2, (.cst (.int .i64 0))), (3, (.inp 4))] none)) .ret) Q env w := rfl
def h13_10 : HC := (.seq (.br (.chk none (.bin .neq) (.cons (.inp 4) (.cons (.cst (.int .i64 0)) .nil)) (.done [] (some (.op (.bin .neq) (.cons (.inp 4) (.cons (.cst (.int .i64 0)) .nil)))))) h13_9 .skip) h13_8)
@[simp] theorem h13_10_wp {P : Program} {F : PF P} {Q : EX → List Value → World → Prop} {env : List Value} {w : World} : h13_10.wp F Q env w = HC.wp F (.seq (.br (.chk none (.bin .neq) (.cons (.inp 4) (.cons (.cst (.int .i64 0)) .nil)) (.done [] (some (.op (.bin .neq) (.cons (.inp 4) (.cons (.cst (.int .i64 0)) .nil)))))) h13_9 .skip) h13_8) Q env w := rfl
def h13_11 : HC := (.seq (.reg (.eff (.call 11) (.cons (.inp 1) .nil) (.chk none (.ext 0) (.cons (.bv 0) .nil) (.chk none (.ext 1) (.cons (.bv 0) .nil) (.done [(4, (.op (.ext 1) (.cons (.bv 0) .nil)))] none))))) h13_10)
@[simp] theorem h13_11_wp {P : Program} {F : PF P} {Q : EX → List Value → World → Prop} {env : List Value} {w : World} : h13_11.wp F Q env w = HC.wp F (.seq (.reg (.eff (.call 11) (.cons (.inp 1) .nil) (.chk none (.ext 0) (.cons (.bv 0) .nil) (.chk none (.ext 1) (.cons (.bv 0) .nil) (.done [(4, (.op (.ext 1) (.cons (.bv 0) .nil)))] none))))) h13_10) Q env w := rfl
def h13_12 : HC := (.seq (.reg (.done [(2, (.cst (.int .i64 0))), (3, (.cst (.int .i64 1)))] none)) .ret)
@[simp] theorem h13_12_wp {P : Program} {F : PF P} {Q : EX → List Value → World → Prop} {env : List Value} {w : World} : h13_12.wp F Q env w = HC.wp F (.seq (.reg (.done [(2, (.cst (.int .i64 0))), (3, (.cst (.int .i64 1)))] none)) .ret) Q env w := rfl
def h13_13 : HC := (.seq (.br (.chk none (.eqNil false (.pointer 81) (.pointer none)) (.cons (.inp 0) .nil) (.done [] (some (.op (.eqNil false (.pointer 81) (.pointer none)) (.cons (.inp 0) .nil))))) h13_12 .skip) h13_11)
@[simp] theorem h13_13_wp {P : Program} {F : PF P} {Q : EX → List Value → World → Prop} {env : List Value} {w : World} : h13_13.wp F Q env w = HC.wp F (.seq (.br (.chk none (.eqNil false (.pointer 81) (.pointer none)) (.cons (.inp 0) .nil) (.done [] (some (.op (.eqNil false (.pointer 81) (.pointer none)) (.cons (.inp 0) .nil))))) h13_12 .skip) h13_11) Q env w := rfl
def l13 : Lifted := ⟨[0, 1, 4, 5, 7, 9, 10], 59, [.slot 2, .slot 3], (.seq (.reg (.done [(2, (.cst (.int .i64 0))), (3, (.cst (.int .i64 0)))] none)) h13_13)⟩
theorem l13_ok : liftFn U0 13 400 = some l13 := by kernel_rfl

-- (*bazaar/purse.Purse).Mint
def h62_0 : HC := (.seq (.reg (.done [(3, (.cst (.int .i64 0)))] none)) .ret)
@[simp] theorem h62_0_wp {P : Program} {F : PF P} {Q : EX → List Value → World → Prop} {env : List Value} {w : World} : h62_0.wp F Q env w = HC.wp F (.seq (.reg (.done [(3, (.cst (.int .i64 0)))] none)) .ret) Q env w := rfl
def h62_1 : HC := (.seq (.reg (.chk none .chkp (.cons (.inp 0) .nil) (.chk none (.fld 2) (.cons (.op .chkp (.cons (.inp 0) .nil)) .nil) (.eff (.ld false 1) (.cons (.op (.fld 2) (.cons (.op .chkp (.cons (.inp 0) .nil)) .nil)) .nil) (.chk none (.idxL 2) (.cons (.bv 0) (.cons (.inp 1) .nil)) (.chk none (.fld 1) (.cons (.op (.idxL 2) (.cons (.bv 0) (.cons (.inp 1) .nil))) .nil) (.eff (.ld false 1) (.cons (.op (.fld 1) (.cons (.op (.idxL 2) (.cons (.bv 0) (.cons (.inp 1) .nil))) .nil)) .nil) (.chk none (.bin .add) (.cons (.bv 1) (.cons (.inp 2) .nil)) (.chk none (.idxL 2) (.cons (.bv 0) (.cons (.inp 1) .nil)) (.chk none (.fld 1) (.cons (.op (.idxL 2) (.cons (.bv 0) (.cons (.inp 1) .nil))) .nil) (.eff (.st 1) (.cons (.op (.fld 1) (.cons (.op (.idxL 2) (.cons (.bv 0) (.cons (.inp 1) .nil))) .nil)) (.cons (.op (.bin .add) (.cons (.bv 1) (.cons (.inp 2) .nil))) .nil)) (.done [] none)))))))))))) h62_0)
@[simp] theorem h62_1_wp {P : Program} {F : PF P} {Q : EX → List Value → World → Prop} {env : List Value} {w : World} : h62_1.wp F Q env w = HC.wp F (.seq (.reg (.chk none .chkp (.cons (.inp 0) .nil) (.chk none (.fld 2) (.cons (.op .chkp (.cons (.inp 0) .nil)) .nil) (.eff (.ld false 1) (.cons (.op (.fld 2) (.cons (.op .chkp (.cons (.inp 0) .nil)) .nil)) .nil) (.chk none (.idxL 2) (.cons (.bv 0) (.cons (.inp 1) .nil)) (.chk none (.fld 1) (.cons (.op (.idxL 2) (.cons (.bv 0) (.cons (.inp 1) .nil))) .nil) (.eff (.ld false 1) (.cons (.op (.fld 1) (.cons (.op (.idxL 2) (.cons (.bv 0) (.cons (.inp 1) .nil))) .nil)) .nil) (.chk none (.bin .add) (.cons (.bv 1) (.cons (.inp 2) .nil)) (.chk none (.idxL 2) (.cons (.bv 0) (.cons (.inp 1) .nil)) (.chk none (.fld 1) (.cons (.op (.idxL 2) (.cons (.bv 0) (.cons (.inp 1) .nil))) .nil) (.eff (.st 1) (.cons (.op (.fld 1) (.cons (.op (.idxL 2) (.cons (.bv 0) (.cons (.inp 1) .nil))) .nil)) (.cons (.op (.bin .add) (.cons (.bv 1) (.cons (.inp 2) .nil))) .nil)) (.done [] none)))))))))))) h62_0) Q env w := rfl
def h62_2 : HC := (.seq (.reg (.chk none .chkp (.cons (.inp 0) .nil) (.chk none (.fld 3) (.cons (.op .chkp (.cons (.inp 0) .nil)) .nil) (.eff (.ld false 1) (.cons (.op (.fld 3) (.cons (.op .chkp (.cons (.inp 0) .nil)) .nil)) .nil) (.chk none (.bin .add) (.cons (.bv 0) (.cons (.inp 2) .nil)) (.chk none .chkp (.cons (.inp 0) .nil) (.chk none (.fld 3) (.cons (.op .chkp (.cons (.inp 0) .nil)) .nil) (.eff (.st 1) (.cons (.op (.fld 3) (.cons (.op .chkp (.cons (.inp 0) .nil)) .nil)) (.cons (.op (.bin .add) (.cons (.bv 0) (.cons (.inp 2) .nil))) .nil)) (.done [] none))))))))) h62_1)
@[simp] theorem h62_2_wp {P : Program} {F : PF P} {Q : EX → List Value → World → Prop} {env : List Value} {w : World} : h62_2.wp F Q env w = HC.wp F (.seq (.reg (.chk none .chkp (.cons (.inp 0) .nil) (.chk none (.fld 3) (.cons (.op .chkp (.cons (.inp 0) .nil)) .nil) (.eff (.ld false 1) (.cons (.op (.fld 3) (.cons (.op .chkp (.cons (.inp 0) .nil)) .nil)) .nil) (.chk none (.bin .add) (.cons (.bv 0) (.cons (.inp 2) .nil)) (.chk none .chkp (.cons (.inp 0) .nil) (.chk none (.fld 3) (.cons (.op .chkp (.cons (.inp 0) .nil)) .nil) (.eff (.st 1) (.cons (.op (.fld 3) (.cons (.op .chkp (.cons (.inp 0) .nil)) .nil)) (.cons (.op (.bin .add) (.cons (.bv 0) (.cons (.inp 2) .nil))) .nil)) (.done [] none))))))))) h62_1) Q env w := rfl
def h62_3 : HC := (.seq (.reg (.done [(3, (.cst (.int .i64 144)))] none)) .ret)
@[simp] theorem h62_3_wp {P : Program} {F : PF P} {Q : EX → List Value → World → Prop} {env : List Value} {w : World} : h62_3.wp F Q env w = HC.wp F (.seq (.reg (.done [(3, (.cst (.int .i64 144)))] none)) .ret) Q env w := rfl
def h62_4 : HC := (.seq (.br (.chk none .chkp (.cons (.inp 0) .nil) (.chk none (.fld 3) (.cons (.op .chkp (.cons (.inp 0) .nil)) .nil) (.eff (.ld false 1) (.cons (.op (.fld 3) (.cons (.op .chkp (.cons (.inp 0) .nil)) .nil)) .nil) (.chk none (.bin .sub) (.cons (.cst (.int .u64 4611686018427387904)) (.cons (.bv 0) .nil)) (.chk none (.bin .gtr) (.cons (.inp 2) (.cons (.op (.bin .sub) (.cons (.cst (.int .u64 4611686018427387904)) (.cons (.bv 0) .nil))) .nil)) (.done [] (some (.op (.bin .gtr) (.cons (.inp 2) (.cons (.op (.bin .sub) (.cons (.cst (.int .u64 4611686018427387904)) (.cons (.bv 0) .nil))) .nil)))))))))) h62_3 .skip) h62_2)
@[simp] theorem h62_4_wp {P : Program} {F : PF P} {Q : EX → List Value → World → Prop} {env : List Value} {w : World} : h62_4.wp F Q env w = HC.wp F (.seq (.br (.chk none .chkp (.cons (.inp 0) .nil) (.chk none (.fld 3) (.cons (.op .chkp (.cons (.inp 0) .nil)) .nil) (.eff (.ld false 1) (.cons (.op (.fld 3) (.cons (.op .chkp (.cons (.inp 0) .nil)) .nil)) .nil) (.chk none (.bin .sub) (.cons (.cst (.int .u64 4611686018427387904)) (.cons (.bv 0) .nil)) (.chk none (.bin .gtr) (.cons (.inp 2) (.cons (.op (.bin .sub) (.cons (.cst (.int .u64 4611686018427387904)) (.cons (.bv 0) .nil))) .nil)) (.done [] (some (.op (.bin .gtr) (.cons (.inp 2) (.cons (.op (.bin .sub) (.cons (.cst (.int .u64 4611686018427387904)) (.cons (.bv 0) .nil))) .nil)))))))))) h62_3 .skip) h62_2) Q env w := rfl
def h62_5 : HC := (.seq (.reg (.done [(3, (.cst (.int .i64 2)))] none)) .ret)
@[simp] theorem h62_5_wp {P : Program} {F : PF P} {Q : EX → List Value → World → Prop} {env : List Value} {w : World} : h62_5.wp F Q env w = HC.wp F (.seq (.reg (.done [(3, (.cst (.int .i64 2)))] none)) .ret) Q env w := rfl
def h62_6 : HC := (.seq (.br (.chk none (.bin .eql) (.cons (.inp 2) (.cons (.cst (.int .u64 0)) .nil)) (.done [] (some (.op (.bin .eql) (.cons (.inp 2) (.cons (.cst (.int .u64 0)) .nil)))))) h62_5 .skip) h62_4)
@[simp] theorem h62_6_wp {P : Program} {F : PF P} {Q : EX → List Value → World → Prop} {env : List Value} {w : World} : h62_6.wp F Q env w = HC.wp F (.seq (.br (.chk none (.bin .eql) (.cons (.inp 2) (.cons (.cst (.int .u64 0)) .nil)) (.done [] (some (.op (.bin .eql) (.cons (.inp 2) (.cons (.cst (.int .u64 0)) .nil)))))) h62_5 .skip) h62_4) Q env w := rfl
def h62_7 : HC := (.seq (.reg (.done [(3, (.inp 4))] none)) .ret)
@[simp] theorem h62_7_wp {P : Program} {F : PF P} {Q : EX → List Value → World → Prop} {env : List Value} {w : World} : h62_7.wp F Q env w = HC.wp F (.seq (.reg (.done [(3, (.inp 4))] none)) .ret) Q env w := rfl
def h62_8 : HC := (.seq (.br (.chk none (.bin .neq) (.cons (.inp 4) (.cons (.cst (.int .i64 0)) .nil)) (.done [] (some (.op (.bin .neq) (.cons (.inp 4) (.cons (.cst (.int .i64 0)) .nil)))))) h62_7 .skip) h62_6)
@[simp] theorem h62_8_wp {P : Program} {F : PF P} {Q : EX → List Value → World → Prop} {env : List Value} {w : World} : h62_8.wp F Q env w = HC.wp F (.seq (.br (.chk none (.bin .neq) (.cons (.inp 4) (.cons (.cst (.int .i64 0)) .nil)) (.done [] (some (.op (.bin .neq) (.cons (.inp 4) (.cons (.cst (.int .i64 0)) .nil)))))) h62_7 .skip) h62_6) Q env w := rfl
def h62_9 : HC := (.seq (.reg (.eff (.call 75) (.cons (.inp 0) (.cons (.inp 1) .nil)) (.done [(4, (.bv 0))] none))) h62_8)
@[simp] theorem h62_9_wp {P : Program} {F : PF P} {Q : EX → List Value → World → Prop} {env : List Value} {w : World} : h62_9.wp F Q env w = HC.wp F (.seq (.reg (.eff (.call 75) (.cons (.inp 0) (.cons (.inp 1) .nil)) (.done [(4, (.bv 0))] none))) h62_8) Q env w := rfl
def l62 : Lifted := ⟨[0, 1, 2, 6, 7], 43, [.slot 3], (.seq (.reg (.done [(3, (.cst (.int .i64 0)))] none)) h62_9)⟩
theorem l62_ok : liftFn U0 62 400 = some l62 := by kernel_rfl

-- (*bazaar/purse.Purse).Pay
def h64_0 : HC := (.seq (.reg (.done [(4, (.cst (.int .i64 0)))] none)) .ret)
@[simp] theorem h64_0_wp {P : Program} {F : PF P} {Q : EX → List Value → World → Prop} {env : List Value} {w : World} : h64_0.wp F Q env w = HC.wp F (.seq (.reg (.done [(4, (.cst (.int .i64 0)))] none)) .ret) Q env w := rfl
def h64_1 : HC := (.seq (.reg (.chk none .chkp (.cons (.inp 0) .nil) (.chk none (.fld 2) (.cons (.op .chkp (.cons (.inp 0) .nil)) .nil) (.eff (.ld false 1) (.cons (.op (.fld 2) (.cons (.op .chkp (.cons (.inp 0) .nil)) .nil)) .nil) (.chk none (.idxL 2) (.cons (.bv 0) (.cons (.inp 2) .nil)) (.chk none (.fld 1) (.cons (.op (.idxL 2) (.cons (.bv 0) (.cons (.inp 2) .nil))) .nil) (.eff (.ld false 1) (.cons (.op (.fld 1) (.cons (.op (.idxL 2) (.cons (.bv 0) (.cons (.inp 2) .nil))) .nil)) .nil) (.chk none (.bin .add) (.cons (.bv 1) (.cons (.inp 3) .nil)) (.chk none (.idxL 2) (.cons (.bv 0) (.cons (.inp 2) .nil)) (.chk none (.fld 1) (.cons (.op (.idxL 2) (.cons (.bv 0) (.cons (.inp 2) .nil))) .nil) (.eff (.st 1) (.cons (.op (.fld 1) (.cons (.op (.idxL 2) (.cons (.bv 0) (.cons (.inp 2) .nil))) .nil)) (.cons (.op (.bin .add) (.cons (.bv 1) (.cons (.inp 3) .nil))) .nil)) (.done [] none)))))))))))) h64_0)
@[simp] theorem h64_1_wp {P : Program} {F : PF P} {Q : EX → List Value → World → Prop} {env : List Value} {w : World} : h64_1.wp F Q env w = HC.wp F (.seq (.reg (.chk none .chkp (.cons (.inp 0) .nil) (.chk none (.fld 2) (.cons (.op .chkp (.cons (.inp 0) .nil)) .nil) (.eff (.ld false 1) (.cons (.op (.fld 2) (.cons (.op .chkp (.cons (.inp 0) .nil)) .nil)) .nil) (.chk none (.idxL 2) (.cons (.bv 0) (.cons (.inp 2) .nil)) (.chk none (.fld 1) (.cons (.op (.idxL 2) (.cons (.bv 0) (.cons (.inp 2) .nil))) .nil) (.eff (.ld false 1) (.cons (.op (.fld 1) (.cons (.op (.idxL 2) (.cons (.bv 0) (.cons (.inp 2) .nil))) .nil)) .nil) (.chk none (.bin .add) (.cons (.bv 1) (.cons (.inp 3) .nil)) (.chk none (.idxL 2) (.cons (.bv 0) (.cons (.inp 2) .nil)) (.chk none (.fld 1) (.cons (.op (.idxL 2) (.cons (.bv 0) (.cons (.inp 2) .nil))) .nil) (.eff (.st 1) (.cons (.op (.fld 1) (.cons (.op (.idxL 2) (.cons (.bv 0) (.cons (.inp 2) .nil))) .nil)) (.cons (.op (.bin .add) (.cons (.bv 1) (.cons (.inp 3) .nil))) .nil)) (.done [] none)))))))))))) h64_0) Q env w := rfl
def h64_2 : HC := (.seq (.reg (.chk none .chkp (.cons (.inp 0) .nil) (.chk none (.fld 2) (.cons (.op .chkp (.cons (.inp 0) .nil)) .nil) (.eff (.ld false 1) (.cons (.op (.fld 2) (.cons (.op .chkp (.cons (.inp 0) .nil)) .nil)) .nil) (.chk none (.idxL 2) (.cons (.bv 0) (.cons (.inp 1) .nil)) (.chk none (.fld 1) (.cons (.op (.idxL 2) (.cons (.bv 0) (.cons (.inp 1) .nil))) .nil) (.eff (.st 1) (.cons (.op (.fld 1) (.cons (.op (.idxL 2) (.cons (.bv 0) (.cons (.inp 1) .nil))) .nil)) (.cons (.inp 6) .nil)) (.done [] none)))))))) h64_1)
@[simp] theorem h64_2_wp {P : Program} {F : PF P} {Q : EX → List Value → World → Prop} {env : List Value} {w : World} : h64_2.wp F Q env w = HC.wp F (.seq (.reg (.chk none .chkp (.cons (.inp 0) .nil) (.chk none (.fld 2) (.cons (.op .chkp (.cons (.inp 0) .nil)) .nil) (.eff (.ld false 1) (.cons (.op (.fld 2) (.cons (.op .chkp (.cons (.inp 0) .nil)) .nil)) .nil) (.chk none (.idxL 2) (.cons (.bv 0) (.cons (.inp 1) .nil)) (.chk none (.fld 1) (.cons (.op (.idxL 2) (.cons (.bv 0) (.cons (.inp 1) .nil))) .nil) (.eff (.st 1) (.cons (.op (.fld 1) (.cons (.op (.idxL 2) (.cons (.bv 0) (.cons (.inp 1) .nil))) .nil)) (.cons (.inp 6) .nil)) (.done [] none)))))))) h64_1) Q env w := rfl
def h64_3 : HC := (.seq (.reg (.done [(4, (.cst (.int .i64 143)))] none)) .ret)
@[simp] theorem h64_3_wp {P : Program} {F : PF P} {Q : EX → List Value → World → Prop} {env : List Value} {w : World} : h64_3.wp F Q env w = HC.wp F (.seq (.reg (.done [(4, (.cst (.int .i64 143)))] none)) .ret) Q env w := rfl
def h64_4 : HC := (.seq (.br (.chk none (.bin .neq) (.cons (.inp 7) (.cons (.cst (.int .i64 0)) .nil)) (.done [] (some (.op (.bin .neq) (.cons (.inp 7) (.cons (.cst (.int .i64 0)) .nil)))))) h64_3 .skip) h64_2)
@[simp] theorem h64_4_wp {P : Program} {F : PF P} {Q : EX → List Value → World → Prop} {env : List Value} {w : World} : h64_4.wp F Q env w = HC.wp F (.seq (.br (.chk none (.bin .neq) (.cons (.inp 7) (.cons (.cst (.int .i64 0)) .nil)) (.done [] (some (.op (.bin .neq) (.cons (.inp 7) (.cons (.cst (.int .i64 0)) .nil)))))) h64_3 .skip) h64_2) Q env w := rfl
def h64_5 : HC := (.seq (.reg (.chk none .chkp (.cons (.inp 0) .nil) (.chk none (.fld 2) (.cons (.op .chkp (.cons (.inp 0) .nil)) .nil) (.eff (.ld false 1) (.cons (.op (.fld 2) (.cons (.op .chkp (.cons (.inp 0) .nil)) .nil)) .nil) (.chk none (.idxL 2) (.cons (.bv 0) (.cons (.inp 1) .nil)) (.chk none (.fld 1) (.cons (.op (.idxL 2) (.cons (.bv 0) (.cons (.inp 1) .nil))) .nil) (.eff (.ld false 1) (.cons (.op (.fld 1) (.cons (.op (.idxL 2) (.cons (.bv 0) (.cons (.inp 1) .nil))) .nil)) .nil) (.eff (.call 53) (.cons (.bv 1) (.cons (.inp 3) .nil)) (.chk none (.ext 0) (.cons (.bv 2) .nil) (.chk none (.ext 1) (.cons (.bv 2) .nil) (.done [(6, (.op (.ext 0) (.cons (.bv 2) .nil))), (7, (.op (.ext 1) (.cons (.bv 2) .nil)))] none))))))))))) h64_4)
@[simp] theorem h64_5_wp {P : Program} {F : PF P} {Q : EX → List Value → World → Prop} {env : List Value} {w : World} : h64_5.wp F Q env w = HC.wp F (.seq (.reg (.chk none .chkp (.cons (.inp 0) .nil) (.chk none (.fld 2) (.cons (.op .chkp (.cons (.inp 0) .nil)) .nil) (.eff (.ld false 1) (.cons (.op (.fld 2) (.cons (.op .chkp (.cons (.inp 0) .nil)) .nil)) .nil) (.chk none (.idxL 2) (.cons (.bv 0) (.cons (.inp 1) .nil)) (.chk none (.fld 1) (.cons (.op (.idxL 2) (.cons (.bv 0) (.cons (.inp 1) .nil))) .nil) (.eff (.ld false 1) (.cons (.op (.fld 1) (.cons (.op (.idxL 2) (.cons (.bv 0) (.cons (.inp 1) .nil))) .nil)) .nil) (.eff (.call 53) (.cons (.bv 1) (.cons (.inp 3) .nil)) (.chk none (.ext 0) (.cons (.bv 2) .nil) (.chk none (.ext 1) (.cons (.bv 2) .nil) (.done [(6, (.op (.ext 0) (.cons (.bv 2) .nil))), (7, (.op (.ext 1) (.cons (.bv 2) .nil)))] none))))))))))) h64_4) Q env w := rfl
def h64_6 : HC := (.seq (.reg (.done [(4, (.cst (.int .i64 2)))] none)) .ret)
@[simp] theorem h64_6_wp {P : Program} {F : PF P} {Q : EX → List Value → World → Prop} {env : List Value} {w : World} : h64_6.wp F Q env w = HC.wp F (.seq (.reg (.done [(4, (.cst (.int .i64 2)))] none)) .ret) Q env w := rfl
def h64_7 : HC := (.seq (.br (.chk none (.bin .eql) (.cons (.inp 3) (.cons (.cst (.int .u64 0)) .nil)) (.done [] (some (.op (.bin .eql) (.cons (.inp 3) (.cons (.cst (.int .u64 0)) .nil)))))) h64_6 .skip) h64_5)
@[simp] theorem h64_7_wp {P : Program} {F : PF P} {Q : EX → List Value → World → Prop} {env : List Value} {w : World} : h64_7.wp F Q env w = HC.wp F (.seq (.br (.chk none (.bin .eql) (.cons (.inp 3) (.cons (.cst (.int .u64 0)) .nil)) (.done [] (some (.op (.bin .eql) (.cons (.inp 3) (.cons (.cst (.int .u64 0)) .nil)))))) h64_6 .skip) h64_5) Q env w := rfl
def h64_8 : HC := (.seq (.reg (.done [(4, (.cst (.int .i64 234)))] none)) .ret)
@[simp] theorem h64_8_wp {P : Program} {F : PF P} {Q : EX → List Value → World → Prop} {env : List Value} {w : World} : h64_8.wp F Q env w = HC.wp F (.seq (.reg (.done [(4, (.cst (.int .i64 234)))] none)) .ret) Q env w := rfl
def h64_9 : HC := (.seq (.br (.chk none (.bin .eql) (.cons (.inp 1) (.cons (.inp 2) .nil)) (.done [] (some (.op (.bin .eql) (.cons (.inp 1) (.cons (.inp 2) .nil)))))) h64_8 .skip) h64_7)
@[simp] theorem h64_9_wp {P : Program} {F : PF P} {Q : EX → List Value → World → Prop} {env : List Value} {w : World} : h64_9.wp F Q env w = HC.wp F (.seq (.br (.chk none (.bin .eql) (.cons (.inp 1) (.cons (.inp 2) .nil)) (.done [] (some (.op (.bin .eql) (.cons (.inp 1) (.cons (.inp 2) .nil)))))) h64_8 .skip) h64_7) Q env w := rfl
def h64_10 : HC := (.seq (.reg (.done [(4, (.inp 5))] none)) .ret)
@[simp] theorem h64_10_wp {P : Program} {F : PF P} {Q : EX → List Value → World → Prop} {env : List Value} {w : World} : h64_10.wp F Q env w = HC.wp F (.seq (.reg (.done [(4, (.inp 5))] none)) .ret) Q env w := rfl
def h64_11 : HC := (.seq (.br (.chk none (.bin .neq) (.cons (.inp 5) (.cons (.cst (.int .i64 0)) .nil)) (.done [] (some (.op (.bin .neq) (.cons (.inp 5) (.cons (.cst (.int .i64 0)) .nil)))))) h64_10 .skip) h64_9)
@[simp] theorem h64_11_wp {P : Program} {F : PF P} {Q : EX → List Value → World → Prop} {env : List Value} {w : World} : h64_11.wp F Q env w = HC.wp F (.seq (.br (.chk none (.bin .neq) (.cons (.inp 5) (.cons (.cst (.int .i64 0)) .nil)) (.done [] (some (.op (.bin .neq) (.cons (.inp 5) (.cons (.cst (.int .i64 0)) .nil)))))) h64_10 .skip) h64_9) Q env w := rfl
def h64_12 : HC := (.seq (.reg (.eff (.call 75) (.cons (.inp 0) (.cons (.inp 1) .nil)) (.eff (.call 75) (.cons (.inp 0) (.cons (.inp 2) .nil)) (.eff (.bi .max #[25, 25] 25 #[false, false]) (.cons (.bv 0) (.cons (.bv 1) .nil)) (.done [(5, (.bv 2))] none))))) h64_11)
@[simp] theorem h64_12_wp {P : Program} {F : PF P} {Q : EX → List Value → World → Prop} {env : List Value} {w : World} : h64_12.wp F Q env w = HC.wp F (.seq (.reg (.eff (.call 75) (.cons (.inp 0) (.cons (.inp 1) .nil)) (.eff (.call 75) (.cons (.inp 0) (.cons (.inp 2) .nil)) (.eff (.bi .max #[25, 25] 25 #[false, false]) (.cons (.bv 0) (.cons (.bv 1) .nil)) (.done [(5, (.bv 2))] none))))) h64_11) Q env w := rfl
def l64 : Lifted := ⟨[0, 1, 2, 3, 8, 9, 10, 11], 62, [.slot 4], (.seq (.reg (.done [(4, (.cst (.int .i64 0)))] none)) h64_12)⟩
theorem l64_ok : liftFn U0 64 400 = some l64 := by kernel_rfl

-- (*bazaar/purse.Purse).Take
def h34_0 : HC := (.seq (.reg (.done [(3, (.cst (.int .i64 0)))] none)) .ret)
@[simp] theorem h34_0_wp {P : Program} {F : PF P} {Q : EX → List Value → World → Prop} {env : List Value} {w : World} : h34_0.wp F Q env w = HC.wp F (.seq (.reg (.done [(3, (.cst (.int .i64 0)))] none)) .ret) Q env w := rfl
def h34_1 : HC := (.seq (.reg (.chk none .chkp (.cons (.inp 0) .nil) (.chk none (.fld 4) (.cons (.op .chkp (.cons (.inp 0) .nil)) .nil) (.eff (.ld false 1) (.cons (.op (.fld 4) (.cons (.op .chkp (.cons (.inp 0) .nil)) .nil)) .nil) (.chk none (.bin .add) (.cons (.bv 0) (.cons (.inp 2) .nil)) (.chk none .chkp (.cons (.inp 0) .nil) (.chk none (.fld 4) (.cons (.op .chkp (.cons (.inp 0) .nil)) .nil) (.eff (.st 1) (.cons (.op (.fld 4) (.cons (.op .chkp (.cons (.inp 0) .nil)) .nil)) (.cons (.op (.bin .add) (.cons (.bv 0) (.cons (.inp 2) .nil))) .nil)) (.done [] none))))))))) h34_0)
@[simp] theorem h34_1_wp {P : Program} {F : PF P} {Q : EX → List Value → World → Prop} {env : List Value} {w : World} : h34_1.wp F Q env w = HC.wp F (.seq (.reg (.chk none .chkp (.cons (.inp 0) .nil) (.chk none (.fld 4) (.cons (.op .chkp (.cons (.inp 0) .nil)) .nil) (.eff (.ld false 1) (.cons (.op (.fld 4) (.cons (.op .chkp (.cons (.inp 0) .nil)) .nil)) .nil) (.chk none (.bin .add) (.cons (.bv 0) (.cons (.inp 2) .nil)) (.chk none .chkp (.cons (.inp 0) .nil) (.chk none (.fld 4) (.cons (.op .chkp (.cons (.inp 0) .nil)) .nil) (.eff (.st 1) (.cons (.op (.fld 4) (.cons (.op .chkp (.cons (.inp 0) .nil)) .nil)) (.cons (.op (.bin .add) (.cons (.bv 0) (.cons (.inp 2) .nil))) .nil)) (.done [] none))))))))) h34_0) Q env w := rfl
def h34_2 : HC := (.seq (.reg (.chk none .chkp (.cons (.inp 0) .nil) (.chk none (.fld 2) (.cons (.op .chkp (.cons (.inp 0) .nil)) .nil) (.eff (.ld false 1) (.cons (.op (.fld 2) (.cons (.op .chkp (.cons (.inp 0) .nil)) .nil)) .nil) (.chk none (.idxL 2) (.cons (.bv 0) (.cons (.inp 1) .nil)) (.chk none (.fld 1) (.cons (.op (.idxL 2) (.cons (.bv 0) (.cons (.inp 1) .nil))) .nil) (.eff (.st 1) (.cons (.op (.fld 1) (.cons (.op (.idxL 2) (.cons (.bv 0) (.cons (.inp 1) .nil))) .nil)) (.cons (.inp 5) .nil)) (.done [] none)))))))) h34_1)
@[simp] theorem h34_2_wp {P : Program} {F : PF P} {Q : EX → List Value → World → Prop} {env : List Value} {w : World} : h34_2.wp F Q env w = HC.wp F (.seq (.reg (.chk none .chkp (.cons (.inp 0) .nil) (.chk none (.fld 2) (.cons (.op .chkp (.cons (.inp 0) .nil)) .nil) (.eff (.ld false 1) (.cons (.op (.fld 2) (.cons (.op .chkp (.cons (.inp 0) .nil)) .nil)) .nil) (.chk none (.idxL 2) (.cons (.bv 0) (.cons (.inp 1) .nil)) (.chk none (.fld 1) (.cons (.op (.idxL 2) (.cons (.bv 0) (.cons (.inp 1) .nil))) .nil) (.eff (.st 1) (.cons (.op (.fld 1) (.cons (.op (.idxL 2) (.cons (.bv 0) (.cons (.inp 1) .nil))) .nil)) (.cons (.inp 5) .nil)) (.done [] none)))))))) h34_1) Q env w := rfl
def h34_3 : HC := (.seq (.reg (.done [(3, (.cst (.int .i64 143)))] none)) .ret)
@[simp] theorem h34_3_wp {P : Program} {F : PF P} {Q : EX → List Value → World → Prop} {env : List Value} {w : World} : h34_3.wp F Q env w = HC.wp F (.seq (.reg (.done [(3, (.cst (.int .i64 143)))] none)) .ret) Q env w := rfl
def h34_4 : HC := (.seq (.br (.chk none (.bin .neq) (.cons (.inp 6) (.cons (.cst (.int .i64 0)) .nil)) (.done [] (some (.op (.bin .neq) (.cons (.inp 6) (.cons (.cst (.int .i64 0)) .nil)))))) h34_3 .skip) h34_2)
@[simp] theorem h34_4_wp {P : Program} {F : PF P} {Q : EX → List Value → World → Prop} {env : List Value} {w : World} : h34_4.wp F Q env w = HC.wp F (.seq (.br (.chk none (.bin .neq) (.cons (.inp 6) (.cons (.cst (.int .i64 0)) .nil)) (.done [] (some (.op (.bin .neq) (.cons (.inp 6) (.cons (.cst (.int .i64 0)) .nil)))))) h34_3 .skip) h34_2) Q env w := rfl
def h34_5 : HC := (.seq (.reg (.chk none .chkp (.cons (.inp 0) .nil) (.chk none (.fld 2) (.cons (.op .chkp (.cons (.inp 0) .nil)) .nil) (.eff (.ld false 1) (.cons (.op (.fld 2) (.cons (.op .chkp (.cons (.inp 0) .nil)) .nil)) .nil) (.chk none (.idxL 2) (.cons (.bv 0) (.cons (.inp 1) .nil)) (.chk none (.fld 1) (.cons (.op (.idxL 2) (.cons (.bv 0) (.cons (.inp 1) .nil))) .nil) (.eff (.ld false 1) (.cons (.op (.fld 1) (.cons (.op (.idxL 2) (.cons (.bv 0) (.cons (.inp 1) .nil))) .nil)) .nil) (.eff (.call 53) (.cons (.bv 1) (.cons (.inp 2) .nil)) (.chk none (.ext 0) (.cons (.bv 2) .nil) (.chk none (.ext 1) (.cons (.bv 2) .nil) (.done [(5, (.op (.ext 0) (.cons (.bv 2) .nil))), (6, (.op (.ext 1) (.cons (.bv 2) .nil)))] none))))))))))) h34_4)
@[simp] theorem h34_5_wp {P : Program} {F : PF P} {Q : EX → List Value → World → Prop} {env : List Value} {w : World} : h34_5.wp F Q env w = HC.wp F (.seq (.reg (.chk none .chkp (.cons (.inp 0) .nil) (.chk none (.fld 2) (.cons (.op .chkp (.cons (.inp 0) .nil)) .nil) (.eff (.ld false 1) (.cons (.op (.fld 2) (.cons (.op .chkp (.cons (.inp 0) .nil)) .nil)) .nil) (.chk none (.idxL 2) (.cons (.bv 0) (.cons (.inp 1) .nil)) (.chk none (.fld 1) (.cons (.op (.idxL 2) (.cons (.bv 0) (.cons (.inp 1) .nil))) .nil) (.eff (.ld false 1) (.cons (.op (.fld 1) (.cons (.op (.idxL 2) (.cons (.bv 0) (.cons (.inp 1) .nil))) .nil)) .nil) (.eff (.call 53) (.cons (.bv 1) (.cons (.inp 2) .nil)) (.chk none (.ext 0) (.cons (.bv 2) .nil) (.chk none (.ext 1) (.cons (.bv 2) .nil) (.done [(5, (.op (.ext 0) (.cons (.bv 2) .nil))), (6, (.op (.ext 1) (.cons (.bv 2) .nil)))] none))))))))))) h34_4) Q env w := rfl
def h34_6 : HC := (.seq (.reg (.done [(3, (.inp 4))] none)) .ret)
@[simp] theorem h34_6_wp {P : Program} {F : PF P} {Q : EX → List Value → World → Prop} {env : List Value} {w : World} : h34_6.wp F Q env w = HC.wp F (.seq (.reg (.done [(3, (.inp 4))] none)) .ret) Q env w := rfl
def h34_7 : HC := (.seq (.br (.chk none (.bin .neq) (.cons (.inp 4) (.cons (.cst (.int .i64 0)) .nil)) (.done [] (some (.op (.bin .neq) (.cons (.inp 4) (.cons (.cst (.int .i64 0)) .nil)))))) h34_6 .skip) h34_5)
@[simp] theorem h34_7_wp {P : Program} {F : PF P} {Q : EX → List Value → World → Prop} {env : List Value} {w : World} : h34_7.wp F Q env w = HC.wp F (.seq (.br (.chk none (.bin .neq) (.cons (.inp 4) (.cons (.cst (.int .i64 0)) .nil)) (.done [] (some (.op (.bin .neq) (.cons (.inp 4) (.cons (.cst (.int .i64 0)) .nil)))))) h34_6 .skip) h34_5) Q env w := rfl
def h34_8 : HC := (.seq (.reg (.eff (.call 75) (.cons (.inp 0) (.cons (.inp 1) .nil)) (.done [(4, (.bv 0))] none))) h34_7)
@[simp] theorem h34_8_wp {P : Program} {F : PF P} {Q : EX → List Value → World → Prop} {env : List Value} {w : World} : h34_8.wp F Q env w = HC.wp F (.seq (.reg (.eff (.call 75) (.cons (.inp 0) (.cons (.inp 1) .nil)) (.done [(4, (.bv 0))] none))) h34_7) Q env w := rfl
def l34 : Lifted := ⟨[0, 1, 2, 6, 7, 8, 9], 47, [.slot 3], (.seq (.reg (.done [(3, (.cst (.int .i64 0)))] none)) h34_8)⟩
theorem l34_ok : liftFn U0 34 400 = some l34 := by kernel_rfl

-- (*bazaar/purse.Purse).Put
def h35_0 : HC := (.seq (.reg (.done [(3, (.cst (.int .i64 0)))] none)) .ret)
@[simp] theorem h35_0_wp {P : Program} {F : PF P} {Q : EX → List Value → World → Prop} {env : List Value} {w : World} : h35_0.wp F Q env w = HC.wp F (.seq (.reg (.done [(3, (.cst (.int .i64 0)))] none)) .ret) Q env w := rfl
def h35_1 : HC := (.seq (.reg (.chk none .chkp (.cons (.inp 0) .nil) (.chk none (.fld 2) (.cons (.op .chkp (.cons (.inp 0) .nil)) .nil) (.eff (.ld false 1) (.cons (.op (.fld 2) (.cons (.op .chkp (.cons (.inp 0) .nil)) .nil)) .nil) (.chk none (.idxL 2) (.cons (.bv 0) (.cons (.inp 1) .nil)) (.chk none (.fld 1) (.cons (.op (.idxL 2) (.cons (.bv 0) (.cons (.inp 1) .nil))) .nil) (.eff (.ld false 1) (.cons (.op (.fld 1) (.cons (.op (.idxL 2) (.cons (.bv 0) (.cons (.inp 1) .nil))) .nil)) .nil) (.chk none (.bin .add) (.cons (.bv 1) (.cons (.inp 2) .nil)) (.chk none (.idxL 2) (.cons (.bv 0) (.cons (.inp 1) .nil)) (.chk none (.fld 1) (.cons (.op (.idxL 2) (.cons (.bv 0) (.cons (.inp 1) .nil))) .nil) (.eff (.st 1) (.cons (.op (.fld 1) (.cons (.op (.idxL 2) (.cons (.bv 0) (.cons (.inp 1) .nil))) .nil)) (.cons (.op (.bin .add) (.cons (.bv 1) (.cons (.inp 2) .nil))) .nil)) (.done [] none)))))))))))) h35_0)
@[simp] theorem h35_1_wp {P : Program} {F : PF P} {Q : EX → List Value → World → Prop} {env : List Value} {w : World} : h35_1.wp F Q env w = HC.wp F (.seq (.reg (.chk none .chkp (.cons (.inp 0) .nil) (.chk none (.fld 2) (.cons (.op .chkp (.cons (.inp 0) .nil)) .nil) (.eff (.ld false 1) (.cons (.op (.fld 2) (.cons (.op .chkp (.cons (.inp 0) .nil)) .nil)) .nil) (.chk none (.idxL 2) (.cons (.bv 0) (.cons (.inp 1) .nil)) (.chk none (.fld 1) (.cons (.op (.idxL 2) (.cons (.bv 0) (.cons (.inp 1) .nil))) .nil) (.eff (.ld false 1) (.cons (.op (.fld 1) (.cons (.op (.idxL 2) (.cons (.bv 0) (.cons (.inp 1) .nil))) .nil)) .nil) (.chk none (.bin .add) (.cons (.bv 1) (.cons (.inp 2) .nil)) (.chk none (.idxL 2) (.cons (.bv 0) (.cons (.inp 1) .nil)) (.chk none (.fld 1) (.cons (.op (.idxL 2) (.cons (.bv 0) (.cons (.inp 1) .nil))) .nil) (.eff (.st 1) (.cons (.op (.fld 1) (.cons (.op (.idxL 2) (.cons (.bv 0) (.cons (.inp 1) .nil))) .nil)) (.cons (.op (.bin .add) (.cons (.bv 1) (.cons (.inp 2) .nil))) .nil)) (.done [] none)))))))))))) h35_0) Q env w := rfl
def h35_2 : HC := (.seq (.reg (.chk none .chkp (.cons (.inp 0) .nil) (.chk none (.fld 4) (.cons (.op .chkp (.cons (.inp 0) .nil)) .nil) (.eff (.st 1) (.cons (.op (.fld 4) (.cons (.op .chkp (.cons (.inp 0) .nil)) .nil)) (.cons (.inp 5) .nil)) (.done [] none))))) h35_1)
@[simp] theorem h35_2_wp {P : Program} {F : PF P} {Q : EX → List Value → World → Prop} {env : List Value} {w : World} : h35_2.wp F Q env w = HC.wp F (.seq (.reg (.chk none .chkp (.cons (.inp 0) .nil) (.chk none (.fld 4) (.cons (.op .chkp (.cons (.inp 0) .nil)) .nil) (.eff (.st 1) (.cons (.op (.fld 4) (.cons (.op .chkp (.cons (.inp 0) .nil)) .nil)) (.cons (.inp 5) .nil)) (.done [] none))))) h35_1) Q env w := rfl
def h35_3 : HC := (.seq (.reg (.done [(3, (.cst (.int .i64 143)))] none)) .ret)
@[simp] theorem h35_3_wp {P : Program} {F : PF P} {Q : EX → List Value → World → Prop} {env : List Value} {w : World} : h35_3.wp F Q env w = HC.wp F (.seq (.reg (.done [(3, (.cst (.int .i64 143)))] none)) .ret) Q env w := rfl
def h35_4 : HC := (.seq (.br (.chk none (.bin .neq) (.cons (.inp 6) (.cons (.cst (.int .i64 0)) .nil)) (.done [] (some (.op (.bin .neq) (.cons (.inp 6) (.cons (.cst (.int .i64 0)) .nil)))))) h35_3 .skip) h35_2)
@[simp] theorem h35_4_wp {P : Program} {F : PF P} {Q : EX → List Value → World → Prop} {env : List Value} {w : World} : h35_4.wp F Q env w = HC.wp F (.seq (.br (.chk none (.bin .neq) (.cons (.inp 6) (.cons (.cst (.int .i64 0)) .nil)) (.done [] (some (.op (.bin .neq) (.cons (.inp 6) (.cons (.cst (.int .i64 0)) .nil)))))) h35_3 .skip) h35_2) Q env w := rfl
def h35_5 : HC := (.seq (.reg (.chk none .chkp (.cons (.inp 0) .nil) (.chk none (.fld 4) (.cons (.op .chkp (.cons (.inp 0) .nil)) .nil) (.eff (.ld false 1) (.cons (.op (.fld 4) (.cons (.op .chkp (.cons (.inp 0) .nil)) .nil)) .nil) (.eff (.call 53) (.cons (.bv 0) (.cons (.inp 2) .nil)) (.chk none (.ext 0) (.cons (.bv 1) .nil) (.chk none (.ext 1) (.cons (.bv 1) .nil) (.done [(5, (.op (.ext 0) (.cons (.bv 1) .nil))), (6, (.op (.ext 1) (.cons (.bv 1) .nil)))] none)))))))) h35_4)
@[simp] theorem h35_5_wp {P : Program} {F : PF P} {Q : EX → List Value → World → Prop} {env : List Value} {w : World} : h35_5.wp F Q env w = HC.wp F (.seq (.reg (.chk none .chkp (.cons (.inp 0) .nil) (.chk none (.fld 4) (.cons (.op .chkp (.cons (.inp 0) .nil)) .nil) (.eff (.ld false 1) (.cons (.op (.fld 4) (.cons (.op .chkp (.cons (.inp 0) .nil)) .nil)) .nil) (.eff (.call 53) (.cons (.bv 0) (.cons (.inp 2) .nil)) (.chk none (.ext 0) (.cons (.bv 1) .nil) (.chk none (.ext 1) (.cons (.bv 1) .nil) (.done [(5, (.op (.ext 0) (.cons (.bv 1) .nil))), (6, (.op (.ext 1) (.cons (.bv 1) .nil)))] none)))))))) h35_4) Q env w := rfl
def h35_6 : HC := (.seq (.reg (.done [(3, (.inp 4))] none)) .ret)
@[simp] theorem h35_6_wp {P : Program} {F : PF P} {Q : EX → List Value → World → Prop} {env : List Value} {w : World} : h35_6.wp F Q env w = HC.wp F (.seq (.reg (.done [(3, (.inp 4))] none)) .ret) Q env w := rfl
def h35_7 : HC := (.seq (.br (.chk none (.bin .neq) (.cons (.inp 4) (.cons (.cst (.int .i64 0)) .nil)) (.done [] (some (.op (.bin .neq) (.cons (.inp 4) (.cons (.cst (.int .i64 0)) .nil)))))) h35_6 .skip) h35_5)
@[simp] theorem h35_7_wp {P : Program} {F : PF P} {Q : EX → List Value → World → Prop} {env : List Value} {w : World} : h35_7.wp F Q env w = HC.wp F (.seq (.br (.chk none (.bin .neq) (.cons (.inp 4) (.cons (.cst (.int .i64 0)) .nil)) (.done [] (some (.op (.bin .neq) (.cons (.inp 4) (.cons (.cst (.int .i64 0)) .nil)))))) h35_6 .skip) h35_5) Q env w := rfl
def h35_8 : HC := (.seq (.reg (.eff (.call 75) (.cons (.inp 0) (.cons (.inp 1) .nil)) (.done [(4, (.bv 0))] none))) h35_7)
@[simp] theorem h35_8_wp {P : Program} {F : PF P} {Q : EX → List Value → World → Prop} {env : List Value} {w : World} : h35_8.wp F Q env w = HC.wp F (.seq (.reg (.eff (.call 75) (.cons (.inp 0) (.cons (.inp 1) .nil)) (.done [(4, (.bv 0))] none))) h35_7) Q env w := rfl
def l35 : Lifted := ⟨[0, 1, 2, 6, 7, 8, 9], 43, [.slot 3], (.seq (.reg (.done [(3, (.cst (.int .i64 0)))] none)) h35_8)⟩
theorem l35_ok : liftFn U0 35 400 = some l35 := by kernel_rfl

-- (*bazaar/purse.Purse).Get
def h36_0 : HC := (.seq (.reg (.chk none .chkp (.cons (.inp 0) .nil) (.chk none (.fld 2) (.cons (.op .chkp (.cons (.inp 0) .nil)) .nil) (.eff (.ld false 1) (.cons (.op (.fld 2) (.cons (.op .chkp (.cons (.inp 0) .nil)) .nil)) .nil) (.chk none (.idxL 2) (.cons (.bv 0) (.cons (.inp 1) .nil)) (.eff (.ld true 2) (.cons (.op (.idxL 2) (.cons (.bv 0) (.cons (.inp 1) .nil))) .nil) (.eff (.st 2) (.cons (.inp 2) (.cons (.bv 1) .nil)) (.done [(3, (.cst (.int .i64 0)))] none)))))))) .ret)
@[simp] theorem h36_0_wp {P : Program} {F : PF P} {Q : EX → List Value → World → Prop} {env : List Value} {w : World} : h36_0.wp F Q env w = HC.wp F (.seq (.reg (.chk none .chkp (.cons (.inp 0) .nil) (.chk none (.fld 2) (.cons (.op .chkp (.cons (.inp 0) .nil)) .nil) (.eff (.ld false 1) (.cons (.op (.fld 2) (.cons (.op .chkp (.cons (.inp 0) .nil)) .nil)) .nil) (.chk none (.idxL 2) (.cons (.bv 0) (.cons (.inp 1) .nil)) (.eff (.ld true 2) (.cons (.op (.idxL 2) (.cons (.bv 0) (.cons (.inp 1) .nil))) .nil) (.eff (.st 2) (.cons (.inp 2) (.cons (.bv 1) .nil)) (.done [(3, (.cst (.int .i64 0)))] none)))))))) .ret) Q env w := rfl
def h36_1 : HC := (.seq (.reg (.chk none (.build #[(.string ⟨#[]⟩), (.int .u64 0)] [(0, 1), (1, 1)] []) .nil (.eff (.st 2) (.cons (.inp 2) (.cons (.op (.build #[(.string ⟨#[]⟩), (.int .u64 0)] [(0, 1), (1, 1)] []) .nil) .nil)) (.done [(3, (.inp 4))] none)))) .ret)
@[simp] theorem h36_1_wp {P : Program} {F : PF P} {Q : EX → List Value → World → Prop} {env : List Value} {w : World} : h36_1.wp F Q env w = HC.wp F (.seq (.reg (.chk none (.build #[(.string ⟨#[]⟩), (.int .u64 0)] [(0, 1), (1, 1)] []) .nil (.eff (.st 2) (.cons (.inp 2) (.cons (.op (.build #[(.string ⟨#[]⟩), (.int .u64 0)] [(0, 1), (1, 1)] []) .nil) .nil)) (.done [(3, (.inp 4))] none)))) .ret) Q env w := rfl
def h36_2 : HC := (.seq (.br (.chk none (.bin .neq) (.cons (.inp 4) (.cons (.cst (.int .i64 0)) .nil)) (.done [] (some (.op (.bin .neq) (.cons (.inp 4) (.cons (.cst (.int .i64 0)) .nil)))))) h36_1 .skip) h36_0)
@[simp] theorem h36_2_wp {P : Program} {F : PF P} {Q : EX → List Value → World → Prop} {env : List Value} {w : World} : h36_2.wp F Q env w = HC.wp F (.seq (.br (.chk none (.bin .neq) (.cons (.inp 4) (.cons (.cst (.int .i64 0)) .nil)) (.done [] (some (.op (.bin .neq) (.cons (.inp 4) (.cons (.cst (.int .i64 0)) .nil)))))) h36_1 .skip) h36_0) Q env w := rfl
def h36_3 : HC := (.seq (.reg (.eff (.call 75) (.cons (.inp 0) (.cons (.inp 1) .nil)) (.done [(4, (.bv 0))] none))) h36_2)
@[simp] theorem h36_3_wp {P : Program} {F : PF P} {Q : EX → List Value → World → Prop} {env : List Value} {w : World} : h36_3.wp F Q env w = HC.wp F (.seq (.reg (.eff (.call 75) (.cons (.inp 0) (.cons (.inp 1) .nil)) (.done [(4, (.bv 0))] none))) h36_2) Q env w := rfl
def l36 : Lifted := ⟨[0, 1, 4, 5, 6], 21, [.cell 2 true 2, .slot 3], (.seq (.reg (.eff (.new 66 (.agg #[(.string ⟨#[]⟩), (.int .u64 0)])) .nil (.done [(2, (.bv 0)), (3, (.cst (.int .i64 0)))] none))) h36_3)⟩
theorem l36_ok : liftFn U0 36 400 = some l36 := by kernel_rfl


theorem account_spec (p : Nat) (P : Ps) (n : Int) (w0 w : World) (A : Asn) (s : St w0 (A * pur p P) w) :
    CallW Try.prog 75 [.pointer (some ⟨p, 0, none⟩), .int .i64 n] (fun r w' => r = .int .i64 (accE P.rows n) ∧ St w0 (A * pur p P) w') w := by
  refine callW_of_lift l75_ok (by simp [l75]) ?_
  simp [l75]
  obtain ⟨m, v, s1⟩ := popen s
  obtain ⟨a, cap, rfl, _⟩ := s1.own_val
  by_cases h : n < 0
  · simp [h]
    rw [accE, if_neg (by omega)]
    exact ⟨rfl, s⟩
  · simp [h]
    refine eff_ldc (v := .slice a P.rows.length cap) (by rw [cell_of s1.drop.drop.look]; rfl) ?_
    simp
    refine cndI (fun h2 => ?_) (fun h2 => ?_)
    · simp at h2
      simp
      rw [accE, if_neg (by omega)]
      exact ⟨rfl, s⟩
    · simp at h2
      simp
      rw [accE, if_pos (by omega)]
      exact ⟨rfl, s⟩
theorem known_p (p : Nat) (P : Ps) (m : Nat) (v : Value) (x : List UInt8) (w0 w : World) (A : Asn) (hx : x.length ≤ 1048576) (s : St w0 (A * pt4 p P m v * mpt m P.rows) w) :
    CallW Try.prog 47 [.pointer (some ⟨p, 0, none⟩), .string (mk x)] (fun r w' => r = .tuple #[.int .i64 (askN (keyF x) (keys P.rows)), .bool (askB (keyF x) (keys P.rows))] ∧ St w0 (A * pt4 p P m v * mpt m P.rows) w') w :=
  known_spec p _ _ m (keys P.rows) _ x w0 w A rfl hx s
theorem enter_p (p : Nat) (P : Ps) (m : Nat) (v : Value) (x : List UInt8) (l : List Ac) (w0 w : World) (A : Asn) (hx : x.length ≤ 1048576) (hn : askB (keyF x) (keys l) = false) (s : St w0 (A * pt4 p P m v * mpt m l) w) :
    CallW Try.prog 48 [.pointer (some ⟨p, 0, none⟩), .string (mk x), .int .i64 (l.length : Int)] (fun r w' => St w0 (A * pt4 p P m v * mpt m (l ++ [⟨x, 0⟩])) w') w := by
  have e1 : ((keys l).length : Int) = l.length := by simp [keys]
  have e2 : keys (l ++ [⟨x, 0⟩]) = keys l ++ [keyF x] := by simp [keys]
  rw [← e1]
  show CallW _ _ _ (fun r w' => St w0 (A * pt4 p P m v * pt m (.map (mapE (keys (l ++ [⟨x, 0⟩]))) (keys (l ++ [⟨x, 0⟩])).length)) w') _
  rw [e2]
  exact enter_spec p _ _ m (keys l) x w0 w A rfl hx (by simpa [askB] using hn) s
def openF (P : Ps) (x : List UInt8) : Int × Int × Ps :=
  if (checkF x).2 = 0 then
    if askB (keyF x) (keys P.rows) = true then (0, 140, P)
    else if (P.rows.length : Int) = P.lim then (0, 141, P)
    else ((P.rows.length : Int), 0, { P with rows := P.rows ++ [⟨x, 0⟩] })
  else (0, (checkF x).2, P)
theorem Open_spec (p : Nat) (P : Ps) (x : List UInt8) (w0 w : World) (A : Asn) (hx : x.length ≤ 1048576) (hl : P.rows.length ≤ 1048576) (s : St w0 (A * pur p P) w) :
    CallW Try.prog 13 [.pointer (some ⟨p, 0, none⟩), .string (mk x)] (fun r w' => r = .tuple #[.int .i64 (openF P x).1, .int .i64 (openF P x).2.1] ∧ St w0 (A * pur p (openF P x).2.2) w') w := by
  refine callW_of_lift l13_ok (by simp [l13]) ?_
  simp [l13]
  refine eff_call ((check_spec x w0 w _ hx s).mono ?_)
  rintro r w1 ⟨rfl, s⟩
  simp
  refine cndI (fun h => ?_) (fun h => ?_)
  · simp at h
    simp [openF, h]
    exact s
  simp at h
  simp
  obtain ⟨m, v, s1⟩ := popen s
  refine eff_call ((known_p p P m v x w0 w1 (A * own 66 2 v P.rows.length (flat P.rows)) hx (s1.to (by ac_rfl))).mono ?_)
  rintro r w2 ⟨rfl, s2⟩
  simp
  have s3 := s2.to (B := A * pt4 p P m v * mpt m P.rows * own 66 2 v P.rows.length (flat P.rows)) (by ac_rfl)
  clear s s1 s2
  refine cndI (fun h2 => ?_) (fun h2 => ?_)
  · simp [openF, h, h2]
    exact pclose s3
  simp
  obtain ⟨a, cap, rfl, _⟩ := s3.own_val
  refine eff_ldc (v := .slice a P.rows.length cap) (by rw [cell_of s3.drop.drop.look]; rfl) ?_
  simp
  refine eff_ldc (v := .int .i64 P.lim) (by rw [cell_of s3.drop.drop.look]; rfl) ?_
  simp
  refine cndI (fun h3 => ?_) (fun h3 => ?_)
  · simp at h3
    simp [openF, h, h2, h3]
    exact pclose s3
  simp at h3
  simp
  refine eff_ldc (v := .slice a P.rows.length cap) (by rw [cell_of s3.drop.drop.look]; rfl) ?_
  simp [Instr.fill, Value.cells]
  refine eff_bslV s3 rfl ?_
  intro c w3 s4
  simp
  refine eff_app (m := 1) (news := Ac.cs ⟨x, 0⟩) (s4.to (B := A * pt4 p P m (.slice a P.rows.length cap) * mpt m P.rows * pt c (.cells (Ac.cs ⟨x, 0⟩).toArray 66 (0, 0)) * own 66 2 (.slice a P.rows.length cap) P.rows.length (flat P.rows)) (by ac_rfl)) rfl s4.cells_look (cs_one _) (by decide) rfl (by unfold maxLen; omega) (by omega) ?_
  intro v2 w4 s5
  simp
  have hv2 := s5.own_val
  obtain ⟨a2, cap2, rfl, _⟩ := hv2
  refine eff_st1 (s5.to (B := A * mpt m P.rows * pt c (.cells (Ac.cs ⟨x, 0⟩).toArray 66 (0, 0)) * own 66 2 (.slice a2 (P.rows.length + 1) cap2) (P.rows.length + 1) (flat P.rows ++ Ac.cs ⟨x, 0⟩) * pt4 p P m (.slice a P.rows.length cap)) (by ac_rfl)) rfl (by simp) ?_
  intro w5 s6
  simp at s6
  simp
  have s6 : St w0 (A * mpt m P.rows * pt c (.cells (Ac.cs ⟨x, 0⟩).toArray 66 (0, 0)) * own 66 2 (.slice a2 (P.rows.length + 1) cap2) (P.rows.length + 1) (flat P.rows ++ Ac.cs ⟨x, 0⟩) * pt4 p P m (.slice a2 (P.rows.length + 1) cap2)) w5 := s6
  refine eff_call ((enter_p p P m (.slice a2 (P.rows.length + 1) cap2) x P.rows w0 w5 (A * own 66 2 (.slice a2 (P.rows.length + 1) cap2) (P.rows.length + 1) (flat P.rows ++ Ac.cs ⟨x, 0⟩)) hx h2 (St.cut (pt c (.cells (Ac.cs ⟨x, 0⟩).toArray 66 (0, 0))) s6 (by ac_rfl))).mono ?_)
  intro r w6 s7
  simp [openF, h, h2, h3]
  refine pclose (m := m) (v := .slice a2 (P.rows.length + 1) cap2) ?_
  have e : flat (P.rows ++ [⟨x, 0⟩]) = flat P.rows ++ Ac.cs ⟨x, 0⟩ := by simp [flat]
  show St w0 (A * pt4 p P m (.slice a2 (P.rows.length + 1) cap2) * mpt m (P.rows ++ [(⟨x, 0⟩ : Ac)]) * own 66 2 (.slice a2 (P.rows.length + 1) cap2) (P.rows ++ [(⟨x, 0⟩ : Ac)]).length (flat (P.rows ++ [⟨x, 0⟩]))) w6
  rw [e, List.length_append]
  exact s7.to (by ac_rfl)
/-- what is where -/
theorem acc_in {l : List Ac} {n : Int} (h : accE l n = 0) : ∃ i : Nat, n = i ∧ i < l.length := by
  unfold accE at h
  split at h
  · exact ⟨n.toNat, by omega, by omega⟩
  · cases h
theorem accE_or (l : List Ac) (n : Int) : accE l n = 0 ∨ accE l n = 142 := by unfold accE; split <;> simp
def mintF (P : Ps) (n c : Int) : Int × Ps :=
  if accE P.rows n = 0 then
    if c = 0 then (2, P) else if 4611686018427387904 - P.sup < c then (144, P)
    else (0, { P with sup := P.sup + c, rows := setC P.rows n.toNat (coin P.rows n.toNat + c) })
  else (142, P)
theorem Mint_spec (p : Nat) (P : Ps) (n c : Int) (w0 w : World) (A : Asn) (hP : Bd P) (hc : 0 ≤ c ∧ c < 18446744073709551616) (s : St w0 (A * pur p P) w) :
    CallW Try.prog 62 [.pointer (some ⟨p, 0, none⟩), .int .i64 n, .int .u64 c] (fun r w' => r = .int .i64 (mintF P n c).1 ∧ St w0 (A * pur p (mintF P n c).2) w') w := by
  refine callW_of_lift l62_ok (by simp [l62]) ?_
  simp [l62]
  have hs := hP.sup
  have hlen := hP.len
  refine eff_call ((account_spec p P n w0 w A s).mono ?_)
  rintro r w1 ⟨rfl, s⟩
  simp
  refine cndI (fun h => ?_) (fun h => ?_)
  · simp at h
    have h142 := (accE_or P.rows n).resolve_left h
    simp [mintF, h142]
    exact s
  simp at h
  obtain ⟨i, rfl, hi⟩ := acc_in h
  simp
  refine cndI (fun h1 => ?_) (fun h1 => ?_)
  · simp at h1
    simp [mintF, h, h1]
    exact s
  simp at h1
  simp
  obtain ⟨m, v, s1⟩ := popen s
  refine eff_ldc (v := .int .u64 P.sup) (by rw [cell_of s1.drop.drop.look]; rfl) ?_
  simp
  try simp (disch := omega) only [wrapu64]
  refine cndI (fun h2 => ?_) (fun h2 => ?_)
  · simp at h2
    simp [mintF, h, h1, h2]
    exact s
  simp at h2
  simp
  refine eff_ldc (v := .int .u64 P.sup) (by rw [cell_of s1.drop.drop.look]; rfl) ?_
  simp
  try simp (disch := omega) only [wrapu64]
  refine eff_st1 (s1.to (B := A * mpt m P.rows * own 66 2 v P.rows.length (flat P.rows) * pt4 p P m v) (by ac_rfl)) rfl (by simp) ?_
  intro w2 s2
  simp at s2
  simp
  obtain ⟨g, cap, hv, hcap, _⟩ := s1.own_at (by omega)
  subst hv
  have hco := hP.coins i hi
  have hci : (P.rows.getD i ⟨[], 0⟩).coins = coin P.rows i := rfl
  rw [hci] at hco
  refine eff_ldc (v := .slice (some ⟨g, 0, none⟩) P.rows.length cap) (by rw [cell_of s2.look]; rfl) ?_
  simp [hi]
  have s3 := s2.to (B := A * mpt m P.rows * pt4 p { P with sup := P.sup + c } m (.slice (some ⟨g, 0, none⟩) P.rows.length cap) * own 66 2 (.slice (some ⟨g, 0, none⟩) P.rows.length cap) P.rows.length (flat P.rows)) (by ac_rfl)
  obtain ⟨g', cap', hv, _, hcell⟩ := s3.own_at (by omega)
  cases hv
  refine eff_ldc (v := .int .u64 (coin P.rows i)) (by rw [hcell _ _ (flat_coins hi), coin_at hi]) ?_
  simp [hi]
  try simp (disch := omega) only [wrapu64]
  have hfl := flat_len P.rows
  refine eff_stC (u := .int .u64 (coin P.rows i + c)) s3 (by omega) rfl ?_
  intro w3 s4
  rw [setC_at hi] at s4
  simp [mintF, h, h1]
  rw [if_neg (by omega)]
  refine ⟨rfl, pclose (m := m) (v := .slice (some ⟨g, 0, none⟩) P.rows.length cap) ?_⟩
  rw [mpt, keys_setC, setC_len]
  exact s4.to (by ac_rfl)
end Go.HL.Pu

namespace Go.HL.Pu
open Go.HL Go.HL.Nm Go.Proofs
set_option maxRecDepth 4000
set_option linter.unusedSimpArgs false
set_option linter.unusedVariables false
theorem eff_max {P : Program} {K : Value → World → Prop} {w : World} {ats : Array TypeId} {ty : TypeId} {cs : Array Bool} {k : IntKind} {a b : Int} (hk : K (.int k (if b > a then b else a)) w) : EffW P (.bi .max ats ty cs) [.int k a, .int k b] K w := by
  intro _
  show UponW P (valS (Builtin.max_ ats ty #[.int k a, .int k b])) K w
  refine upon_val (v := .int k (if b > a then b else a)) (w' := w) ?_ hk
  simp [Builtin.max_, Builtin.max2]
theorem coin_bd {P : Ps} (hP : Bd P) {i : Nat} (h : i < P.rows.length) : 0 ≤ coin P.rows i ∧ coin P.rows i ≤ 4611686018427387904 := hP.coins i h
theorem coin_set {l : List Ac} {i j : Nat} (h : i < l.length) (c : Int) : coin (setC l i c) j = if j = i then c else coin l j := by
  unfold coin setC
  by_cases e : j = i
  · subst e; simp [h]
  · rw [if_neg e]
    simp [List.getElem?_set_ne (Ne.symm e)]
/-- a change of one account's coins -/
theorem st_coin {w0 w : World} {A : Asn} {p m g cap i : Nat} {P : Ps} {c : Int} {l : List Ac} (hi : i < l.length)
    (s : St w0 (A * own 66 2 (.slice (some ⟨g, 0, none⟩) l.length cap) l.length (flat l)) w) {K : Value → World → Prop}
    (hk : ∀ w', St w0 (A * own 66 2 (.slice (some ⟨g, 0, none⟩) (setC l i c).length cap) (setC l i c).length (flat (setC l i c))) w' → K undef w') :
    EffW Try.prog (.st 1) [.pointer (some ⟨g, i * 2 + 1, none⟩), .int .u64 c] K w := by
  have hfl := flat_len l
  refine eff_stC (u := .int .u64 c) s (by omega) rfl ?_
  intro w3 s4
  rw [setC_at hi] at s4
  refine hk w3 ?_
  rw [setC_len]
  exact s4
def payF (P : Ps) (a b c : Int) : Int × Ps :=
  if accE P.rows a = 0 ∧ accE P.rows b = 0 then
    if a = b then (234, P) else if c = 0 then (2, P) else if coin P.rows a.toNat < c then (143, P)
    else (0, { P with rows := setC (setC P.rows a.toNat (coin P.rows a.toNat - c)) b.toNat (coin P.rows b.toNat + c) })
  else (142, P)
theorem Pay_spec (p : Nat) (P : Ps) (a b c : Int) (w0 w : World) (A : Asn) (hP : Bd P) (hc : 0 ≤ c ∧ c < 18446744073709551616) (s : St w0 (A * pur p P) w) :
    CallW Try.prog 64 [.pointer (some ⟨p, 0, none⟩), .int .i64 a, .int .i64 b, .int .u64 c] (fun r w' => r = .int .i64 (payF P a b c).1 ∧ St w0 (A * pur p (payF P a b c).2) w') w := by
  refine callW_of_lift l64_ok (by simp [l64]) ?_
  simp [l64]
  have hlen := hP.len
  refine eff_call ((account_spec p P a w0 w A s).mono ?_)
  rintro r w1 ⟨rfl, s⟩
  simp
  refine eff_call ((account_spec p P b w0 w1 A s).mono ?_)
  rintro r w2 ⟨rfl, s⟩
  simp
  refine eff_max ?_
  simp
  have hor1 := accE_or P.rows a
  have hor2 := accE_or P.rows b
  by_cases hab : accE P.rows a = 0 ∧ accE P.rows b = 0
  · obtain ⟨ha, hb⟩ := hab
    obtain ⟨i, rfl, hi⟩ := acc_in ha
    obtain ⟨j, rfl, hj⟩ := acc_in hb
    simp [ha, hb]
    refine cndI (fun h => ?_) (fun h => ?_)
    · simp at h
      simp [payF, ha, hb, h]
      exact s
    simp at h
    simp
    refine cndI (fun h1 => ?_) (fun h1 => ?_)
    · simp at h1
      simp [payF, ha, hb, h, h1]
      exact s
    simp at h1
    simp
    obtain ⟨m, v, s1⟩ := popen s
    clear s
    obtain ⟨g, gcap, hv, hcap, hcell⟩ := s1.own_at (by omega)
    subst hv
    refine eff_ldc (v := .slice (some ⟨g, 0, none⟩) P.rows.length gcap) (by rw [cell_of s1.drop.drop.look]; rfl) ?_
    simp [hi]
    have hci := coin_bd hP hi
    have hcj := coin_bd hP hj
    refine eff_ldc (v := .int .u64 (coin P.rows i)) (by rw [hcell _ _ (flat_coins hi), coin_at hi]) ?_
    simp
    refine eff_call ((take_spec (coin P.rows i) c w2 (by omega) hc).mono ?_)
    rintro r w3 ⟨rfl, rfl⟩
    simp
    refine cndI (fun h2 => ?_) (fun h2 => ?_)
    · simp at h2
      simp [payF, ha, hb, h, h1, h2]
      exact pclose s1
    simp at h2
    simp [h2]
    refine eff_ldc (v := .slice (some ⟨g, 0, none⟩) P.rows.length gcap) (by rw [cell_of s1.drop.drop.look]; rfl) ?_
    simp [hi]
    rw [if_neg (by omega)]
    refine st_coin (p := p) (m := m) (P := P) hi s1 ?_
    intro w4 s2
    simp
    refine eff_ldc (v := .slice (some ⟨g, 0, none⟩) P.rows.length gcap) (by rw [cell_of s2.drop.drop.look]; rfl) ?_
    simp [hj]
    obtain ⟨g', gcap', hv, _, hcell2⟩ := s2.own_at (by rw [setC_len]; omega)
    cases hv
    have hj2 : j < (setC P.rows i (coin P.rows i - c)).length := by rw [setC_len]; exact hj
    refine eff_ldc (v := .int .u64 (coin P.rows j)) (by rw [hcell2 _ _ (flat_coins hj2), ← coin_at hj2, coin_set hi, if_neg (by omega)]) ?_
    simp [hj]
    try simp (disch := omega) only [wrapu64]
    refine st_coin (p := p) (m := m) (P := P) hj2 s2 ?_
    intro w5 s3
    simp [payF, ha, hb, h, h1]
    rw [if_neg (by omega)]
    refine ⟨rfl, pclose (m := m) (v := .slice (some ⟨g, 0, none⟩) P.rows.length gcap) ?_⟩
    rw [mpt, keys_setC, keys_setC, setC_len, setC_len]
    rw [setC_len, setC_len] at s3
    exact s3
  · have hmax : (if accE P.rows b > accE P.rows a then accE P.rows b else accE P.rows a) = 142 := by
      rcases hor1 with h1 | h1 <;> rcases hor2 with h2 | h2 <;> simp [h1, h2] at hab ⊢
    simp only [gt_iff_lt] at hmax
    simp [hmax]
    simp [payF, hab]
    exact s
def takeF (P : Ps) (n c : Int) : Int × Ps :=
  if accE P.rows n = 0 then
    if coin P.rows n.toNat < c then (143, P)
    else (0, { P with held := P.held + c, rows := setC P.rows n.toNat (coin P.rows n.toNat - c) })
  else (142, P)
theorem Take_spec (p : Nat) (P : Ps) (n c : Int) (w0 w : World) (A : Asn) (hP : Bd P) (hc : 0 ≤ c ∧ c < 18446744073709551616) (s : St w0 (A * pur p P) w) :
    CallW Try.prog 34 [.pointer (some ⟨p, 0, none⟩), .int .i64 n, .int .u64 c] (fun r w' => r = .int .i64 (takeF P n c).1 ∧ St w0 (A * pur p (takeF P n c).2) w') w := by
  refine callW_of_lift l34_ok (by simp [l34]) ?_
  simp [l34]
  have hlen := hP.len
  have hh := hP.held
  refine eff_call ((account_spec p P n w0 w A s).mono ?_)
  rintro r w1 ⟨rfl, s⟩
  simp
  refine cndI (fun h => ?_) (fun h => ?_)
  · simp at h
    have h142 := (accE_or P.rows n).resolve_left h
    simp [takeF, h142]
    exact s
  simp at h
  obtain ⟨i, rfl, hi⟩ := acc_in h
  simp
  obtain ⟨m, v, s1⟩ := popen s
  clear s
  obtain ⟨g, gcap, hv, hcap, hcell⟩ := s1.own_at (by omega)
  subst hv
  refine eff_ldc (v := .slice (some ⟨g, 0, none⟩) P.rows.length gcap) (by rw [cell_of s1.drop.drop.look]; rfl) ?_
  simp [hi]
  have hci := coin_bd hP hi
  refine eff_ldc (v := .int .u64 (coin P.rows i)) (by rw [hcell _ _ (flat_coins hi), coin_at hi]) ?_
  simp
  refine eff_call ((take_spec (coin P.rows i) c w1 (by omega) hc).mono ?_)
  rintro r w3 ⟨rfl, rfl⟩
  simp
  refine cndI (fun h2 => ?_) (fun h2 => ?_)
  · simp at h2
    simp [takeF, h, h2]
    exact pclose s1
  simp at h2
  simp [h2]
  refine eff_ldc (v := .slice (some ⟨g, 0, none⟩) P.rows.length gcap) (by rw [cell_of s1.drop.drop.look]; rfl) ?_
  simp [hi]
  rw [if_neg (by omega)]
  refine st_coin (p := p) (m := m) (P := P) hi s1 ?_
  intro w4 s2
  simp
  refine eff_ldc (v := .int .u64 P.held) (by rw [cell_of s2.drop.drop.look]; rfl) ?_
  simp
  try simp (disch := omega) only [wrapu64]
  refine eff_st1 (s2.to (B := A * mpt m P.rows * own 66 2 (.slice (some ⟨g, 0, none⟩) (setC P.rows i (coin P.rows i - c)).length gcap) (setC P.rows i (coin P.rows i - c)).length (flat (setC P.rows i (coin P.rows i - c))) * pt4 p P m (.slice (some ⟨g, 0, none⟩) P.rows.length gcap)) (by ac_rfl)) rfl (by simp) ?_
  intro w5 s3
  simp at s3
  simp [takeF, h]
  rw [if_neg (by omega)]
  refine ⟨rfl, pclose (m := m) (v := .slice (some ⟨g, 0, none⟩) P.rows.length gcap) ?_⟩
  rw [mpt, keys_setC]
  rw [setC_len] at s3 ⊢
  exact s3.to (by ac_rfl)
def putF (P : Ps) (n c : Int) : Int × Ps :=
  if accE P.rows n = 0 then
    if P.held < c then (143, P)
    else (0, { P with held := P.held - c, rows := setC P.rows n.toNat (coin P.rows n.toNat + c) })
  else (142, P)
theorem Put_spec (p : Nat) (P : Ps) (n c : Int) (w0 w : World) (A : Asn) (hP : Bd P) (hc : 0 ≤ c ∧ c < 18446744073709551616) (s : St w0 (A * pur p P) w) :
    CallW Try.prog 35 [.pointer (some ⟨p, 0, none⟩), .int .i64 n, .int .u64 c] (fun r w' => r = .int .i64 (putF P n c).1 ∧ St w0 (A * pur p (putF P n c).2) w') w := by
  refine callW_of_lift l35_ok (by simp [l35]) ?_
  simp [l35]
  have hlen := hP.len
  have hh := hP.held
  refine eff_call ((account_spec p P n w0 w A s).mono ?_)
  rintro r w1 ⟨rfl, s⟩
  simp
  refine cndI (fun h => ?_) (fun h => ?_)
  · simp at h
    have h142 := (accE_or P.rows n).resolve_left h
    simp [putF, h142]
    exact s
  simp at h
  obtain ⟨i, rfl, hi⟩ := acc_in h
  simp
  obtain ⟨m, v, s1⟩ := popen s
  clear s
  have hci := coin_bd hP hi
  refine eff_ldc (v := .int .u64 P.held) (by rw [cell_of s1.drop.drop.look]; rfl) ?_
  simp
  refine eff_call ((take_spec P.held c w1 (by omega) hc).mono ?_)
  rintro r w3 ⟨rfl, rfl⟩
  simp
  refine cndI (fun h2 => ?_) (fun h2 => ?_)
  · simp at h2
    simp [putF, h, h2]
    exact pclose s1
  simp at h2
  simp [h2]
  rw [if_neg (by omega)]
  refine eff_st1 (s1.to (B := A * mpt m P.rows * own 66 2 v P.rows.length (flat P.rows) * pt4 p P m v) (by ac_rfl)) rfl (by simp) ?_
  intro w4 s2
  simp at s2
  simp
  obtain ⟨g, gcap, hv, hcap, hcell⟩ := s1.own_at (by omega)
  subst hv
  refine eff_ldc (v := .slice (some ⟨g, 0, none⟩) P.rows.length gcap) (by rw [cell_of s2.look]; rfl) ?_
  simp [hi]
  have s3 := s2.to (B := A * mpt m P.rows * pt4 p { P with held := P.held - c } m (.slice (some ⟨g, 0, none⟩) P.rows.length gcap) * own 66 2 (.slice (some ⟨g, 0, none⟩) P.rows.length gcap) P.rows.length (flat P.rows)) (by ac_rfl)
  obtain ⟨g', cap', hv, _, hcell⟩ := s3.own_at (by omega)
  cases hv
  refine eff_ldc (v := .int .u64 (coin P.rows i)) (by rw [hcell _ _ (flat_coins hi), coin_at hi]) ?_
  simp [hi]
  try simp (disch := omega) only [wrapu64]
  refine st_coin (p := p) (m := m) (P := P) hi s3 ?_
  intro w5 s4
  simp [putF, h, h2]
  rw [if_neg (by omega)]
  refine ⟨rfl, pclose (m := m) (v := .slice (some ⟨g, 0, none⟩) P.rows.length gcap) ?_⟩
  rw [mpt, keys_setC]
  rw [setC_len] at s4 ⊢
  exact s4.to (by ac_rfl)
def getF (P : Ps) (n : Int) : Ac × Int := if accE P.rows n = 0 then (P.rows.getD n.toNat ⟨[], 0⟩, 0) else (⟨[], 0⟩, 142)
theorem Get_spec (p : Nat) (P : Ps) (n : Int) (w0 w : World) (A : Asn) (hP : P.rows.length ≤ 64) (s : St w0 (A * pur p P) w) :
    CallW Try.prog 36 [.pointer (some ⟨p, 0, none⟩), .int .i64 n] (fun r w' => r = .tuple #[.agg (getF P n).1.cs.toArray, .int .i64 (getF P n).2] ∧ St w0 (A * pur p P) w') w := by
  refine callW_of_lift l36_ok (by simp [l36]) ?_
  simp [l36]
  refine eff_new s ?_
  intro b w1 s1
  simp
  refine eff_call ((account_spec p P n w0 w1 (A * pt b (.cells (Ac.cs ⟨[], 0⟩).toArray 66 (0, 0))) (s1.to (by ac_rfl))).mono ?_)
  rintro r w2 ⟨rfl, s2⟩
  simp
  have s2' := s2.swap
  refine cndI (fun h => ?_) (fun h => ?_)
  · simp at h
    simp [getF, h, Instr.fill, Value.cells]
    refine eff_stA (vs := Ac.cs ⟨[], 0⟩) s2' rfl rfl (cs_one _) (by simp [Ac.cs]) ?_
    intro w3 s3
    simp
    have s4 : St w0 (A * pur p P * pt b (.cells (Ac.cs ⟨[], 0⟩).toArray 66 (0, 0))) w3 := by simpa [Ac.cs] using s3
    refine rv_cellA (vs := Ac.cs ⟨[], 0⟩) rfl s4.row_cells rfl ?_
    simp
    refine ⟨?_, s4.drop⟩
    exact (accE_or P.rows n).resolve_left h
  simp at h
  simp
  obtain ⟨i, rfl, hi⟩ := acc_in h
  obtain ⟨m, v, s3⟩ := popen s2
  obtain ⟨g, gcap, hv, hcap, hcell⟩ := s3.own_at (by omega)
  subst hv
  refine eff_ldc (v := .slice (some ⟨g, 0, none⟩) P.rows.length gcap) (by rw [cell_of s3.drop.drop.look]; rfl) ?_
  simp [hi]
  refine eff_ldcs (vs := P.rows[i].cs) (fun j u hu => hcell _ _ (flat_at hi j u hu)) rfl ?_
  simp
  have hg : getF P (i : Int) = (P.rows[i], 0) := by simp [getF, h, hi]
  refine eff_stA (vs := P.rows[i].cs) s2' rfl rfl (cs_one _) (by simp [Ac.cs]) ?_
  intro w3 s3
  simp [hg]
  have s4 : St w0 (A * pur p P * pt b (.cells P.rows[i].cs.toArray 66 (0, 0))) w3 := by simpa [Ac.cs] using s3
  refine rv_cellA (vs := P.rows[i].cs) rfl s4.row_cells rfl ?_
  simp
  exact s4.drop
end Go.HL.Pu

namespace Go.HL.Pu
open Go.HL Go.HL.Nm Go.Proofs
set_option maxRecDepth 4000
set_option linter.unusedSimpArgs false
set_option linter.unusedVariables false
-- (*bazaar/purse.Purse).Find
def h14_0 : HC := (.seq (.reg (.chk none .chkp (.cons (.inp 0) .nil) (.chk none (.fld 0) (.cons (.op .chkp (.cons (.inp 0) .nil)) .nil) (.eff (.call 47) (.cons (.op (.fld 0) (.cons (.op .chkp (.cons (.inp 0) .nil)) .nil)) (.cons (.inp 1) .nil)) (.chk none (.ext 0) (.cons (.bv 0) .nil) (.chk none (.ext 1) (.cons (.bv 0) .nil) (.done [(2, (.op (.ext 0) (.cons (.bv 0) .nil))), (3, (.op (.ext 1) (.cons (.bv 0) .nil)))] none))))))) .ret)
@[simp] theorem h14_0_wp {P : Program} {F : PF P} {Q : EX → List Value → World → Prop} {env : List Value} {w : World} : h14_0.wp F Q env w = HC.wp F (.seq (.reg (.chk none .chkp (.cons (.inp 0) .nil) (.chk none (.fld 0) (.cons (.op .chkp (.cons (.inp 0) .nil)) .nil) (.eff (.call 47) (.cons (.op (.fld 0) (.cons (.op .chkp (.cons (.inp 0) .nil)) .nil)) (.cons (.inp 1) .nil)) (.chk none (.ext 0) (.cons (.bv 0) .nil) (.chk none (.ext 1) (.cons (.bv 0) .nil) (.done [(2, (.op (.ext 0) (.cons (.bv 0) .nil))), (3, (.op (.ext 1) (.cons (.bv 0) .nil)))] none))))))) .ret) Q env w := rfl
def h14_1 : HC := (.seq (.reg (.done [(2, (.cst (.int .i64 0))), (3, (.cst (.bool false)))] none)) .ret)
@[simp] theorem h14_1_wp {P : Program} {F : PF P} {Q : EX → List Value → World → Prop} {env : List Value} {w : World} : h14_1.wp F Q env w = HC.wp F (.seq (.reg (.done [(2, (.cst (.int .i64 0))), (3, (.cst (.bool false)))] none)) .ret) Q env w := rfl
def h14_2 : HC := (.seq (.br (.chk none (.eqNil false (.pointer 81) (.pointer none)) (.cons (.inp 0) .nil) (.done [] (some (.op (.eqNil false (.pointer 81) (.pointer none)) (.cons (.inp 0) .nil))))) h14_1 .skip) h14_0)
@[simp] theorem h14_2_wp {P : Program} {F : PF P} {Q : EX → List Value → World → Prop} {env : List Value} {w : World} : h14_2.wp F Q env w = HC.wp F (.seq (.br (.chk none (.eqNil false (.pointer 81) (.pointer none)) (.cons (.inp 0) .nil) (.done [] (some (.op (.eqNil false (.pointer 81) (.pointer none)) (.cons (.inp 0) .nil))))) h14_1 .skip) h14_0) Q env w := rfl
def l14 : Lifted := ⟨[0, 1, 4, 5], 15, [.slot 2, .slot 3], (.seq (.reg (.done [(2, (.cst (.int .i64 0))), (3, (.cst (.bool false)))] none)) h14_2)⟩
theorem l14_ok : liftFn U0 14 400 = some l14 := by kernel_rfl

-- (*bazaar/purse.Purse).Near
def h16_0 : HC := (.seq (.reg (.eff (.call 52) (.cons (.inp 3) .nil) (.done [(2, (.bv 0))] none))) .ret)
@[simp] theorem h16_0_wp {P : Program} {F : PF P} {Q : EX → List Value → World → Prop} {env : List Value} {w : World} : h16_0.wp F Q env w = HC.wp F (.seq (.reg (.eff (.call 52) (.cons (.inp 3) .nil) (.done [(2, (.bv 0))] none))) .ret) Q env w := rfl
def h16_1 : HC := (.reg (.chk none (.bin .add) (.cons (.inp 9) (.cons (.cst (.int .i64 1)) .nil)) (.done [(9, (.op (.bin .add) (.cons (.inp 9) (.cons (.cst (.int .i64 1)) .nil))))] none)))
@[simp] theorem h16_1_wp {P : Program} {F : PF P} {Q : EX → List Value → World → Prop} {env : List Value} {w : World} : h16_1.wp F Q env w = HC.wp F (.reg (.chk none (.bin .add) (.cons (.inp 9) (.cons (.cst (.int .i64 1)) .nil)) (.done [(9, (.op (.bin .add) (.cons (.inp 9) (.cons (.cst (.int .i64 1)) .nil))))] none))) Q env w := rfl
def h16_2 : HC := (.reg (.eff (.bsl 3 1 1 #[(.int .i64 0)] [0]) (.cons (.inp 5) .nil) (.eff (.app 35 35 3 1 8 (.int .i64 0)) (.cons (.inp 3) (.cons (.bv 0) .nil)) (.done [(3, (.bv 1))] none))))
@[simp] theorem h16_2_wp {P : Program} {F : PF P} {Q : EX → List Value → World → Prop} {env : List Value} {w : World} : h16_2.wp F Q env w = HC.wp F (.reg (.eff (.bsl 3 1 1 #[(.int .i64 0)] [0]) (.cons (.inp 5) .nil) (.eff (.app 35 35 3 1 8 (.int .i64 0)) (.cons (.inp 3) (.cons (.bv 0) .nil)) (.done [(3, (.bv 1))] none)))) Q env w := rfl
def h16_3 : HC := (.br (.chk none (.fld 0) (.cons (.inp 6) .nil) (.eff (.ld false 1) (.cons (.op (.fld 0) (.cons (.inp 6) .nil)) .nil) (.eff (.call 51) (.cons (.bv 0) .nil) (.chk none (.bin .eql) (.cons (.bv 1) (.cons (.inp 4) .nil)) (.done [] (some (.op (.bin .eql) (.cons (.bv 1) (.cons (.inp 4) .nil))))))))) h16_2 .skip)
@[simp] theorem h16_3_wp {P : Program} {F : PF P} {Q : EX → List Value → World → Prop} {env : List Value} {w : World} : h16_3.wp F Q env w = HC.wp F (.br (.chk none (.fld 0) (.cons (.inp 6) .nil) (.eff (.ld false 1) (.cons (.op (.fld 0) (.cons (.inp 6) .nil)) .nil) (.eff (.call 51) (.cons (.bv 0) .nil) (.chk none (.bin .eql) (.cons (.bv 1) (.cons (.inp 4) .nil)) (.done [] (some (.op (.bin .eql) (.cons (.bv 1) (.cons (.inp 4) .nil))))))))) h16_2 .skip) Q env w := rfl
def h16_4 : HC := (.seq (.reg (.chk none (.idxL 2) (.cons (.inp 7) (.cons (.inp 9) .nil)) (.eff (.ld true 2) (.cons (.op (.idxL 2) (.cons (.inp 7) (.cons (.inp 9) .nil))) .nil) (.eff (.new 66 (.agg #[(.string ⟨#[]⟩), (.int .u64 0)])) .nil (.eff (.st 2) (.cons (.bv 1) (.cons (.bv 0) .nil)) (.done [(5, (.inp 9)), (6, (.bv 1))] none)))))) h16_3)
@[simp] theorem h16_4_wp {P : Program} {F : PF P} {Q : EX → List Value → World → Prop} {env : List Value} {w : World} : h16_4.wp F Q env w = HC.wp F (.seq (.reg (.chk none (.idxL 2) (.cons (.inp 7) (.cons (.inp 9) .nil)) (.eff (.ld true 2) (.cons (.op (.idxL 2) (.cons (.inp 7) (.cons (.inp 9) .nil))) .nil) (.eff (.new 66 (.agg #[(.string ⟨#[]⟩), (.int .u64 0)])) .nil (.eff (.st 2) (.cons (.bv 1) (.cons (.bv 0) .nil)) (.done [(5, (.inp 9)), (6, (.bv 1))] none)))))) h16_3) Q env w := rfl
def h16_5 : HC := (.seq (.block 1 h16_4) h16_1)
@[simp] theorem h16_5_wp {P : Program} {F : PF P} {Q : EX → List Value → World → Prop} {env : List Value} {w : World} : h16_5.wp F Q env w = HC.wp F (.seq (.block 1 h16_4) h16_1) Q env w := rfl
def h16_6 : HC := (.seq (.br (.chk none (.bin .lss) (.cons (.inp 9) (.cons (.inp 8) .nil)) (.done [] (some (.op (.bin .lss) (.cons (.inp 9) (.cons (.inp 8) .nil)))))) .skip (.exit 0)) h16_5)
@[simp] theorem h16_6_wp {P : Program} {F : PF P} {Q : EX → List Value → World → Prop} {env : List Value} {w : World} : h16_6.wp F Q env w = HC.wp F (.seq (.br (.chk none (.bin .lss) (.cons (.inp 9) (.cons (.inp 8) .nil)) (.done [] (some (.op (.bin .lss) (.cons (.inp 9) (.cons (.inp 8) .nil)))))) .skip (.exit 0)) h16_5) Q env w := rfl
def h16_7 : HC := (.loop h16_6)
@[simp] theorem h16_7_wp {P : Program} {F : PF P} {Q : EX → List Value → World → Prop} {env : List Value} {w : World} : h16_7.wp F Q env w = HC.wp F (.loop h16_6) Q env w := rfl
def h16_8 : HC := (.seq (.block 0 h16_7) h16_0)
@[simp] theorem h16_8_wp {P : Program} {F : PF P} {Q : EX → List Value → World → Prop} {env : List Value} {w : World} : h16_8.wp F Q env w = HC.wp F (.seq (.block 0 h16_7) h16_0) Q env w := rfl
def h16_9 : HC := (.seq (.reg (.chk none .chkp (.cons (.inp 0) .nil) (.chk none (.fld 2) (.cons (.op .chkp (.cons (.inp 0) .nil)) .nil) (.eff (.ld false 1) (.cons (.op (.fld 2) (.cons (.op .chkp (.cons (.inp 0) .nil)) .nil)) .nil) (.chk none .lenL (.cons (.bv 0) .nil) (.done [(7, (.bv 0)), (8, (.op .lenL (.cons (.bv 0) .nil))), (9, (.cst (.int .i64 0)))] none)))))) h16_8)
@[simp] theorem h16_9_wp {P : Program} {F : PF P} {Q : EX → List Value → World → Prop} {env : List Value} {w : World} : h16_9.wp F Q env w = HC.wp F (.seq (.reg (.chk none .chkp (.cons (.inp 0) .nil) (.chk none (.fld 2) (.cons (.op .chkp (.cons (.inp 0) .nil)) .nil) (.eff (.ld false 1) (.cons (.op (.fld 2) (.cons (.op .chkp (.cons (.inp 0) .nil)) .nil)) .nil) (.chk none .lenL (.cons (.bv 0) .nil) (.done [(7, (.bv 0)), (8, (.op .lenL (.cons (.bv 0) .nil))), (9, (.cst (.int .i64 0)))] none)))))) h16_8) Q env w := rfl
def h16_10 : HC := (.seq (.reg (.eff (.call 51) (.cons (.inp 1) .nil) (.done [(4, (.bv 0))] none))) h16_9)
@[simp] theorem h16_10_wp {P : Program} {F : PF P} {Q : EX → List Value → World → Prop} {env : List Value} {w : World} : h16_10.wp F Q env w = HC.wp F (.seq (.reg (.eff (.call 51) (.cons (.inp 1) .nil) (.done [(4, (.bv 0))] none))) h16_9) Q env w := rfl
def h16_11 : HC := (.seq (.reg (.done [(3, (.cst (.slice none 0 0)))] none)) h16_10)
@[simp] theorem h16_11_wp {P : Program} {F : PF P} {Q : EX → List Value → World → Prop} {env : List Value} {w : World} : h16_11.wp F Q env w = HC.wp F (.seq (.reg (.done [(3, (.cst (.slice none 0 0)))] none)) h16_10) Q env w := rfl
def h16_12 : HC := (.seq (.reg (.done [(2, (.cst (.slice none 0 0)))] none)) .ret)
@[simp] theorem h16_12_wp {P : Program} {F : PF P} {Q : EX → List Value → World → Prop} {env : List Value} {w : World} : h16_12.wp F Q env w = HC.wp F (.seq (.reg (.done [(2, (.cst (.slice none 0 0)))] none)) .ret) Q env w := rfl
def h16_13 : HC := (.seq (.br (.chk none (.eqNil false (.pointer 81) (.pointer none)) (.cons (.inp 0) .nil) (.done [] (some (.op (.eqNil false (.pointer 81) (.pointer none)) (.cons (.inp 0) .nil))))) h16_12 .skip) h16_11)
@[simp] theorem h16_13_wp {P : Program} {F : PF P} {Q : EX → List Value → World → Prop} {env : List Value} {w : World} : h16_13.wp F Q env w = HC.wp F (.seq (.br (.chk none (.eqNil false (.pointer 81) (.pointer none)) (.cons (.inp 0) .nil) (.done [] (some (.op (.eqNil false (.pointer 81) (.pointer none)) (.cons (.inp 0) .nil))))) h16_12 .skip) h16_11) Q env w := rfl
def l16 : Lifted := ⟨[0, 1, 4, 5, 6, 7, 8, 16, 17, 18], 35, [.slot 2], (.seq (.reg (.done [(2, (.cst (.slice none 0 0)))] none)) h16_13)⟩
theorem l16_ok : liftFn U0 16 400 = some l16 := by kernel_rfl

-- (*bazaar/purse.Purse).Supply
def h30_0 : HC := (.seq (.reg (.chk none .chkp (.cons (.inp 0) .nil) (.chk none (.fld 3) (.cons (.op .chkp (.cons (.inp 0) .nil)) .nil) (.eff (.ld false 1) (.cons (.op (.fld 3) (.cons (.op .chkp (.cons (.inp 0) .nil)) .nil)) .nil) (.done [(1, (.bv 0))] none))))) .ret)
@[simp] theorem h30_0_wp {P : Program} {F : PF P} {Q : EX → List Value → World → Prop} {env : List Value} {w : World} : h30_0.wp F Q env w = HC.wp F (.seq (.reg (.chk none .chkp (.cons (.inp 0) .nil) (.chk none (.fld 3) (.cons (.op .chkp (.cons (.inp 0) .nil)) .nil) (.eff (.ld false 1) (.cons (.op (.fld 3) (.cons (.op .chkp (.cons (.inp 0) .nil)) .nil)) .nil) (.done [(1, (.bv 0))] none))))) .ret) Q env w := rfl
def h30_1 : HC := (.seq (.reg (.done [(1, (.cst (.int .u64 0)))] none)) .ret)
@[simp] theorem h30_1_wp {P : Program} {F : PF P} {Q : EX → List Value → World → Prop} {env : List Value} {w : World} : h30_1.wp F Q env w = HC.wp F (.seq (.reg (.done [(1, (.cst (.int .u64 0)))] none)) .ret) Q env w := rfl
def h30_2 : HC := (.seq (.br (.chk none (.eqNil false (.pointer 81) (.pointer none)) (.cons (.inp 0) .nil) (.done [] (some (.op (.eqNil false (.pointer 81) (.pointer none)) (.cons (.inp 0) .nil))))) h30_1 .skip) h30_0)
@[simp] theorem h30_2_wp {P : Program} {F : PF P} {Q : EX → List Value → World → Prop} {env : List Value} {w : World} : h30_2.wp F Q env w = HC.wp F (.seq (.br (.chk none (.eqNil false (.pointer 81) (.pointer none)) (.cons (.inp 0) .nil) (.done [] (some (.op (.eqNil false (.pointer 81) (.pointer none)) (.cons (.inp 0) .nil))))) h30_1 .skip) h30_0) Q env w := rfl
def l30 : Lifted := ⟨[0, 2], 9, [.slot 1], (.seq (.reg (.done [(1, (.cst (.int .u64 0)))] none)) h30_2)⟩
theorem l30_ok : liftFn U0 30 400 = some l30 := by kernel_rfl

-- (*bazaar/purse.Purse).Held
def h37_0 : HC := (.seq (.reg (.chk none .chkp (.cons (.inp 0) .nil) (.chk none (.fld 4) (.cons (.op .chkp (.cons (.inp 0) .nil)) .nil) (.eff (.ld false 1) (.cons (.op (.fld 4) (.cons (.op .chkp (.cons (.inp 0) .nil)) .nil)) .nil) (.done [(1, (.bv 0))] none))))) .ret)
@[simp] theorem h37_0_wp {P : Program} {F : PF P} {Q : EX → List Value → World → Prop} {env : List Value} {w : World} : h37_0.wp F Q env w = HC.wp F (.seq (.reg (.chk none .chkp (.cons (.inp 0) .nil) (.chk none (.fld 4) (.cons (.op .chkp (.cons (.inp 0) .nil)) .nil) (.eff (.ld false 1) (.cons (.op (.fld 4) (.cons (.op .chkp (.cons (.inp 0) .nil)) .nil)) .nil) (.done [(1, (.bv 0))] none))))) .ret) Q env w := rfl
def h37_1 : HC := (.seq (.reg (.done [(1, (.cst (.int .u64 0)))] none)) .ret)
@[simp] theorem h37_1_wp {P : Program} {F : PF P} {Q : EX → List Value → World → Prop} {env : List Value} {w : World} : h37_1.wp F Q env w = HC.wp F (.seq (.reg (.done [(1, (.cst (.int .u64 0)))] none)) .ret) Q env w := rfl
def h37_2 : HC := (.seq (.br (.chk none (.eqNil false (.pointer 81) (.pointer none)) (.cons (.inp 0) .nil) (.done [] (some (.op (.eqNil false (.pointer 81) (.pointer none)) (.cons (.inp 0) .nil))))) h37_1 .skip) h37_0)
@[simp] theorem h37_2_wp {P : Program} {F : PF P} {Q : EX → List Value → World → Prop} {env : List Value} {w : World} : h37_2.wp F Q env w = HC.wp F (.seq (.br (.chk none (.eqNil false (.pointer 81) (.pointer none)) (.cons (.inp 0) .nil) (.done [] (some (.op (.eqNil false (.pointer 81) (.pointer none)) (.cons (.inp 0) .nil))))) h37_1 .skip) h37_0) Q env w := rfl
def l37 : Lifted := ⟨[0, 2], 9, [.slot 1], (.seq (.reg (.done [(1, (.cst (.int .u64 0)))] none)) h37_2)⟩
theorem l37_ok : liftFn U0 37 400 = some l37 := by kernel_rfl

-- (*bazaar/purse.Purse).Limit
def h28_0 : HC := (.seq (.reg (.chk none .chkp (.cons (.inp 0) .nil) (.chk none (.fld 1) (.cons (.op .chkp (.cons (.inp 0) .nil)) .nil) (.eff (.ld false 1) (.cons (.op (.fld 1) (.cons (.op .chkp (.cons (.inp 0) .nil)) .nil)) .nil) (.done [(1, (.bv 0))] none))))) .ret)
@[simp] theorem h28_0_wp {P : Program} {F : PF P} {Q : EX → List Value → World → Prop} {env : List Value} {w : World} : h28_0.wp F Q env w = HC.wp F (.seq (.reg (.chk none .chkp (.cons (.inp 0) .nil) (.chk none (.fld 1) (.cons (.op .chkp (.cons (.inp 0) .nil)) .nil) (.eff (.ld false 1) (.cons (.op (.fld 1) (.cons (.op .chkp (.cons (.inp 0) .nil)) .nil)) .nil) (.done [(1, (.bv 0))] none))))) .ret) Q env w := rfl
def h28_1 : HC := (.seq (.reg (.done [(1, (.cst (.int .i64 0)))] none)) .ret)
@[simp] theorem h28_1_wp {P : Program} {F : PF P} {Q : EX → List Value → World → Prop} {env : List Value} {w : World} : h28_1.wp F Q env w = HC.wp F (.seq (.reg (.done [(1, (.cst (.int .i64 0)))] none)) .ret) Q env w := rfl
def h28_2 : HC := (.seq (.br (.chk none (.eqNil false (.pointer 81) (.pointer none)) (.cons (.inp 0) .nil) (.done [] (some (.op (.eqNil false (.pointer 81) (.pointer none)) (.cons (.inp 0) .nil))))) h28_1 .skip) h28_0)
@[simp] theorem h28_2_wp {P : Program} {F : PF P} {Q : EX → List Value → World → Prop} {env : List Value} {w : World} : h28_2.wp F Q env w = HC.wp F (.seq (.br (.chk none (.eqNil false (.pointer 81) (.pointer none)) (.cons (.inp 0) .nil) (.done [] (some (.op (.eqNil false (.pointer 81) (.pointer none)) (.cons (.inp 0) .nil))))) h28_1 .skip) h28_0) Q env w := rfl
def l28 : Lifted := ⟨[0, 2], 9, [.slot 1], (.seq (.reg (.done [(1, (.cst (.int .i64 0)))] none)) h28_2)⟩
theorem l28_ok : liftFn U0 28 400 = some l28 := by kernel_rfl

-- (*bazaar/purse.Purse).Len
def h18_0 : HC := (.seq (.reg (.chk none .chkp (.cons (.inp 0) .nil) (.chk none (.fld 2) (.cons (.op .chkp (.cons (.inp 0) .nil)) .nil) (.eff (.ld false 1) (.cons (.op (.fld 2) (.cons (.op .chkp (.cons (.inp 0) .nil)) .nil)) .nil) (.chk none .lenL (.cons (.bv 0) .nil) (.done [(1, (.op .lenL (.cons (.bv 0) .nil)))] none)))))) .ret)
@[simp] theorem h18_0_wp {P : Program} {F : PF P} {Q : EX → List Value → World → Prop} {env : List Value} {w : World} : h18_0.wp F Q env w = HC.wp F (.seq (.reg (.chk none .chkp (.cons (.inp 0) .nil) (.chk none (.fld 2) (.cons (.op .chkp (.cons (.inp 0) .nil)) .nil) (.eff (.ld false 1) (.cons (.op (.fld 2) (.cons (.op .chkp (.cons (.inp 0) .nil)) .nil)) .nil) (.chk none .lenL (.cons (.bv 0) .nil) (.done [(1, (.op .lenL (.cons (.bv 0) .nil)))] none)))))) .ret) Q env w := rfl
def h18_1 : HC := (.seq (.reg (.done [(1, (.cst (.int .i64 0)))] none)) .ret)
@[simp] theorem h18_1_wp {P : Program} {F : PF P} {Q : EX → List Value → World → Prop} {env : List Value} {w : World} : h18_1.wp F Q env w = HC.wp F (.seq (.reg (.done [(1, (.cst (.int .i64 0)))] none)) .ret) Q env w := rfl
def h18_2 : HC := (.seq (.br (.chk none (.eqNil false (.pointer 81) (.pointer none)) (.cons (.inp 0) .nil) (.done [] (some (.op (.eqNil false (.pointer 81) (.pointer none)) (.cons (.inp 0) .nil))))) h18_1 .skip) h18_0)
@[simp] theorem h18_2_wp {P : Program} {F : PF P} {Q : EX → List Value → World → Prop} {env : List Value} {w : World} : h18_2.wp F Q env w = HC.wp F (.seq (.br (.chk none (.eqNil false (.pointer 81) (.pointer none)) (.cons (.inp 0) .nil) (.done [] (some (.op (.eqNil false (.pointer 81) (.pointer none)) (.cons (.inp 0) .nil))))) h18_1 .skip) h18_0) Q env w := rfl
def l18 : Lifted := ⟨[0, 2], 10, [.slot 1], (.seq (.reg (.done [(1, (.cst (.int .i64 0)))] none)) h18_2)⟩
theorem l18_ok : liftFn U0 18 400 = some l18 := by kernel_rfl

-- (*bazaar/purse.Purse).Rows
def h29_0 : HC := (.seq (.reg (.chk none .chkp (.cons (.inp 0) .nil) (.chk none (.fld 2) (.cons (.op .chkp (.cons (.inp 0) .nil)) .nil) (.eff (.ld false 1) (.cons (.op (.fld 2) (.cons (.op .chkp (.cons (.inp 0) .nil)) .nil)) .nil) (.eff (.call 56) (.cons (.bv 0) .nil) (.eff (.call 59) (.cons (.bv 1) .nil) (.done [(1, (.bv 2))] none))))))) .ret)
@[simp] theorem h29_0_wp {P : Program} {F : PF P} {Q : EX → List Value → World → Prop} {env : List Value} {w : World} : h29_0.wp F Q env w = HC.wp F (.seq (.reg (.chk none .chkp (.cons (.inp 0) .nil) (.chk none (.fld 2) (.cons (.op .chkp (.cons (.inp 0) .nil)) .nil) (.eff (.ld false 1) (.cons (.op (.fld 2) (.cons (.op .chkp (.cons (.inp 0) .nil)) .nil)) .nil) (.eff (.call 56) (.cons (.bv 0) .nil) (.eff (.call 59) (.cons (.bv 1) .nil) (.done [(1, (.bv 2))] none))))))) .ret) Q env w := rfl
def h29_1 : HC := (.seq (.reg (.done [(1, (.cst (.slice none 0 0)))] none)) .ret)
@[simp] theorem h29_1_wp {P : Program} {F : PF P} {Q : EX → List Value → World → Prop} {env : List Value} {w : World} : h29_1.wp F Q env w = HC.wp F (.seq (.reg (.done [(1, (.cst (.slice none 0 0)))] none)) .ret) Q env w := rfl
def h29_2 : HC := (.seq (.br (.chk none (.eqNil false (.pointer 81) (.pointer none)) (.cons (.inp 0) .nil) (.done [] (some (.op (.eqNil false (.pointer 81) (.pointer none)) (.cons (.inp 0) .nil))))) h29_1 .skip) h29_0)
@[simp] theorem h29_2_wp {P : Program} {F : PF P} {Q : EX → List Value → World → Prop} {env : List Value} {w : World} : h29_2.wp F Q env w = HC.wp F (.seq (.br (.chk none (.eqNil false (.pointer 81) (.pointer none)) (.cons (.inp 0) .nil) (.done [] (some (.op (.eqNil false (.pointer 81) (.pointer none)) (.cons (.inp 0) .nil))))) h29_1 .skip) h29_0) Q env w := rfl
def l29 : Lifted := ⟨[0, 2], 11, [.slot 1], (.seq (.reg (.done [(1, (.cst (.slice none 0 0)))] none)) h29_2)⟩
theorem l29_ok : liftFn U0 29 400 = some l29 := by kernel_rfl

-- (*bazaar/purse.Purse).Copy
def h26_0 : HC := (.seq (.reg (.done [(1, (.inp 2))] none)) .ret)
@[simp] theorem h26_0_wp {P : Program} {F : PF P} {Q : EX → List Value → World → Prop} {env : List Value} {w : World} : h26_0.wp F Q env w = HC.wp F (.seq (.reg (.done [(1, (.inp 2))] none)) .ret) Q env w := rfl
def h26_1 : HC := (.seq (.reg (.chk none .chkp (.cons (.inp 0) .nil) (.chk none (.fld 0) (.cons (.op .chkp (.cons (.inp 0) .nil)) .nil) (.chk none (.fld 0) (.cons (.op (.fld 0) (.cons (.op .chkp (.cons (.inp 0) .nil)) .nil)) .nil) (.eff (.ld false 1) (.cons (.op (.fld 0) (.cons (.op (.fld 0) (.cons (.op .chkp (.cons (.inp 0) .nil)) .nil)) .nil)) .nil) (.eff (.call 57) (.cons (.bv 0) .nil) (.chk none (.fld 0) (.cons (.inp 2) .nil) (.chk none (.fld 0) (.cons (.op (.fld 0) (.cons (.inp 2) .nil)) .nil) (.eff (.st 1) (.cons (.op (.fld 0) (.cons (.op (.fld 0) (.cons (.inp 2) .nil)) .nil)) (.cons (.bv 1) .nil)) (.done [] none)))))))))) h26_0)
@[simp] theorem h26_1_wp {P : Program} {F : PF P} {Q : EX → List Value → World → Prop} {env : List Value} {w : World} : h26_1.wp F Q env w = HC.wp F (.seq (.reg (.chk none .chkp (.cons (.inp 0) .nil) (.chk none (.fld 0) (.cons (.op .chkp (.cons (.inp 0) .nil)) .nil) (.chk none (.fld 0) (.cons (.op (.fld 0) (.cons (.op .chkp (.cons (.inp 0) .nil)) .nil)) .nil) (.eff (.ld false 1) (.cons (.op (.fld 0) (.cons (.op (.fld 0) (.cons (.op .chkp (.cons (.inp 0) .nil)) .nil)) .nil)) .nil) (.eff (.call 57) (.cons (.bv 0) .nil) (.chk none (.fld 0) (.cons (.inp 2) .nil) (.chk none (.fld 0) (.cons (.op (.fld 0) (.cons (.inp 2) .nil)) .nil) (.eff (.st 1) (.cons (.op (.fld 0) (.cons (.op (.fld 0) (.cons (.inp 2) .nil)) .nil)) (.cons (.bv 1) .nil)) (.done [] none)))))))))) h26_0) Q env w := rfl
def h26_2 : HC := (.seq (.reg (.chk none .chkp (.cons (.inp 0) .nil) (.chk none (.fld 2) (.cons (.op .chkp (.cons (.inp 0) .nil)) .nil) (.eff (.ld false 1) (.cons (.op (.fld 2) (.cons (.op .chkp (.cons (.inp 0) .nil)) .nil)) .nil) (.eff (.call 56) (.cons (.bv 0) .nil) (.chk none (.fld 2) (.cons (.inp 2) .nil) (.eff (.st 1) (.cons (.op (.fld 2) (.cons (.inp 2) .nil)) (.cons (.bv 1) .nil)) (.done [] none)))))))) h26_1)
@[simp] theorem h26_2_wp {P : Program} {F : PF P} {Q : EX → List Value → World → Prop} {env : List Value} {w : World} : h26_2.wp F Q env w = HC.wp F (.seq (.reg (.chk none .chkp (.cons (.inp 0) .nil) (.chk none (.fld 2) (.cons (.op .chkp (.cons (.inp 0) .nil)) .nil) (.eff (.ld false 1) (.cons (.op (.fld 2) (.cons (.op .chkp (.cons (.inp 0) .nil)) .nil)) .nil) (.eff (.call 56) (.cons (.bv 0) .nil) (.chk none (.fld 2) (.cons (.inp 2) .nil) (.eff (.st 1) (.cons (.op (.fld 2) (.cons (.inp 2) .nil)) (.cons (.bv 1) .nil)) (.done [] none)))))))) h26_1) Q env w := rfl
def h26_3 : HC := (.seq (.reg (.chk none .chkp (.cons (.inp 0) .nil) (.eff (.ld true 5) (.cons (.op .chkp (.cons (.inp 0) .nil)) .nil) (.eff (.new 81 (.agg #[(.map none), (.int .i64 0), (.slice none 0 0), (.int .u64 0), (.int .u64 0)])) .nil (.eff (.st 5) (.cons (.bv 1) (.cons (.bv 0) .nil)) (.done [(2, (.bv 1))] none)))))) h26_2)
@[simp] theorem h26_3_wp {P : Program} {F : PF P} {Q : EX → List Value → World → Prop} {env : List Value} {w : World} : h26_3.wp F Q env w = HC.wp F (.seq (.reg (.chk none .chkp (.cons (.inp 0) .nil) (.eff (.ld true 5) (.cons (.op .chkp (.cons (.inp 0) .nil)) .nil) (.eff (.new 81 (.agg #[(.map none), (.int .i64 0), (.slice none 0 0), (.int .u64 0), (.int .u64 0)])) .nil (.eff (.st 5) (.cons (.bv 1) (.cons (.bv 0) .nil)) (.done [(2, (.bv 1))] none)))))) h26_2) Q env w := rfl
def h26_4 : HC := (.seq (.reg (.done [(1, (.cst (.pointer none)))] none)) .ret)
@[simp] theorem h26_4_wp {P : Program} {F : PF P} {Q : EX → List Value → World → Prop} {env : List Value} {w : World} : h26_4.wp F Q env w = HC.wp F (.seq (.reg (.done [(1, (.cst (.pointer none)))] none)) .ret) Q env w := rfl
def h26_5 : HC := (.seq (.br (.chk none (.eqNil false (.pointer 81) (.pointer none)) (.cons (.inp 0) .nil) (.done [] (some (.op (.eqNil false (.pointer 81) (.pointer none)) (.cons (.inp 0) .nil))))) h26_4 .skip) h26_3)
@[simp] theorem h26_5_wp {P : Program} {F : PF P} {Q : EX → List Value → World → Prop} {env : List Value} {w : World} : h26_5.wp F Q env w = HC.wp F (.seq (.br (.chk none (.eqNil false (.pointer 81) (.pointer none)) (.cons (.inp 0) .nil) (.done [] (some (.op (.eqNil false (.pointer 81) (.pointer none)) (.cons (.inp 0) .nil))))) h26_4 .skip) h26_3) Q env w := rfl
def l26 : Lifted := ⟨[0, 2, 3], 23, [.slot 1], (.seq (.reg (.done [(1, (.cst (.pointer none)))] none)) h26_5)⟩
theorem l26_ok : liftFn U0 26 400 = some l26 := by kernel_rfl


theorem Find_spec (p : Nat) (P : Ps) (x : List UInt8) (w0 w : World) (A : Asn) (hx : x.length ≤ 1048576) (s : St w0 (A * pur p P) w) :
    CallW Try.prog 14 [.pointer (some ⟨p, 0, none⟩), .string (mk x)] (fun r w' => r = .tuple #[.int .i64 (askN (keyF x) (keys P.rows)), .bool (askB (keyF x) (keys P.rows))] ∧ St w0 (A * pur p P) w') w := by
  refine callW_of_lift l14_ok (by simp [l14]) ?_
  simp [l14]
  obtain ⟨m, v, s1⟩ := popen s
  refine eff_call ((known_p p P m v x w0 w (A * own 66 2 v P.rows.length (flat P.rows)) hx (s1.to (by ac_rfl))).mono ?_)
  rintro r w2 ⟨rfl, s2⟩
  simp
  exact pclose (m := m) (v := v) (s2.to (by ac_rfl))
theorem Supply_spec (p : Nat) (P : Ps) (w0 w : World) (A : Asn) (s : St w0 (A * pur p P) w) :
    CallW Try.prog 30 [.pointer (some ⟨p, 0, none⟩)] (fun r w' => r = .int .u64 P.sup ∧ St w0 (A * pur p P) w') w := by
  refine callW_of_lift l30_ok (by simp [l30]) ?_
  simp [l30]
  obtain ⟨m, v, s1⟩ := popen s
  refine eff_ldc (v := .int .u64 P.sup) (by rw [cell_of s1.drop.drop.look]; rfl) ?_
  simp
  exact s
theorem Held_spec (p : Nat) (P : Ps) (w0 w : World) (A : Asn) (s : St w0 (A * pur p P) w) :
    CallW Try.prog 37 [.pointer (some ⟨p, 0, none⟩)] (fun r w' => r = .int .u64 P.held ∧ St w0 (A * pur p P) w') w := by
  refine callW_of_lift l37_ok (by simp [l37]) ?_
  simp [l37]
  obtain ⟨m, v, s1⟩ := popen s
  refine eff_ldc (v := .int .u64 P.held) (by rw [cell_of s1.drop.drop.look]; rfl) ?_
  simp
  exact s
theorem Limit_spec (p : Nat) (P : Ps) (w0 w : World) (A : Asn) (s : St w0 (A * pur p P) w) :
    CallW Try.prog 28 [.pointer (some ⟨p, 0, none⟩)] (fun r w' => r = .int .i64 P.lim ∧ St w0 (A * pur p P) w') w := by
  refine callW_of_lift l28_ok (by simp [l28]) ?_
  simp [l28]
  obtain ⟨m, v, s1⟩ := popen s
  refine eff_ldc (v := .int .i64 P.lim) (by rw [cell_of s1.drop.drop.look]; rfl) ?_
  simp
  exact s
theorem Len_spec (p : Nat) (P : Ps) (w0 w : World) (A : Asn) (s : St w0 (A * pur p P) w) :
    CallW Try.prog 18 [.pointer (some ⟨p, 0, none⟩)] (fun r w' => r = .int .i64 P.rows.length ∧ St w0 (A * pur p P) w') w := by
  refine callW_of_lift l18_ok (by simp [l18]) ?_
  simp [l18]
  obtain ⟨m, v, s1⟩ := popen s
  obtain ⟨a, cap, rfl, _⟩ := s1.own_val
  refine eff_ldc (v := .slice a P.rows.length cap) (by rw [cell_of s1.drop.drop.look]; rfl) ?_
  simp
  exact s
theorem Rows_spec (p : Nat) (P : Ps) (w0 w : World) (A : Asn) (hl : P.rows.length ≤ 1048576) (s : St w0 (A * pur p P) w) :
    CallW Try.prog 29 [.pointer (some ⟨p, 0, none⟩)] (fun r w' => St w0 (A * pur p P * own 66 2 r P.rows.length (flat P.rows)) w') w := by
  refine callW_of_lift l29_ok (by simp [l29]) ?_
  simp [l29]
  obtain ⟨m, v, s1⟩ := popen s
  refine eff_ldc (v := v) (by rw [cell_of s1.drop.drop.look]; rfl) ?_
  simp
  refine eff_call ((clone_spec v P.rows w0 w _ hl s1).mono ?_)
  intro r w2 s2
  simp
  refine eff_call ((clipA_spec r P.rows.length _ _ w0 w2 _ hl s2).mono ?_)
  intro r2 w3 s3
  simp
  have s4 := s3.to (B := A * own 66 2 r2 P.rows.length (flat P.rows) * pt4 p P m v * mpt m P.rows * own 66 2 v P.rows.length (flat P.rows)) (by ac_rfl)
  exact (pclose s4).to (by ac_rfl)
theorem Copy_spec (p : Nat) (P : Ps) (w0 w : World) (A : Asn) (hl : P.rows.length ≤ 1048576) (s : St w0 (A * pur p P) w) :
    CallW Try.prog 26 [.pointer (some ⟨p, 0, none⟩)] (fun r w' => ∃ q, r = .pointer (some ⟨q, 0, none⟩) ∧ St w0 (A * pur p P * pur q P) w') w := by
  refine callW_of_lift l26_ok (by simp [l26]) ?_
  simp [l26]
  obtain ⟨m, v, s1⟩ := popen s
  obtain ⟨a, cap, hv, _⟩ := s1.own_val
  refine eff_ldcs (vs := [.map (some m), .int .i64 P.lim, v, .int .u64 P.sup, .int .u64 P.held]) (fun j u hu => St.row_cells s1.drop.drop j u hu) rfl ?_
  simp
  refine eff_new s1 ?_
  intro q w2 s2
  simp
  refine eff_stA (vs := [.map (some m), .int .i64 P.lim, v, .int .u64 P.sup, .int .u64 P.held]) s2 rfl rfl (by rw [hv]; simp [Value.oneCell']) (by simp) ?_
  intro w3 s3
  simp at s3
  simp
  have s4 : St w0 (A * pt4 p P m v * mpt m P.rows * own 66 2 v P.rows.length (flat P.rows) * pt4 q P m v) w3 := s3
  clear s3 s2 s1 s
  refine eff_ldc (v := v) (by rw [cell_of s4.drop.drop.drop.look]; rfl) ?_
  simp
  refine eff_call ((clone_spec v P.rows w0 w3 (A * pt4 p P m v * mpt m P.rows * pt4 q P m v) hl (s4.to (by ac_rfl))).mono ?_)
  intro r w4 s5
  simp
  obtain ⟨ra, rc, hr, _⟩ := s5.own_val
  refine eff_st1 (s5.to (B := A * pt4 p P m v * mpt m P.rows * own 66 2 v P.rows.length (flat P.rows) * own 66 2 r P.rows.length (flat P.rows) * pt4 q P m v) (by ac_rfl)) (by rw [hr]; rfl) (by simp) ?_
  intro w5 s6
  simp at s6
  simp
  have s7 : St w0 (A * pt4 p P m v * mpt m P.rows * own 66 2 v P.rows.length (flat P.rows) * own 66 2 r P.rows.length (flat P.rows) * pt4 q P m r) w5 := s6
  clear s6 s5 s4
  refine eff_ldc (v := .map (some m)) (by rw [cell_of s7.drop.drop.drop.drop.look]; rfl) ?_
  simp
  refine eff_call ((mclone_spec m (keys P.rows) (keys P.rows).length w0 w5 (A * pt4 p P m v * own 66 2 v P.rows.length (flat P.rows) * own 66 2 r P.rows.length (flat P.rows) * pt4 q P m r) (s7.to (by ac_rfl))).mono ?_)
  rintro r2 w6 ⟨m2, rfl, s8⟩
  simp
  refine eff_st1 (s8.to (B := A * pt4 p P m v * own 66 2 v P.rows.length (flat P.rows) * own 66 2 r P.rows.length (flat P.rows) * mpt m P.rows * mpt m2 P.rows * pt4 q P m r) (by ac_rfl)) rfl (by simp) ?_
  intro w7 s9
  simp at s9
  simp
  have s10 : St w0 (A * pt4 p P m v * own 66 2 v P.rows.length (flat P.rows) * own 66 2 r P.rows.length (flat P.rows) * mpt m P.rows * mpt m2 P.rows * pt4 q P m2 r) w7 := s9
  have s11 := pclose (m := m) (v := v) (P := P) (s10.to (B := A * own 66 2 r P.rows.length (flat P.rows) * mpt m2 P.rows * pt4 q P m2 r * pt4 p P m v * mpt m P.rows * own 66 2 v P.rows.length (flat P.rows)) (by ac_rfl))
  exact pclose (m := m2) (v := r) (P := P) (s11.to (by ac_rfl))
/-- who looks alike -/
def nearF : List Ac → List UInt8 → Nat → List Int
  | [], _, _ => []
  | a :: l, x, i => if seemF a.name = seemF x then (i : Int) :: nearF l x (i + 1) else nearF l x (i + 1)
theorem nearF_len : ∀ (l : List Ac) (x : List UInt8) (i : Nat), (nearF l x i).length ≤ l.length
  | [], _, _ => Nat.le_refl 0
  | a :: l, x, i => by
    have := nearF_len l x (i + 1)
    simp only [nearF]
    split <;> simp <;> omega
theorem nearF_snoc (x : List UInt8) (a : Ac) : ∀ (l : List Ac) (i : Nat), nearF (l ++ [a]) x i = nearF l x i ++ (if seemF a.name = seemF x then [((i + l.length : Nat) : Int)] else [])
  | [], i => by simp only [List.nil_append, nearF]; split <;> simp
  | b :: l, i => by
    simp only [List.cons_append, nearF, nearF_snoc x a l (i + 1), List.length_cons]
    have e : i + 1 + l.length = i + (l.length + 1) := by omega
    rw [e]
    split <;> simp
theorem Near_spec (p : Nat) (P : Ps) (x : List UInt8) (w0 w : World) (A : Asn) (hx : x.length ≤ 1048576) (hl : P.rows.length ≤ 64) (hn : ∀ i, (h : i < P.rows.length) → P.rows[i].name.length ≤ 1048576) (s : St w0 (A * pur p P) w) :
    CallW Try.prog 16 [.pointer (some ⟨p, 0, none⟩), .string (mk x)] (fun r w' => St w0 (A * pur p P * own 3 1 r (nearF P.rows x 0).length (ints (nearF P.rows x 0))) w') w := by
  refine callW_of_lift l16_ok (by simp [l16]) ?_
  simp [l16]
  refine eff_call ((Look_spec x w0 w _ hx s).mono ?_)
  rintro r w1 ⟨rfl, s1⟩
  simp
  obtain ⟨m, v, s2⟩ := popen s1
  obtain ⟨a, cap, rfl, _⟩ := s2.own_val
  refine eff_ldc (v := .slice a P.rows.length cap) (by rw [cell_of s2.drop.drop.look]; rfl) ?_
  simp
  generalize hz : seemF x = z
  have hz2 : encAll (lookF x) = z := hz
  rw [hz2]
  refine loopI (fun env w' => ∃ (i : Nat) (lv o5 o6 : Value), env = [.pointer (some ⟨p, 0, none⟩), .string (mk x), .slice none 0 0, lv, .string (mk z), o5, o6, .slice a P.rows.length cap, .int .i64 P.rows.length, .int .i64 i] ∧ i ≤ P.rows.length ∧
      St w0 (A * pt4 p P m (.slice a P.rows.length cap) * mpt m P.rows * own 66 2 (.slice a P.rows.length cap) P.rows.length (flat P.rows) * own 3 1 lv (nearF (P.rows.take i) x 0).length (ints (nearF (P.rows.take i) x 0))) w')
    (fun env _ => P.rows.length - slotN env 9) ⟨0, _, _, _, rfl, by omega, s2.own_nil _ _⟩ ?_
  clear s2 s1 s
  rintro LQ env w' ⟨i, lv, o5, o6, rfl, hi, s⟩ hN hE hR
  simp
  refine cndI (fun h => ?_) (fun h => ?_)
  · simp at h
    have h : i < P.rows.length := by omega
    obtain ⟨g, gcap, hv, _, hcell⟩ := s.swap.own_at (by omega)
    cases hv
    simp [h]
    refine eff_ldcs (vs := P.rows[i].cs) (fun j u hu => hcell _ _ (flat_at h j u hu)) rfl ?_
    simp
    refine eff_new s ?_
    intro b w2 s2
    simp
    refine eff_stA (vs := P.rows[i].cs) s2 rfl rfl (cs_one _) (by simp) ?_
    intro w3 s3
    simp
    have s4 : St w0 (A * pt4 p P m (.slice (some ⟨g, 0, none⟩) P.rows.length cap) * mpt m P.rows * own 66 2 (.slice (some ⟨g, 0, none⟩) P.rows.length cap) P.rows.length (flat P.rows) * own 3 1 lv (nearF (P.rows.take i) x 0).length (ints (nearF (P.rows.take i) x 0)) * pt b (.cells P.rows[i].cs.toArray 66 (0, 0))) w3 := by simpa using s3
    refine eff_ldc (v := .string (mk P.rows[i].name)) (by rw [cell_of s4.look]; rfl) ?_
    simp
    refine eff_call ((Look_spec P.rows[i].name w0 w3 _ (hn i h) s4).mono ?_)
    rintro r w4 ⟨rfl, s5⟩
    simp
    have htk : P.rows.take (i + 1) = P.rows.take i ++ [P.rows[i]] := List.take_succ_eq_append_getElem h
    have hti : (P.rows.take i).length = i := by rw [List.length_take]; omega
    have hnl := nearF_len (P.rows.take i) x 0
    refine cndI (fun h2 => ?_) (fun h2 => ?_)
    · simp at h2
      simp
      refine eff_bsl1 s5.drop rfl ?_
      intro c w5 s6
      simp
      refine eff_app (m := 1) (news := [.int .i64 i]) (s6.to (B := A * pt4 p P m (.slice (some ⟨g, 0, none⟩) P.rows.length cap) * mpt m P.rows * own 66 2 (.slice (some ⟨g, 0, none⟩) P.rows.length cap) P.rows.length (flat P.rows) * pt c (.cells #[.int .i64 i] 3 (0, 0)) * own 3 1 lv (nearF (P.rows.take i) x 0).length (ints (nearF (P.rows.take i) x 0))) (by ac_rfl)) rfl s6.cells_look (by simp [Value.oneCell']) (by decide) rfl (by unfold maxLen; omega) (by omega) ?_
      intro lv2 w6 s7
      simp
      try simp (disch := omega) only [wrap64]
      refine hN _ _ ⟨i + 1, lv2, _, _, by simp; exact ⟨rfl, rfl⟩, by omega, ?_⟩ (by simp [slotN]; omega)
      have e : nearF (P.rows.take (i + 1)) x 0 = nearF (P.rows.take i) x 0 ++ [(i : Int)] := by
        rw [htk, nearF_snoc, hti, if_pos (by rw [hz]; exact h2), Nat.zero_add]
      rw [e, List.length_append]
      have e2 : ints (nearF (P.rows.take i) x 0 ++ [(i : Int)]) = ints (nearF (P.rows.take i) x 0) ++ [.int .i64 i] := by simp [ints]
      rw [e2]
      exact St.cut (pt c (.cells #[.int .i64 i] 3 (0, 0))) s7 (by simp only [List.length_singleton]; ac_rfl)
    · simp at h2
      simp
      try simp (disch := omega) only [wrap64]
      refine hN _ _ ⟨i + 1, lv, _, _, by simp; exact ⟨rfl, rfl⟩, by omega, ?_⟩ (by simp [slotN]; omega)
      have e : nearF (P.rows.take (i + 1)) x 0 = nearF (P.rows.take i) x 0 := by
        rw [htk, nearF_snoc, if_neg (by rw [hz]; exact h2), List.append_nil]
      rw [e]
      exact s5.drop
  simp at h
  simp
  refine hE _ _ _ ?_
  simp
  have hie : i = P.rows.length := by omega
  rw [hie, List.take_length] at s
  have hnl := nearF_len P.rows x 0
  refine eff_call ((clipI_spec lv _ _ _ w0 w' _ (by omega) s).mono ?_)
  intro r w2 s2
  simp
  exact (pclose (m := m) (v := .slice a P.rows.length cap) (P := P) (s2.to (B := A * own 3 1 r (nearF P.rows x 0).length (ints (nearF P.rows x 0)) * pt4 p P m (.slice a P.rows.length cap) * mpt m P.rows * own 66 2 (.slice a P.rows.length cap) P.rows.length (flat P.rows)) (by ac_rfl))).to (by ac_rfl)
end Go.HL.Pu

namespace Go.HL.Pu
open Go.HL Go.HL.Nm Go.Proofs
set_option maxRecDepth 4000
set_option linter.unusedSimpArgs false
set_option linter.unusedVariables false
-- bazaar/purse.Load
def h20_0 : HC := (.seq (.reg (.done [(3, (.inp 5)), (4, (.cst (.int .i64 0)))] none)) .ret)
@[simp] theorem h20_0_wp {P : Program} {F : PF P} {Q : EX → List Value → World → Prop} {env : List Value} {w : World} : h20_0.wp F Q env w = HC.wp F (.seq (.reg (.done [(3, (.inp 5)), (4, (.cst (.int .i64 0)))] none)) .ret) Q env w := rfl
def h20_1 : HC := (.reg (.chk none (.bin .add) (.cons (.inp 12) (.cons (.cst (.int .i64 1)) .nil)) (.done [(12, (.op (.bin .add) (.cons (.inp 12) (.cons (.cst (.int .i64 1)) .nil))))] none)))
@[simp] theorem h20_1_wp {P : Program} {F : PF P} {Q : EX → List Value → World → Prop} {env : List Value} {w : World} : h20_1.wp F Q env w = HC.wp F (.reg (.chk none (.bin .add) (.cons (.inp 12) (.cons (.cst (.int .i64 1)) .nil)) (.done [(12, (.op (.bin .add) (.cons (.inp 12) (.cons (.cst (.int .i64 1)) .nil))))] none))) Q env w := rfl
def h20_2 : HC := (.regq (some 1) (.chk none .chkp (.cons (.inp 5) .nil) (.chk none (.fld 2) (.cons (.op .chkp (.cons (.inp 5) .nil)) .nil) (.eff (.ld false 1) (.cons (.op (.fld 2) (.cons (.op .chkp (.cons (.inp 5) .nil)) .nil)) .nil) (.chk none .chkp (.cons (.inp 5) .nil) (.chk none (.fld 2) (.cons (.op .chkp (.cons (.inp 5) .nil)) .nil) (.eff (.ld false 1) (.cons (.op (.fld 2) (.cons (.op .chkp (.cons (.inp 5) .nil)) .nil)) .nil) (.chk none .lenL (.cons (.bv 1) .nil) (.chk none (.bin .sub) (.cons (.op .lenL (.cons (.bv 1) .nil)) (.cons (.cst (.int .i64 1)) .nil)) (.chk none (.fld 1) (.cons (.inp 6) .nil) (.eff (.ld false 1) (.cons (.op (.fld 1) (.cons (.inp 6) .nil)) .nil) (.chk none (.idxL 2) (.cons (.bv 0) (.cons (.op (.bin .sub) (.cons (.op .lenL (.cons (.bv 1) .nil)) (.cons (.cst (.int .i64 1)) .nil))) .nil)) (.chk none (.fld 1) (.cons (.op (.idxL 2) (.cons (.bv 0) (.cons (.op (.bin .sub) (.cons (.op .lenL (.cons (.bv 1) .nil)) (.cons (.cst (.int .i64 1)) .nil))) .nil))) .nil) (.eff (.st 1) (.cons (.op (.fld 1) (.cons (.op (.idxL 2) (.cons (.bv 0) (.cons (.op (.bin .sub) (.cons (.op .lenL (.cons (.bv 1) .nil)) (.cons (.cst (.int .i64 1)) .nil))) .nil))) .nil)) (.cons (.bv 2) .nil)) (.done [] none)))))))))))))))
@[simp] theorem h20_2_wp {P : Program} {F : PF P} {Q : EX → List Value → World → Prop} {env : List Value} {w : World} : h20_2.wp F Q env w = HC.wp F (.regq (some 1) (.chk none .chkp (.cons (.inp 5) .nil) (.chk none (.fld 2) (.cons (.op .chkp (.cons (.inp 5) .nil)) .nil) (.eff (.ld false 1) (.cons (.op (.fld 2) (.cons (.op .chkp (.cons (.inp 5) .nil)) .nil)) .nil) (.chk none .chkp (.cons (.inp 5) .nil) (.chk none (.fld 2) (.cons (.op .chkp (.cons (.inp 5) .nil)) .nil) (.eff (.ld false 1) (.cons (.op (.fld 2) (.cons (.op .chkp (.cons (.inp 5) .nil)) .nil)) .nil) (.chk none .lenL (.cons (.bv 1) .nil) (.chk none (.bin .sub) (.cons (.op .lenL (.cons (.bv 1) .nil)) (.cons (.cst (.int .i64 1)) .nil)) (.chk none (.fld 1) (.cons (.inp 6) .nil) (.eff (.ld false 1) (.cons (.op (.fld 1) (.cons (.inp 6) .nil)) .nil) (.chk none (.idxL 2) (.cons (.bv 0) (.cons (.op (.bin .sub) (.cons (.op .lenL (.cons (.bv 1) .nil)) (.cons (.cst (.int .i64 1)) .nil))) .nil)) (.chk none (.fld 1) (.cons (.op (.idxL 2) (.cons (.bv 0) (.cons (.op (.bin .sub) (.cons (.op .lenL (.cons (.bv 1) .nil)) (.cons (.cst (.int .i64 1)) .nil))) .nil))) .nil) (.eff (.st 1) (.cons (.op (.fld 1) (.cons (.op (.idxL 2) (.cons (.bv 0) (.cons (.op (.bin .sub) (.cons (.op .lenL (.cons (.bv 1) .nil)) (.cons (.cst (.int .i64 1)) .nil))) .nil))) .nil)) (.cons (.bv 2) .nil)) (.done [] none))))))))))))))) Q env w := rfl
def h20_3 : HC := (.seq (.reg (.chk none .chkp (.cons (.inp 5) .nil) (.chk none (.fld 4) (.cons (.op .chkp (.cons (.inp 5) .nil)) .nil) (.eff (.st 1) (.cons (.op (.fld 4) (.cons (.op .chkp (.cons (.inp 5) .nil)) .nil)) (.cons (.inp 8) .nil)) (.done [] none))))) h20_2)
@[simp] theorem h20_3_wp {P : Program} {F : PF P} {Q : EX → List Value → World → Prop} {env : List Value} {w : World} : h20_3.wp F Q env w = HC.wp F (.seq (.reg (.chk none .chkp (.cons (.inp 5) .nil) (.chk none (.fld 4) (.cons (.op .chkp (.cons (.inp 5) .nil)) .nil) (.eff (.st 1) (.cons (.op (.fld 4) (.cons (.op .chkp (.cons (.inp 5) .nil)) .nil)) (.cons (.inp 8) .nil)) (.done [] none))))) h20_2) Q env w := rfl
def h20_4 : HC := (.seq (.reg (.done [(3, (.cst (.pointer none))), (4, (.cst (.int .i64 144)))] none)) .ret)
@[simp] theorem h20_4_wp {P : Program} {F : PF P} {Q : EX → List Value → World → Prop} {env : List Value} {w : World} : h20_4.wp F Q env w = HC.wp F (.seq (.reg (.done [(3, (.cst (.pointer none))), (4, (.cst (.int .i64 144)))] none)) .ret) Q env w := rfl
def h20_5 : HC := (.seq (.br (.chk none (.bin .neq) (.cons (.inp 9) (.cons (.cst (.int .i64 0)) .nil)) (.done [] (some (.op (.bin .neq) (.cons (.inp 9) (.cons (.cst (.int .i64 0)) .nil)))))) h20_4 .skip) h20_3)
@[simp] theorem h20_5_wp {P : Program} {F : PF P} {Q : EX → List Value → World → Prop} {env : List Value} {w : World} : h20_5.wp F Q env w = HC.wp F (.seq (.br (.chk none (.bin .neq) (.cons (.inp 9) (.cons (.cst (.int .i64 0)) .nil)) (.done [] (some (.op (.bin .neq) (.cons (.inp 9) (.cons (.cst (.int .i64 0)) .nil)))))) h20_4 .skip) h20_3) Q env w := rfl
def h20_6 : HC := (.seq (.regq (some 1) (.chk none .chkp (.cons (.inp 5) .nil) (.chk none (.fld 4) (.cons (.op .chkp (.cons (.inp 5) .nil)) .nil) (.eff (.ld false 1) (.cons (.op (.fld 4) (.cons (.op .chkp (.cons (.inp 5) .nil)) .nil)) .nil) (.chk none (.fld 1) (.cons (.inp 6) .nil) (.eff (.ld false 1) (.cons (.op (.fld 1) (.cons (.inp 6) .nil)) .nil) (.eff (.call 53) (.cons (.bv 0) (.cons (.bv 1) .nil)) (.chk none (.ext 0) (.cons (.bv 2) .nil) (.chk none (.ext 1) (.cons (.bv 2) .nil) (.done [(8, (.op (.ext 0) (.cons (.bv 2) .nil))), (9, (.op (.ext 1) (.cons (.bv 2) .nil)))] none)))))))))) h20_5)
@[simp] theorem h20_6_wp {P : Program} {F : PF P} {Q : EX → List Value → World → Prop} {env : List Value} {w : World} : h20_6.wp F Q env w = HC.wp F (.seq (.regq (some 1) (.chk none .chkp (.cons (.inp 5) .nil) (.chk none (.fld 4) (.cons (.op .chkp (.cons (.inp 5) .nil)) .nil) (.eff (.ld false 1) (.cons (.op (.fld 4) (.cons (.op .chkp (.cons (.inp 5) .nil)) .nil)) .nil) (.chk none (.fld 1) (.cons (.inp 6) .nil) (.eff (.ld false 1) (.cons (.op (.fld 1) (.cons (.inp 6) .nil)) .nil) (.eff (.call 53) (.cons (.bv 0) (.cons (.bv 1) .nil)) (.chk none (.ext 0) (.cons (.bv 2) .nil) (.chk none (.ext 1) (.cons (.bv 2) .nil) (.done [(8, (.op (.ext 0) (.cons (.bv 2) .nil))), (9, (.op (.ext 1) (.cons (.bv 2) .nil)))] none)))))))))) h20_5) Q env w := rfl
def h20_7 : HC := (.seq (.reg (.done [(3, (.cst (.pointer none))), (4, (.inp 7))] none)) .ret)
@[simp] theorem h20_7_wp {P : Program} {F : PF P} {Q : EX → List Value → World → Prop} {env : List Value} {w : World} : h20_7.wp F Q env w = HC.wp F (.seq (.reg (.done [(3, (.cst (.pointer none))), (4, (.inp 7))] none)) .ret) Q env w := rfl
def h20_8 : HC := (.seq (.br (.chk none (.bin .neq) (.cons (.inp 7) (.cons (.cst (.int .i64 0)) .nil)) (.done [] (some (.op (.bin .neq) (.cons (.inp 7) (.cons (.cst (.int .i64 0)) .nil)))))) h20_7 .skip) h20_6)
@[simp] theorem h20_8_wp {P : Program} {F : PF P} {Q : EX → List Value → World → Prop} {env : List Value} {w : World} : h20_8.wp F Q env w = HC.wp F (.seq (.br (.chk none (.bin .neq) (.cons (.inp 7) (.cons (.cst (.int .i64 0)) .nil)) (.done [] (some (.op (.bin .neq) (.cons (.inp 7) (.cons (.cst (.int .i64 0)) .nil)))))) h20_7 .skip) h20_6) Q env w := rfl
def h20_9 : HC := (.seq (.reg (.chk none (.fld 0) (.cons (.inp 6) .nil) (.eff (.ld false 1) (.cons (.op (.fld 0) (.cons (.inp 6) .nil)) .nil) (.eff (.call 13) (.cons (.inp 5) (.cons (.bv 0) .nil)) (.chk none (.ext 0) (.cons (.bv 1) .nil) (.chk none (.ext 1) (.cons (.bv 1) .nil) (.done [(7, (.op (.ext 1) (.cons (.bv 1) .nil)))] none))))))) h20_8)
@[simp] theorem h20_9_wp {P : Program} {F : PF P} {Q : EX → List Value → World → Prop} {env : List Value} {w : World} : h20_9.wp F Q env w = HC.wp F (.seq (.reg (.chk none (.fld 0) (.cons (.inp 6) .nil) (.eff (.ld false 1) (.cons (.op (.fld 0) (.cons (.inp 6) .nil)) .nil) (.eff (.call 13) (.cons (.inp 5) (.cons (.bv 0) .nil)) (.chk none (.ext 0) (.cons (.bv 1) .nil) (.chk none (.ext 1) (.cons (.bv 1) .nil) (.done [(7, (.op (.ext 1) (.cons (.bv 1) .nil)))] none))))))) h20_8) Q env w := rfl
def h20_10 : HC := (.seq (.reg (.chk none (.idxL 2) (.cons (.inp 10) (.cons (.inp 12) .nil)) (.eff (.ld true 2) (.cons (.op (.idxL 2) (.cons (.inp 10) (.cons (.inp 12) .nil))) .nil) (.eff (.new 66 (.agg #[(.string ⟨#[]⟩), (.int .u64 0)])) .nil (.eff (.st 2) (.cons (.bv 1) (.cons (.bv 0) .nil)) (.done [(6, (.bv 1))] none)))))) h20_9)
@[simp] theorem h20_10_wp {P : Program} {F : PF P} {Q : EX → List Value → World → Prop} {env : List Value} {w : World} : h20_10.wp F Q env w = HC.wp F (.seq (.reg (.chk none (.idxL 2) (.cons (.inp 10) (.cons (.inp 12) .nil)) (.eff (.ld true 2) (.cons (.op (.idxL 2) (.cons (.inp 10) (.cons (.inp 12) .nil))) .nil) (.eff (.new 66 (.agg #[(.string ⟨#[]⟩), (.int .u64 0)])) .nil (.eff (.st 2) (.cons (.bv 1) (.cons (.bv 0) .nil)) (.done [(6, (.bv 1))] none)))))) h20_9) Q env w := rfl
def h20_11 : HC := (.seq (.block 2 h20_10) h20_1)
@[simp] theorem h20_11_wp {P : Program} {F : PF P} {Q : EX → List Value → World → Prop} {env : List Value} {w : World} : h20_11.wp F Q env w = HC.wp F (.seq (.block 2 h20_10) h20_1) Q env w := rfl
def h20_12 : HC := (.seq (.br (.chk none (.bin .lss) (.cons (.inp 12) (.cons (.inp 11) .nil)) (.done [] (some (.op (.bin .lss) (.cons (.inp 12) (.cons (.inp 11) .nil)))))) .skip (.exit 1)) h20_11)
@[simp] theorem h20_12_wp {P : Program} {F : PF P} {Q : EX → List Value → World → Prop} {env : List Value} {w : World} : h20_12.wp F Q env w = HC.wp F (.seq (.br (.chk none (.bin .lss) (.cons (.inp 12) (.cons (.inp 11) .nil)) (.done [] (some (.op (.bin .lss) (.cons (.inp 12) (.cons (.inp 11) .nil)))))) .skip (.exit 1)) h20_11) Q env w := rfl
def h20_13 : HC := (.loop h20_12)
@[simp] theorem h20_13_wp {P : Program} {F : PF P} {Q : EX → List Value → World → Prop} {env : List Value} {w : World} : h20_13.wp F Q env w = HC.wp F (.loop h20_12) Q env w := rfl
def h20_14 : HC := (.seq (.block 1 h20_13) h20_0)
@[simp] theorem h20_14_wp {P : Program} {F : PF P} {Q : EX → List Value → World → Prop} {env : List Value} {w : World} : h20_14.wp F Q env w = HC.wp F (.seq (.block 1 h20_13) h20_0) Q env w := rfl
def h20_15 : HC := (.seq (.reg (.chk none .lenL (.cons (.inp 1) .nil) (.done [(10, (.inp 1)), (11, (.op .lenL (.cons (.inp 1) .nil))), (12, (.cst (.int .i64 0)))] none))) h20_14)
@[simp] theorem h20_15_wp {P : Program} {F : PF P} {Q : EX → List Value → World → Prop} {env : List Value} {w : World} : h20_15.wp F Q env w = HC.wp F (.seq (.reg (.chk none .lenL (.cons (.inp 1) .nil) (.done [(10, (.inp 1)), (11, (.op .lenL (.cons (.inp 1) .nil))), (12, (.cst (.int .i64 0)))] none))) h20_14) Q env w := rfl
def h20_16 : HC := (.seq (.reg (.eff (.mkm 77 false) .nil (.chk none (.build #[(.map none)] [(0, 1)] [0]) (.cons (.bv 0) .nil) (.chk none (.build #[(.map none), (.int .i64 0), (.slice none 0 0), (.int .u64 0), (.int .u64 0)] [(0, 1), (1, 1), (2, 1), (3, 1), (4, 1)] [0, 1, 3, 4]) (.cons (.op (.build #[(.map none)] [(0, 1)] [0]) (.cons (.bv 0) .nil)) (.cons (.inp 0) (.cons (.inp 2) (.cons (.inp 2) .nil)))) (.eff (.box 81) (.cons (.op (.build #[(.map none), (.int .i64 0), (.slice none 0 0), (.int .u64 0), (.int .u64 0)] [(0, 1), (1, 1), (2, 1), (3, 1), (4, 1)] [0, 1, 3, 4]) (.cons (.op (.build #[(.map none)] [(0, 1)] [0]) (.cons (.bv 0) .nil)) (.cons (.inp 0) (.cons (.inp 2) (.cons (.inp 2) .nil))))) .nil) (.done [(5, (.bv 1))] none)))))) h20_15)
@[simp] theorem h20_16_wp {P : Program} {F : PF P} {Q : EX → List Value → World → Prop} {env : List Value} {w : World} : h20_16.wp F Q env w = HC.wp F (.seq (.reg (.eff (.mkm 77 false) .nil (.chk none (.build #[(.map none)] [(0, 1)] [0]) (.cons (.bv 0) .nil) (.chk none (.build #[(.map none), (.int .i64 0), (.slice none 0 0), (.int .u64 0), (.int .u64 0)] [(0, 1), (1, 1), (2, 1), (3, 1), (4, 1)] [0, 1, 3, 4]) (.cons (.op (.build #[(.map none)] [(0, 1)] [0]) (.cons (.bv 0) .nil)) (.cons (.inp 0) (.cons (.inp 2) (.cons (.inp 2) .nil)))) (.eff (.box 81) (.cons (.op (.build #[(.map none), (.int .i64 0), (.slice none 0 0), (.int .u64 0), (.int .u64 0)] [(0, 1), (1, 1), (2, 1), (3, 1), (4, 1)] [0, 1, 3, 4]) (.cons (.op (.build #[(.map none)] [(0, 1)] [0]) (.cons (.bv 0) .nil)) (.cons (.inp 0) (.cons (.inp 2) (.cons (.inp 2) .nil))))) .nil) (.done [(5, (.bv 1))] none)))))) h20_15) Q env w := rfl
def h20_17 : HC := (.seq (.reg (.done [(3, (.cst (.pointer none))), (4, (.cst (.int .i64 2)))] none)) .ret)
@[simp] theorem h20_17_wp {P : Program} {F : PF P} {Q : EX → List Value → World → Prop} {env : List Value} {w : World} : h20_17.wp F Q env w = HC.wp F (.seq (.reg (.done [(3, (.cst (.pointer none))), (4, (.cst (.int .i64 2)))] none)) .ret) Q env w := rfl
def h20_18 : HC := (.seq (.reg (.done [(3, (.cst (.pointer none))), (4, (.cst (.int .i64 144)))] none)) .ret)
@[simp] theorem h20_18_wp {P : Program} {F : PF P} {Q : EX → List Value → World → Prop} {env : List Value} {w : World} : h20_18.wp F Q env w = HC.wp F (.seq (.reg (.done [(3, (.cst (.pointer none))), (4, (.cst (.int .i64 144)))] none)) .ret) Q env w := rfl
def h20_19 : HC := (.seq (.reg (.done [(3, (.cst (.pointer none))), (4, (.cst (.int .i64 141)))] none)) .ret)
@[simp] theorem h20_19_wp {P : Program} {F : PF P} {Q : EX → List Value → World → Prop} {env : List Value} {w : World} : h20_19.wp F Q env w = HC.wp F (.seq (.reg (.done [(3, (.cst (.pointer none))), (4, (.cst (.int .i64 141)))] none)) .ret) Q env w := rfl
def h20_20 : HC := (.seq (.reg (.done [(3, (.cst (.pointer none))), (4, (.cst (.int .i64 142)))] none)) .ret)
@[simp] theorem h20_20_wp {P : Program} {F : PF P} {Q : EX → List Value → World → Prop} {env : List Value} {w : World} : h20_20.wp F Q env w = HC.wp F (.seq (.reg (.done [(3, (.cst (.pointer none))), (4, (.cst (.int .i64 142)))] none)) .ret) Q env w := rfl
def h20_21 : HC := (.br (.chk none .lenL (.cons (.inp 1) .nil) (.chk none (.bin .eql) (.cons (.op .lenL (.cons (.inp 1) .nil)) (.cons (.cst (.int .i64 0)) .nil)) (.bnd (.op (.bin .eql) (.cons (.op .lenL (.cons (.inp 1) .nil)) (.cons (.cst (.int .i64 0)) .nil))) (.chk (some ((.bv 0), false)) (.idxL 2) (.cons (.inp 1) (.cons (.cst (.int .i64 0)) .nil)) (.chk (some ((.bv 0), false)) (.fld 0) (.cons (.op (.idxL 2) (.cons (.inp 1) (.cons (.cst (.int .i64 0)) .nil))) .nil) (.ite (.bv 0) false (.eff (.ld false 1) (.cons (.ite (.bv 0) false (.op (.fld 0) (.cons (.op (.idxL 2) (.cons (.inp 1) (.cons (.cst (.int .i64 0)) .nil))) .nil)) (.cst (.tuple #[]))) .nil) (.chk none (.bin .neq) (.cons (.bv 1) (.cons (.cst (.string ⟨#[98, 97, 110, 107]⟩)) .nil)) (.isb none (.bv 0) (.done [] (some (.op (.bin .neq) (.cons (.bv 1) (.cons (.cst (.string ⟨#[98, 97, 110, 107]⟩)) .nil)))))))) (.isb none (.bv 0) (.done [] (some (.cst (.bool true))))))))))) h20_20 .skip)
@[simp] theorem h20_21_wp {P : Program} {F : PF P} {Q : EX → List Value → World → Prop} {env : List Value} {w : World} : h20_21.wp F Q env w = HC.wp F (.br (.chk none .lenL (.cons (.inp 1) .nil) (.chk none (.bin .eql) (.cons (.op .lenL (.cons (.inp 1) .nil)) (.cons (.cst (.int .i64 0)) .nil)) (.bnd (.op (.bin .eql) (.cons (.op .lenL (.cons (.inp 1) .nil)) (.cons (.cst (.int .i64 0)) .nil))) (.chk (some ((.bv 0), false)) (.idxL 2) (.cons (.inp 1) (.cons (.cst (.int .i64 0)) .nil)) (.chk (some ((.bv 0), false)) (.fld 0) (.cons (.op (.idxL 2) (.cons (.inp 1) (.cons (.cst (.int .i64 0)) .nil))) .nil) (.ite (.bv 0) false (.eff (.ld false 1) (.cons (.ite (.bv 0) false (.op (.fld 0) (.cons (.op (.idxL 2) (.cons (.inp 1) (.cons (.cst (.int .i64 0)) .nil))) .nil)) (.cst (.tuple #[]))) .nil) (.chk none (.bin .neq) (.cons (.bv 1) (.cons (.cst (.string ⟨#[98, 97, 110, 107]⟩)) .nil)) (.isb none (.bv 0) (.done [] (some (.op (.bin .neq) (.cons (.bv 1) (.cons (.cst (.string ⟨#[98, 97, 110, 107]⟩)) .nil)))))))) (.isb none (.bv 0) (.done [] (some (.cst (.bool true))))))))))) h20_20 .skip) Q env w := rfl
def h20_22 : HC := (.br (.chk none .lenL (.cons (.inp 1) .nil) (.chk none (.bin .gtr) (.cons (.op .lenL (.cons (.inp 1) .nil)) (.cons (.inp 0) .nil)) (.done [] (some (.op (.bin .gtr) (.cons (.op .lenL (.cons (.inp 1) .nil)) (.cons (.inp 0) .nil))))))) h20_19 h20_21)
@[simp] theorem h20_22_wp {P : Program} {F : PF P} {Q : EX → List Value → World → Prop} {env : List Value} {w : World} : h20_22.wp F Q env w = HC.wp F (.br (.chk none .lenL (.cons (.inp 1) .nil) (.chk none (.bin .gtr) (.cons (.op .lenL (.cons (.inp 1) .nil)) (.cons (.inp 0) .nil)) (.done [] (some (.op (.bin .gtr) (.cons (.op .lenL (.cons (.inp 1) .nil)) (.cons (.inp 0) .nil))))))) h20_19 h20_21) Q env w := rfl
def h20_23 : HC := (.br (.chk none (.bin .gtr) (.cons (.inp 2) (.cons (.cst (.int .u64 4611686018427387904)) .nil)) (.done [] (some (.op (.bin .gtr) (.cons (.inp 2) (.cons (.cst (.int .u64 4611686018427387904)) .nil)))))) h20_18 h20_22)
@[simp] theorem h20_23_wp {P : Program} {F : PF P} {Q : EX → List Value → World → Prop} {env : List Value} {w : World} : h20_23.wp F Q env w = HC.wp F (.br (.chk none (.bin .gtr) (.cons (.inp 2) (.cons (.cst (.int .u64 4611686018427387904)) .nil)) (.done [] (some (.op (.bin .gtr) (.cons (.inp 2) (.cons (.cst (.int .u64 4611686018427387904)) .nil)))))) h20_18 h20_22) Q env w := rfl
def h20_24 : HC := (.br (.chk none (.bin .lss) (.cons (.inp 0) (.cons (.cst (.int .i64 1)) .nil)) (.bnd (.op (.bin .lss) (.cons (.inp 0) (.cons (.cst (.int .i64 1)) .nil))) (.chk (some ((.bv 0), false)) (.bin .gtr) (.cons (.inp 0) (.cons (.cst (.int .i64 64)) .nil)) (.isb none (.bv 0) (.done [] (some (.ite (.bv 0) true (.cst (.bool true)) (.op (.bin .gtr) (.cons (.inp 0) (.cons (.cst (.int .i64 64)) .nil)))))))))) h20_17 h20_23)
@[simp] theorem h20_24_wp {P : Program} {F : PF P} {Q : EX → List Value → World → Prop} {env : List Value} {w : World} : h20_24.wp F Q env w = HC.wp F (.br (.chk none (.bin .lss) (.cons (.inp 0) (.cons (.cst (.int .i64 1)) .nil)) (.bnd (.op (.bin .lss) (.cons (.inp 0) (.cons (.cst (.int .i64 1)) .nil))) (.chk (some ((.bv 0), false)) (.bin .gtr) (.cons (.inp 0) (.cons (.cst (.int .i64 64)) .nil)) (.isb none (.bv 0) (.done [] (some (.ite (.bv 0) true (.cst (.bool true)) (.op (.bin .gtr) (.cons (.inp 0) (.cons (.cst (.int .i64 64)) .nil)))))))))) h20_17 h20_23) Q env w := rfl
def h20_25 : HC := (.seq (.block 0 h20_24) h20_16)
@[simp] theorem h20_25_wp {P : Program} {F : PF P} {Q : EX → List Value → World → Prop} {env : List Value} {w : World} : h20_25.wp F Q env w = HC.wp F (.seq (.block 0 h20_24) h20_16) Q env w := rfl
def l20 : Lifted := ⟨[0, 1, 2, 6, 7, 8, 10, 12, 13, 14, 48, 49, 50], 96, [.slot 3, .slot 4], (.seq (.reg (.done [(3, (.cst (.pointer none))), (4, (.cst (.int .i64 0)))] none)) h20_25)⟩
theorem l20_ok : liftFn U0 20 400 = some l20 := by kernel_rfl

-- bazaar/purse.New
def h9_0 : HC := (.seq (.reg (.chk none (.build #[(.string ⟨#[]⟩), (.int .u64 0)] [(0, 1), (1, 1)] [0]) (.cons (.cst (.string ⟨#[98, 97, 110, 107]⟩)) .nil) (.eff (.bsl 66 1 2 #[(.string ⟨#[]⟩), (.int .u64 0)] [0]) (.cons (.op (.build #[(.string ⟨#[]⟩), (.int .u64 0)] [(0, 1), (1, 1)] [0]) (.cons (.cst (.string ⟨#[98, 97, 110, 107]⟩)) .nil)) .nil) (.eff (.call 20) (.cons (.inp 0) (.cons (.bv 0) (.cons (.cst (.int .u64 0)) .nil))) (.chk none (.ext 0) (.cons (.bv 1) .nil) (.chk none (.ext 1) (.cons (.bv 1) .nil) (.done [(1, (.op (.ext 0) (.cons (.bv 1) .nil))), (2, (.op (.ext 1) (.cons (.bv 1) .nil)))] none))))))) .ret)
@[simp] theorem h9_0_wp {P : Program} {F : PF P} {Q : EX → List Value → World → Prop} {env : List Value} {w : World} : h9_0.wp F Q env w = HC.wp F (.seq (.reg (.chk none (.build #[(.string ⟨#[]⟩), (.int .u64 0)] [(0, 1), (1, 1)] [0]) (.cons (.cst (.string ⟨#[98, 97, 110, 107]⟩)) .nil) (.eff (.bsl 66 1 2 #[(.string ⟨#[]⟩), (.int .u64 0)] [0]) (.cons (.op (.build #[(.string ⟨#[]⟩), (.int .u64 0)] [(0, 1), (1, 1)] [0]) (.cons (.cst (.string ⟨#[98, 97, 110, 107]⟩)) .nil)) .nil) (.eff (.call 20) (.cons (.inp 0) (.cons (.bv 0) (.cons (.cst (.int .u64 0)) .nil))) (.chk none (.ext 0) (.cons (.bv 1) .nil) (.chk none (.ext 1) (.cons (.bv 1) .nil) (.done [(1, (.op (.ext 0) (.cons (.bv 1) .nil))), (2, (.op (.ext 1) (.cons (.bv 1) .nil)))] none))))))) .ret) Q env w := rfl
def l9 : Lifted := ⟨[0, 2, 3], 10, [.slot 1, .slot 2], (.seq (.reg (.done [(1, (.cst (.pointer none))), (2, (.cst (.int .i64 0)))] none)) h9_0)⟩
theorem l9_ok : liftFn U0 9 400 = some l9 := by kernel_rfl


def bankB : List UInt8 := [98, 97, 110, 107]
def stepE (P : Ps) (a : Ac) : Int := if (openF P a.name).2.1 = 0 then (if P.held < a.coins then 144 else 0) else (openF P a.name).2.1
def stepP (P : Ps) (a : Ac) : Ps := { P with held := P.held - a.coins, rows := P.rows ++ [a] }
def loadL (P : Ps) : List Ac → Int × Ps
  | [] => (0, P)
  | a :: l => if stepE P a = 0 then loadL (stepP P a) l else (stepE P a, P)
def loadF (lim : Int) (rows : List Ac) (sup : Int) : Int × Ps :=
  if 1 ≤ lim ∧ lim ≤ 64 then
    if 4611686018427387904 < sup then (144, ⟨0, [], 0, 0⟩)
    else if lim < rows.length then (141, ⟨0, [], 0, 0⟩)
    else if (rows.getD 0 ⟨[], 0⟩).name = bankB then loadL ⟨lim, [], sup, sup⟩ rows
    else (142, ⟨0, [], 0, 0⟩)
  else (2, ⟨0, [], 0, 0⟩)
theorem open_ok {P : Ps} {x : List UInt8} (h : (openF P x).2.1 = 0) : (openF P x).2.2 = { P with rows := P.rows ++ [⟨x, 0⟩] } ∧ askB (keyF x) (keys P.rows) = false ∧ (P.rows.length : Int) ≠ P.lim ∧ (checkF x).2 = 0 := by
  unfold openF at h ⊢
  split at h
  · rename_i h1
    rw [if_pos h1]
    split at h
    · cases h
    · rename_i h2
      rw [if_neg h2]
      split at h
      · cases h
      · rename_i h3
        rw [if_neg h3]
        exact ⟨rfl, by simpa using h2, h3, h1⟩
  · rename_i h1
    exact absurd h h1
theorem open_bad {P : Ps} {x : List UInt8} (h : (openF P x).2.1 ≠ 0) : (openF P x).2.2 = P := by
  unfold openF at h ⊢
  split
  · split
    · rfl
    · split
      · rfl
      · rename_i h1 h2 h3
        rw [if_pos h1, if_neg h2, if_neg h3] at h
        exact absurd rfl h
  · rfl
def cls1 (X Y : World → Prop) : List Value → World → Prop
  | [], w => X w
  | _ :: _, w => Y w
@[simp] theorem cls1_nil (X Y : World → Prop) (w : World) : cls1 X Y [] w = X w := rfl
@[simp] theorem cls1_cons (X Y : World → Prop) (v : Value) (l : List Value) (w : World) : cls1 X Y (v :: l) w = Y w := rfl
theorem cls1_low {X Y : World → Prop} {R : Prop} {vs : List Value} {w : World} (h1 : X w → R) (h2 : Y w → R) (h : cls1 X Y vs w) : R := by
  cases vs with
  | nil => exact h1 h
  | cons _ _ => exact h2 h
theorem setC_last (l : List Ac) (x : List UInt8) (c : Int) : setC (l ++ [⟨x, 0⟩]) l.length c = l ++ [⟨x, c⟩] := by
  simp [setC]
theorem load_rest (lim : Int) (rows : List Ac) (sup : Int) (ra : Option Addr) (rcap : Nat) (w0 w : World) (A : Asn) (hl : rows.length ≤ 64) (hsup : 0 ≤ sup ∧ sup ≤ 4611686018427387904) (hn : ∀ x ∈ rows, x.name.length ≤ 1048576) (hc : ∀ x ∈ rows, 0 ≤ x.coins ∧ x.coins < 18446744073709551616)
    (hrow : Row w0 A (.slice ra rows.length rcap) rows.length 2 (flat rows)) (s : St w0 A w) :
    HC.wp U0 h20_16 (endQ Try.prog [RV.slot 3, RV.slot 4] fun r w' => if (loadL ⟨lim, [], sup, sup⟩ rows).1 = 0 then ∃ q, r = .tuple #[.pointer (some ⟨q, 0, none⟩), .int .i64 0] ∧ St w0 (A * pur q (loadL ⟨lim, [], sup, sup⟩ rows).2) w' else r = .tuple #[.pointer none, .int .i64 (loadL ⟨lim, [], sup, sup⟩ rows).1] ∧ St w0 A w')
      [.int .i64 lim, .slice ra rows.length rcap, .int .u64 sup, .pointer none, .int .i64 0, undef, undef, undef, undef, undef, undef, undef, undef] w := by
  simp
  refine eff_mkm s ?_
  intro m w1 s1
  simp [Instr.fill, Value.cells]
  refine eff_box s1 ?_
  intro p w2 s2
  simp
  have s3 : St w0 (A * pur p ⟨lim, [], sup, sup⟩) w2 := pclose (m := m) (v := .slice none 0 0) (P := ⟨lim, [], sup, sup⟩) (St.own_nil (s2.to (by ac_rfl)) _ _)
  clear s s1 s2
  generalize hP0 : (⟨lim, [], sup, sup⟩ : Ps) = P0 at *
  refine loopI (fun env w' => ∃ (i : Nat) (P : Ps) (o6 o7 o8 o9 : Value), env = [.int .i64 lim, .slice ra rows.length rcap, .int .u64 sup, .pointer none, .int .i64 0, .pointer (some ⟨p, 0, none⟩), o6, o7, o8, o9, .slice ra rows.length rcap, .int .i64 rows.length, .int .i64 i] ∧ i ≤ rows.length ∧
      loadL P0 rows = loadL P (rows.drop i) ∧ P.rows = rows.take i ∧ P.lim = lim ∧ P.sup = sup ∧ 0 ≤ P.held ∧ P.held ≤ sup ∧ St w0 (A * pur p P) w')
    (fun env _ => rows.length - slotN env 12) ⟨0, P0, _, _, _, _, rfl, by omega, rfl, by rw [← hP0]; rfl, by rw [← hP0], by rw [← hP0], by rw [← hP0]; exact hsup.1, by rw [← hP0]; exact Int.le_refl _, s3⟩ ?_
  clear s3
  rintro LQ env w' ⟨i, P, o6, o7, o8, o9, rfl, hi, hL, hPr, hPl, hPs, hh0, hh1, s⟩ hN hE hR
  simp
  refine cndI (fun h => ?_) (fun h => ?_)
  · simp at h
    have h : i < rows.length := by omega
    obtain ⟨g, o, gcap, hv, hcell⟩ := hrow.at (by omega)
    cases hv
    have hPlen : P.rows.length = i := by rw [hPr, List.length_take]; omega
    have hmem : rows[i] ∈ rows := List.getElem_mem h
    have hdrop : rows.drop i = rows[i] :: rows.drop (i + 1) := List.drop_eq_getElem_cons h
    have htk : rows.take (i + 1) = rows.take i ++ [rows[i]] := List.take_succ_eq_append_getElem h
    rw [hdrop] at hL
    have hna := hn _ hmem
    have hca := hc _ hmem
    obtain ⟨a, ha⟩ : ∃ a, rows[i] = a := ⟨_, rfl⟩
    rw [ha] at hmem hdrop htk hna hca hL
    simp [h]
    refine eff_ldcs (vs := a.cs) (fun j u hu => by rw [Nat.add_assoc]; exact hcell _ s.drop _ _ (flat_at h j u (by rw [ha]; exact hu))) rfl ?_
    simp
    refine eff_new s ?_
    intro b w3 s1
    simp
    refine eff_stA (vs := a.cs) s1 rfl rfl (cs_one _) (by simp) ?_
    intro w4 s2
    have s2 : St w0 (A * pur p P * pt b (.cells a.cs.toArray 66 (0, 0))) w4 := by simpa using s2
    simp
    refine eff_ldc (v := .string (mk a.name)) (by rw [cell_of s2.look]; rfl) ?_
    simp
    refine eff_call ((Open_spec p P a.name w0 w4 (A * pt b (.cells a.cs.toArray 66 (0, 0))) hna (by omega) (s2.to (by ac_rfl))).mono ?_)
    rintro r w5 ⟨rfl, s3⟩
    simp
    refine cndI (fun h1 => ?_) (fun h1 => ?_)
    · simp at h1
      have hse : stepE P a = (openF P a.name).2.1 := by unfold stepE; rw [if_neg h1]
      have hLL : loadL P0 rows = (stepE P a, P) := by rw [hL, loadL, if_neg (by rw [hse]; exact h1)]
      simp
      refine hR _ _ ?_
      simp
      rw [hLL, hse]
      simp [h1]
      rw [open_bad h1] at s3
      exact s3.drop.drop
    simp at h1
    obtain ⟨ho, hask, hlen, hchk⟩ := open_ok h1
    rw [ho] at s3
    simp
    obtain ⟨m2, v2, s4⟩ := popen s3
    clear s3
    generalize hB : (A * pt b (.cells a.cs.toArray 66 (0, 0)) * pt4 p { P with rows := P.rows ++ [⟨a.name, 0⟩] } m2 v2 * mpt m2 (P.rows ++ [(⟨a.name, 0⟩ : Ac)]) * own 66 2 v2 (P.rows ++ [(⟨a.name, 0⟩ : Ac)]).length (flat (P.rows ++ [(⟨a.name, 0⟩ : Ac)]))) = B
    have sB : St w0 B w5 := hB ▸ s4
    have hpc : ∀ {w}, St w0 B w → w.cell? ⟨p, 4, none⟩ = some (.int .u64 P.held) := fun h => by rw [← hB] at h; rw [cell_of h.drop.drop.look]; rfl
    have hbc : ∀ {w}, St w0 B w → w.cell? ⟨b, 1, none⟩ = some (.int .u64 a.coins) := fun h => by rw [← hB] at h; rw [cell_of h.drop.drop.drop.look]; rfl
    refine regmI (fun vs w => match vs with
      | [] => St w0 B w
      | r :: _ => r = .tuple #[.int .u64 (if P.held < a.coins then 0 else P.held - a.coins), .int .i64 (if P.held < a.coins then 11 else 0)] ∧ St w0 B w) sB.drew ?_
    simp
    refine effm_ldc (v := .int .u64 P.held) (fun vs' w he hw => ?_) ?_
    · match vs', hw with
      | [], hw => exact hpc hw
      | _ :: _, hw => exact hpc hw.2
    simp
    refine effm_ldc (v := .int .u64 a.coins) (fun vs' w he hw => ?_) ?_
    · match vs', hw with
      | [], hw => exact hbc hw
      | _ :: _, hw => exact hbc hw.2
    simp
    refine effm_mv rfl (fun w hw => eff_call ((take_spec P.held a.coins w (by omega) (by omega)).mono fun r w' h => ?_)) (fun r hr => ?_)
    · obtain ⟨rfl, rfl⟩ := h; exact ⟨rfl, hw⟩
    obtain ⟨_, rfl, _⟩ := hr
    simp
    intro w6 s6
    refine cndI (fun h2 => ?_) (fun h2 => ?_)
    · simp at h2
      have hse : stepE P a = 144 := by unfold stepE; rw [if_pos h1, if_pos h2]
      have hLL : loadL P0 rows = (stepE P a, P) := by rw [hL, loadL, if_neg (by rw [hse]; decide)]
      simp
      refine hR _ _ ?_
      simp
      rw [hLL, hse]
      simp
      rw [← hB] at s6
      exact s6.drop.drop.drop.drop
    simp at h2
    simp
    rw [if_neg (by omega)]
    rw [← hB] at s6
    refine eff_st1 (s6.to (B := A * pt b (.cells a.cs.toArray 66 (0, 0)) * mpt m2 (P.rows ++ [(⟨a.name, 0⟩ : Ac)]) * own 66 2 v2 (P.rows ++ [(⟨a.name, 0⟩ : Ac)]).length (flat (P.rows ++ [(⟨a.name, 0⟩ : Ac)])) * pt4 p { P with rows := P.rows ++ [⟨a.name, 0⟩] } m2 v2) (by ac_rfl)) rfl (by simp) ?_
    intro w7 s7
    simp only [List.setIfInBounds_toArray, List.set_cons_succ, List.set_cons_zero] at s7
    simp
    obtain ⟨g2, cap2, hv, _, _⟩ := s4.own_at (by simp)
    subst hv
    have hPl1 : (P.rows ++ [(⟨a.name, 0⟩ : Ac)]).length = i + 1 := by simp [hPlen]
    have s8 : St w0 (A * pt b (.cells a.cs.toArray 66 (0, 0)) * mpt m2 (P.rows ++ [(⟨a.name, 0⟩ : Ac)]) * pt4 p { P with held := P.held - a.coins } m2 (.slice (some ⟨g2, 0, none⟩) (P.rows ++ [(⟨a.name, 0⟩ : Ac)]).length cap2) * own 66 2 (.slice (some ⟨g2, 0, none⟩) (P.rows ++ [(⟨a.name, 0⟩ : Ac)]).length cap2) (P.rows ++ [(⟨a.name, 0⟩ : Ac)]).length (flat (P.rows ++ [(⟨a.name, 0⟩ : Ac)]))) w7 := s7.swap
    clear s7 s6
    have hii : i < (P.rows ++ [(⟨a.name, 0⟩ : Ac)]).length := by omega
    have hst : setC (P.rows ++ [(⟨a.name, 0⟩ : Ac)]) i a.coins = P.rows ++ [a] := by rw [← hPlen]; exact setC_last _ _ _
    have hfl := flat_len (P.rows ++ [(⟨a.name, 0⟩ : Ac)])
    generalize hC0 : (A * pt b (.cells a.cs.toArray 66 (0, 0)) * mpt m2 (P.rows ++ [(⟨a.name, 0⟩ : Ac)]) * pt4 p { P with held := P.held - a.coins } m2 (.slice (some ⟨g2, 0, none⟩) (P.rows ++ [(⟨a.name, 0⟩ : Ac)]).length cap2)) = C0 at s8
    have hpc : ∀ {w}, St w0 C0 w → w.cell? ⟨p, 2, none⟩ = some (.slice (some ⟨g2, 0, none⟩) (i + 1) cap2) := fun h => by rw [← hC0] at h; rw [cell_of h.look, ← hPl1]; rfl
    have hbc : ∀ {w}, St w0 C0 w → w.cell? ⟨b, 1, none⟩ = some (.int .u64 a.coins) := fun h => by rw [← hC0] at h; rw [cell_of h.drop.drop.look]; rfl
    refine regmI (cls1 (St w0 (C0 * own 66 2 (.slice (some ⟨g2, 0, none⟩) (P.rows ++ [(⟨a.name, 0⟩ : Ac)]).length cap2) (P.rows ++ [(⟨a.name, 0⟩ : Ac)]).length (flat (P.rows ++ [(⟨a.name, 0⟩ : Ac)]))))
      (St w0 (C0 * own 66 2 (.slice (some ⟨g2, 0, none⟩) (P.rows ++ [(⟨a.name, 0⟩ : Ac)]).length cap2) (P.rows ++ [(⟨a.name, 0⟩ : Ac)]).length (flat (P.rows ++ [a]))))) s8.drew ?_
    simp
    refine effm_ldc (v := .slice (some ⟨g2, 0, none⟩) (i + 1) cap2) (fun vs' w he hw => cls1_low (fun h => hpc h.drop) (fun h => hpc h.drop) hw) ?_
    simp
    refine effm_ldc (v := .slice (some ⟨g2, 0, none⟩) (i + 1) cap2) (fun vs' w he hw => cls1_low (fun h => hpc h.drop) (fun h => hpc h.drop) hw) ?_
    simp
    try simp (disch := omega) only [wrap64]
    refine effm_ldc (v := .int .u64 a.coins) (fun vs' w he hw => cls1_low (fun h => hbc h.drop) (fun h => hbc h.drop) hw) ?_
    have hwi : IntKind.i64.wrap (i : Int) = i := wrap64 (by omega) (by omega)
    simp [hwi]
    refine ⟨by omega, ?_⟩
    refine effm_mv (by rfl) (fun w hw => ?_) (fun r hr => ?_)
    · rw [cls1_nil] at hw
      refine eff_stC (u := .int .u64 a.coins) hw (by rw [hfl, hPl1]; omega) rfl fun w' h => ?_
      rw [setC_at hii, hst] at h
      exact h
    simp
    intro w8 s9
    try simp (disch := omega) only [wrap64]
    have hse : stepE P a = 0 := by unfold stepE; rw [if_pos h1, if_neg (by omega)]
    refine hN _ _ ⟨i + 1, stepP P a, _, _, _, _, by simp; exact ⟨rfl, rfl, rfl, rfl⟩, by omega, ?_, ?_, hPl, hPs, ?_, ?_, ?_⟩ (by simp [slotN]; omega)
    · rw [hL, loadL, if_pos hse]
    · rw [htk, ← hPr]; rfl
    · show 0 ≤ P.held - a.coins; omega
    · show P.held - a.coins ≤ sup; omega
    · have e1 : (P.rows ++ [(⟨a.name, 0⟩ : Ac)]).length = (stepP P a).rows.length := by simp [stepP]
      have e2 : keys (P.rows ++ [(⟨a.name, 0⟩ : Ac)]) = keys (stepP P a).rows := by simp [stepP, keys]
      have e3 : P.rows.length + 1 = (stepP P a).rows.length := by simp [stepP]
      rw [← hC0, mpt, e2, e1, e3] at s9
      have s10 : St w0 (A * pt b (.cells a.cs.toArray 66 (0, 0)) * mpt m2 (stepP P a).rows * pt4 p { P with held := P.held - a.coins } m2 (.slice (some ⟨g2, 0, none⟩) (stepP P a).rows.length cap2) * own 66 2 (.slice (some ⟨g2, 0, none⟩) (stepP P a).rows.length cap2) (stepP P a).rows.length (flat (P.rows ++ [a]))) w8 := s9
      refine pclose (m := m2) (v := .slice (some ⟨g2, 0, none⟩) (stepP P a).rows.length cap2) ?_
      exact St.cut (pt b (.cells a.cs.toArray 66 (0, 0))) s10 (by show _ = A * pt4 p { P with held := P.held - a.coins } m2 (.slice (some ⟨g2, 0, none⟩) (stepP P a).rows.length cap2) * mpt m2 (stepP P a).rows * own 66 2 (.slice (some ⟨g2, 0, none⟩) (stepP P a).rows.length cap2) (stepP P a).rows.length (flat (P.rows ++ [a])) * _; ac_rfl)
  simp at h
  simp
  refine hE _ _ _ ?_
  simp
  have hie : i = rows.length := by omega
  rw [hie, List.drop_length] at hL
  have hLL : loadL P0 rows = (0, P) := hL
  rw [hLL]
  simp
  exact s
theorem Load_spec (lim : Int) (rows : List Ac) (sup : Int) (v : Value) (w0 w : World) (A : Asn) (hl : rows.length ≤ 1048576) (hsup : 0 ≤ sup ∧ sup < 18446744073709551616) (hn : ∀ x ∈ rows, x.name.length ≤ 1048576) (hc : ∀ x ∈ rows, 0 ≤ x.coins ∧ x.coins < 18446744073709551616)
    (hrow : Row w0 A v rows.length 2 (flat rows)) (s : St w0 A w) :
    CallW Try.prog 20 [.int .i64 lim, v, .int .u64 sup] (fun r w' => if (loadF lim rows sup).1 = 0 then ∃ q, r = .tuple #[.pointer (some ⟨q, 0, none⟩), .int .i64 0] ∧ St w0 (A * pur q (loadF lim rows sup).2) w' else r = .tuple #[.pointer none, .int .i64 (loadF lim rows sup).1] ∧ St w0 A w') w := by
  obtain ⟨ra, rcap, rfl⟩ := hrow.val
  refine callW_of_lift l20_ok (by simp [l20]) ?_
  simp [l20]
  refine cndI (fun h => ?_) (fun h => ?_)
  · simp at h
    have e : (loadF lim rows sup).1 = 2 := by unfold loadF; rw [if_neg (by omega)]
    simp [e]
    exact s
  simp at h
  simp
  refine cndI (fun h1 => ?_) (fun h1 => ?_)
  · simp at h1
    have e : (loadF lim rows sup).1 = 144 := by unfold loadF; rw [if_pos (by omega), if_pos h1]
    simp [e]
    exact s
  simp at h1
  simp
  refine cndI (fun h2 => ?_) (fun h2 => ?_)
  · simp at h2
    have e : (loadF lim rows sup).1 = 141 := by unfold loadF; rw [if_pos (by omega), if_neg (by omega), if_pos h2]
    simp [e]
    exact s
  simp at h2
  by_cases hnil : rows = []
  · subst hnil
    simp
    have e : (loadF lim [] sup).1 = 142 := by unfold loadF; rw [if_pos (by omega), if_neg (by omega), if_neg (by simpa using h2), if_neg (by decide)]
    simp [e]
    exact s
  have hpos : 0 < rows.length := List.length_pos_iff.2 hnil
  obtain ⟨g, o, gcap, hv, hcell⟩ := hrow.at hpos
  cases hv
  simp [hnil, hpos]
  refine eff_ldc (v := .string (mk rows[0].name)) (hcell w s 0 _ (flat_name hpos)) ?_
  simp
  refine cndI (fun h3 => ?_) (fun h3 => ?_)
  · simp at h3
    have hnb : (rows.getD 0 ⟨[], 0⟩).name ≠ bankB := by
      simpa [hpos, bankB] using h3
    have e : (loadF lim rows sup).1 = 142 := by unfold loadF; rw [if_pos (by omega), if_neg (by omega), if_neg (by omega), if_neg hnb]
    rw [e]
    simp
    exact s
  have hb : (rows.getD 0 ⟨[], 0⟩).name = bankB := by
    simpa [hpos, bankB] using h3
  have e : loadF lim rows sup = loadL ⟨lim, [], sup, sup⟩ rows := by unfold loadF; rw [if_pos (by omega), if_neg (by omega), if_neg (by omega), if_pos hb]
  rw [e]
  simp
  simpa using load_rest lim rows sup _ rcap w0 w A (by omega) (by omega) hn hc hrow s
theorem bank_ok : (checkF bankB).2 = 0 := by decide +kernel
theorem new_ok {lim : Int} (h : 1 ≤ lim ∧ lim ≤ 64) : loadF lim [⟨bankB, 0⟩] 0 = (0, ⟨lim, [⟨bankB, 0⟩], 0, 0⟩) := by
  unfold loadF
  rw [if_pos h, if_neg (by decide), if_neg (by simp; omega), if_pos (by rfl)]
  have ho : (openF ⟨lim, [], 0, 0⟩ bankB).2.1 = 0 := by
    unfold openF
    rw [if_pos bank_ok]
    have : askB (keyF bankB) (keys []) = false := rfl
    simp [this]
    rw [if_neg (by omega)]
  have hs : stepE ⟨lim, [], 0, 0⟩ ⟨bankB, 0⟩ = 0 := by
    unfold stepE
    rw [if_pos ho]; rfl
  rw [loadL, if_pos hs]
  rfl
theorem new_bad {lim : Int} (h : ¬ (1 ≤ lim ∧ lim ≤ 64)) : (loadF lim [⟨bankB, 0⟩] 0).1 = 2 := by
  unfold loadF; rw [if_neg h]
theorem New_spec (lim : Int) (w0 w : World) (A : Asn) (s : St w0 A w) :
    CallW Try.prog 9 [.int .i64 lim] (fun r w' => if 1 ≤ lim ∧ lim ≤ 64 then ∃ q, r = .tuple #[.pointer (some ⟨q, 0, none⟩), .int .i64 0] ∧ St w0 (A * pur q ⟨lim, [⟨bankB, 0⟩], 0, 0⟩) w' else r = .tuple #[.pointer none, .int .i64 2] ∧ St w0 A w') w := by
  refine callW_of_lift l9_ok (by simp [l9]) ?_
  simp [l9, Instr.fill, Value.cells]
  refine eff_bslV s rfl ?_
  intro c w1 s1
  simp
  have hrow : Row w0 (A * pt c (.cells (Ac.cs ⟨bankB, 0⟩).toArray 66 (0, 0))) (.slice (some ⟨c, 0, none⟩) 1 1) 1 2 (flat [⟨bankB, 0⟩]) :=
    ⟨rfl, _, _, rfl, Nat.le_refl _, .inr ⟨c, 0, rfl, fun w s j u hu => s.row_cells j u hu⟩⟩
  refine eff_call ((Load_spec lim [⟨bankB, 0⟩] 0 (.slice (some ⟨c, 0, none⟩) 1 1) w0 w1 _ (by decide) (by decide) (by simp [bankB]) (by simp) hrow s1).mono ?_)
  intro r w2 h2
  by_cases h : 1 ≤ lim ∧ lim ≤ 64
  · rw [new_ok h] at h2
    simp only [if_true] at h2
    obtain ⟨q, rfl, s2⟩ := h2
    simp [h]
    exact St.cut (pt c (.cells (Ac.cs ⟨bankB, 0⟩).toArray 66 (0, 0))) s2 (by ac_rfl)
  · have e := new_bad h
    rw [e] at h2
    simp only [if_neg (show ¬ (2 : Int) = 0 by decide)] at h2
    obtain ⟨rfl, s2⟩ := h2
    simp [h]
    exact s2.drop
end Go.HL.Pu

namespace Go.HL
set_option linter.unusedSimpArgs false
set_option linter.unusedVariables false
section
variable {P : Program} {K : Value → World → Prop} {w w0 : World} {F : Asn}
/-- a slice and what it was gone on with: the same memory, or two rows -/
def grw (e size : Nat) (v v' : Value) (n m : Nat) (xs ys : List Value) : Asn := fun h =>
  (∃ g cap, v = .slice (some ⟨g, 0, none⟩) n cap ∧ v' = .slice (some ⟨g, 0, none⟩) (n + m) cap ∧ xs.length = n * size ∧ own e size v' (n + m) (xs ++ ys) h) ∨
  (own e size v n xs * own e size v' (n + m) (xs ++ ys)) h
theorem St.grw {e size : Nat} {v v' : Value} {n m : Nat} {xs ys : List Value} (s : St w0 (F * HL.grw e size v v' n m xs ys) w) :
    (∃ g cap, v = .slice (some ⟨g, 0, none⟩) n cap ∧ v' = .slice (some ⟨g, 0, none⟩) (n + m) cap ∧ xs.length = n * size ∧ St w0 (F * HL.own e size v' (n + m) (xs ++ ys)) w) ∨
    St w0 (F * (HL.own e size v n xs * HL.own e size v' (n + m) (xs ++ ys))) w := by
  obtain ⟨g, h1, h2, h3, d, e', a, b⟩ := s.holds
  rcases b with ⟨g', cap, k1, k2, k3, k4⟩ | k
  · exact .inl ⟨g', cap, k1, k2, k3, s.of ⟨g, h1, h2, h3, d, e', a, k4⟩⟩
  · exact .inr (s.of ⟨g, h1, h2, h3, d, e', a, k⟩)
theorem own_less {e size g n m cap : Nat} {xs ys : List Value} (hl : xs.length = n * size) {h : _} (hh : own e size (.slice (some ⟨g, 0, none⟩) (n + m) cap) (n + m) (xs ++ ys) h) : own e size (.slice (some ⟨g, 0, none⟩) n cap) n xs h := by
  refine ⟨hl, .inr ?_⟩
  rcases hh.2 with ⟨h1, _⟩ | ⟨g', cap', cur, h1, h2, h3, h4, h5, h6⟩
  · cases h1
  · cases h1
    refine ⟨g, cap, cur, rfl, by omega, h3, h4, ?_, h6⟩
    have : (cur.toList.take ((n + m) * size)).take (n * size) = (xs ++ ys).take (n * size) := by rw [h5]
    rw [List.take_take, Nat.min_eq_left (Nat.mul_le_mul_right _ (by omega)), ← hl, List.take_left] at this
    rw [← hl]; exact this
end
/-- a product by index -/
def prodA (f : Nat → Asn) : Nat → Asn
  | 0 => emp
  | n + 1 => prodA f n * f n
theorem prodA_congr {f g : Nat → Asn} : ∀ {n : Nat}, (∀ j, j < n → f j = g j) → prodA f n = prodA g n
  | 0, _ => rfl
  | n + 1, h => by
    show prodA f n * f n = prodA g n * g n
    rw [prodA_congr fun j hj => h j (by omega), h n (by omega)]
theorem emp_sep (A : Asn) : emp * A = A := by
  have : emp * A = A * emp := by ac_rfl
  rw [this, sep_emp]
theorem prodA_at {f : Nat → Asn} {i : Nat} : ∀ {n : Nat}, i < n → prodA f n = prodA (fun j => if j = i then emp else f j) n * f i
  | n + 1, h => by
    show prodA f n * f n = prodA (fun j => if j = i then emp else f j) n * (if n = i then emp else f n) * f i
    by_cases e : n = i
    · subst e
      rw [if_pos rfl, sep_emp, prodA_congr (f := fun j => if j = n then emp else f j) (g := f) fun j hj => if_neg (by omega)]
    · rw [if_neg e, prodA_at (f := f) (by omega : i < n)]; ac_rfl
section
variable {α : Type}
def bigA (F : Nat → α → Asn) (Y : Nat → α) (n : Nat) : Asn := prodA (fun j => F j (Y j)) n
def bigH (F : Nat → α → Asn) (Y : Nat → α) (i n : Nat) : Asn := prodA (fun j => if j = i then emp else F j (Y j)) n
def upF (Y : Nat → α) (i : Nat) (y : α) : Nat → α := fun j => if j = i then y else Y j
theorem big_at {F : Nat → α → Asn} {Y : Nat → α} {i n : Nat} (h : i < n) : bigA F Y n = bigH F Y i n * F i (Y i) := prodA_at h
theorem big_set {F : Nat → α → Asn} {Y : Nat → α} {i n : Nat} (h : i < n) (y : α) : bigA F (upF Y i y) n = bigH F Y i n * F i y := by
  rw [big_at h]
  have e : upF Y i y i = y := if_pos rfl
  rw [e]
  congr 1
  exact prodA_congr fun j hj => by
    by_cases e : j = i
    · rw [if_pos e, if_pos e]
    · rw [if_neg e, if_neg e]; simp only [upF, if_neg e]
theorem upF_at (Y : Nat → α) (i : Nat) (y : α) : upF Y i y i = y := if_pos rfl
theorem upF_ne (Y : Nat → α) {i j : Nat} (y : α) (h : j ≠ i) : upF Y i y j = Y j := if_neg h
end
end Go.HL

namespace Go.HL
set_option maxRecDepth 4000
set_option linter.unusedSimpArgs false
set_option linter.unusedVariables false
theorem foldl_off (o : Nat) : ∀ (vs : List Value) (j : Nat) (c : Array Value), (vs.zipIdx j).foldl (fun (cs : Array Value) x => cs.setIfInBounds (o + x.2) x.1) c = (vs.zipIdx (o + j)).foldl (fun (cs : Array Value) x => cs.setIfInBounds x.2 x.1) c
  | [], _, _ => rfl
  | v :: vs, j, c => by
    rw [List.zipIdx_cons, List.zipIdx_cons, List.foldl_cons, List.foldl_cons, foldl_off o vs (j + 1)]
    rfl
theorem fillN (size : Nat) : ∀ (vs : List Value) (k : Nat) (c : List Value), (∀ v ∈ vs, v.cells.size = size) → (k + vs.length) * size ≤ c.length →
    Instr.fill (fun i => some (i * size, size)) c.toArray ((List.range' k vs.length).zip vs) = some (c.take (k * size) ++ vs.flatMap (fun v => v.cells.toList) ++ c.drop ((k + vs.length) * size)).toArray
  | [], k, c, _, _ => by simp [Instr.fill]
  | v :: vs, k, c, hv, hc => by
    have h0 : v.cells.size = size := hv v (List.mem_cons_self ..)
    have hle : (k + 1 + vs.length) * size ≤ c.length := by
      have : k + (v :: vs).length = k + 1 + vs.length := by simp; omega
      rw [this] at hc; exact hc
    have hk1 : (k + 1) * size = k * size + size := Nat.succ_mul k size
    have hadd : (k + 1 + vs.length) * size = k * size + size + vs.length * size := by rw [Nat.add_mul, hk1]
    rw [List.length_cons, List.range'_succ, List.zip_cons_cons]
    simp only [Instr.fill, h0]
    rw [if_neg (by simp; omega)]
    have hsz : v.cells.toList.length = size := by rw [Array.length_toList, h0]
    have hf : v.cells.zipIdx.foldl (fun (cs : Array Value) (x : Value × Nat) => cs.setIfInBounds (k * size + x.2) x.1) c.toArray = (c.take (k * size) ++ v.cells.toList ++ c.drop (k * size + size)).toArray := by
      have e : v.cells.zipIdx = (v.cells.toList.zipIdx 0).toArray := by
        apply Array.ext'
        simp
      rw [e, List.foldl_toArray']
      · rw [foldl_off, Nat.add_zero, foldl_set v.cells.toList (k * size) c (by rw [hsz]; omega), hsz]
      · rfl
    rw [hf]
    have ih := fillN size vs (k + 1) (c.take (k * size) ++ v.cells.toList ++ c.drop (k * size + size)) (fun u hu => hv u (List.mem_cons_of_mem _ hu)) (by
      simp only [List.length_append, List.length_take, List.length_drop, hsz]; omega)
    rw [ih]
    congr 2
    have l1 : (c.take (k * size)).length = k * size := by rw [List.length_take]; omega
    have l2 : (c.take (k * size) ++ v.cells.toList).length = (k + 1) * size := by rw [List.length_append, l1, hsz, hk1]
    have t1 : (c.take (k * size) ++ v.cells.toList ++ c.drop (k * size + size)).take ((k + 1) * size) = c.take (k * size) ++ v.cells.toList := by
      rw [← l2]; exact List.take_left
    have t2 : (c.take (k * size) ++ v.cells.toList ++ c.drop (k * size + size)).drop ((k + 1 + vs.length) * size) = c.drop ((k + (vs.length + 1)) * size) := by
      have e2 : (k + (vs.length + 1)) * size = (k + 1 + vs.length) * size := by congr 1; omega
      rw [List.drop_append, l2, List.drop_of_length_le (by rw [l2, hadd, hk1]; omega), List.nil_append, List.drop_drop, e2]
      congr 1
      rw [hadd, hk1]; omega
    rw [t1, t2]
    simp [List.flatMap_cons, List.append_assoc]
/-- a slice of several, built -/
theorem eff_bslN {P : Program} {K : Value → World → Prop} {w w0 : World} {F : Asn} {e size n : Nat} {z : Array Value} {vs : List Value} {ix : List Nat} (s : St w0 F w) (hv : ∀ v ∈ vs, v.cells.size = size) (hn : vs.length = n) (hix : ix = List.range' 0 n) (hm : n ≤ maxLen)
    (hk : ∀ v w', St w0 (F * own e size v n (vs.flatMap fun v => v.cells.toList)) w' → K v w') : EffW P (.bsl e n size z ix) vs K w := by
  subst hix hn
  have hl : ((Array.range (vs.length * size)).map fun i => z[i % z.size]!).size = vs.length * size := by simp
  have hfl : (vs.flatMap fun v => v.cells.toList).length = vs.length * size := by
    clear hl s hk hm
    induction vs with
    | nil => simp
    | cons v vs ih =>
      rw [List.flatMap_cons, List.length_append, ih (fun u hu => hv u (List.mem_cons_of_mem _ hu)), Array.length_toList, hv v (List.mem_cons_self ..), List.length_cons, Nat.succ_mul]; omega
  refine eff_bsl (cells := (vs.flatMap fun v => v.cells.toList).toArray) s ?_ fun b w' s' => hk _ w' (s'.own_mk (Nat.le_refl _) hm (by rw [List.size_toArray, hfl]) (by rw [← hfl]; exact List.take_length))
  have := fillN size vs 0 ((Array.range (vs.length * size)).map fun i => z[i % z.size]!).toList hv (by simp)
  rw [Array.toArray_toList] at this
  refine this.trans ?_
  rw [Nat.zero_mul, List.take_zero, List.nil_append, Nat.zero_add, List.drop_of_length_le (by rw [Array.length_toList, hl]; exact Nat.le_refl _), List.append_nil]
/-- .. of single values -/
theorem eff_bslO {P : Program} {K : Value → World → Prop} {w w0 : World} {F : Asn} {e n : Nat} {z : Array Value} {vs : List Value} {ix : List Nat} (s : St w0 F w) (hv : ∀ v ∈ vs, v.oneCell' = true) (hn : vs.length = n) (hix : ix = List.range' 0 n) (hm : n ≤ maxLen)
    (hk : ∀ v w', St w0 (F * own e 1 v n vs) w' → K v w') : EffW P (.bsl e n 1 z ix) vs K w := by
  have hc : ∀ v ∈ vs, v.cells = #[v] := fun v h => by
    have := hv v h
    cases v <;> first | rfl | (simp [Value.oneCell'] at this)
  refine eff_bslN s (fun v h => by rw [hc v h]; rfl) hn hix hm fun v w' s' => hk v w' ?_
  have e : (vs.flatMap fun v => v.cells.toList) = vs := by
    clear s hk hn hix hm s' hv
    induction vs with
    | nil => rfl
    | cons v vs ih => rw [List.flatMap_cons, hc v (List.mem_cons_self ..), ih fun u hu => hc u (List.mem_cons_of_mem _ hu)]; rfl
  rw [e] at s'
  exact s'
end Go.HL

namespace Go.HL.Pu
open Go.HL Go.HL.Nm Go.Proofs
set_option maxRecDepth 4000
set_option linter.unusedSimpArgs false
set_option linter.unusedVariables false
noncomputable def numS : PS Try.prog where
  f := 10
  val args := match args with
    | [.int _ u] => .int .i64 u
    | _ => undef
  ok args := match args with
    | [.int k _] => k = .i64
    | _ => False
  sound args w h := by
    split at h
    · rename_i k u
      subst h
      exact num_spec u w
    · exact h.elim
noncomputable abbrev U1 : PF Try.prog := PF.of [numS]
@[simp] theorem U1_num_val (args : List Value) : U1.val 10 args = numS.val args := rfl
@[simp] theorem U1_num_ok (args : List Value) : U1.ok 10 args = numS.ok args := rfl
@[simp] theorem num_val (u : Int) : numS.val [.int .i64 u] = .int .i64 u := rfl
@[simp] theorem num_ok (u : Int) : numS.ok [.int .i64 u] = (IntKind.i64 = .i64) := rfl
-- bazaar/bazaarlaw14.given
-- bazaar/bazaarlaw14.awake
-- bazaar/bazaarlaw14.ints
def h38_0 : HC := (.seq (.reg (.done [(2, (.cst (.bool true)))] none)) .ret)
@[simp] theorem h38_0_wp {P : Program} {F : PF P} {Q : EX → List Value → World → Prop} {env : List Value} {w : World} : h38_0.wp F Q env w = HC.wp F (.seq (.reg (.done [(2, (.cst (.bool true)))] none)) .ret) Q env w := rfl
def h38_1 : HC := (.reg (.chk none (.bin .add) (.cons (.inp 3) (.cons (.cst (.int .i64 1)) .nil)) (.done [(3, (.op (.bin .add) (.cons (.inp 3) (.cons (.cst (.int .i64 1)) .nil))))] none)))
@[simp] theorem h38_1_wp {P : Program} {F : PF P} {Q : EX → List Value → World → Prop} {env : List Value} {w : World} : h38_1.wp F Q env w = HC.wp F (.reg (.chk none (.bin .add) (.cons (.inp 3) (.cons (.cst (.int .i64 1)) .nil)) (.done [(3, (.op (.bin .add) (.cons (.inp 3) (.cons (.cst (.int .i64 1)) .nil))))] none))) Q env w := rfl
def h38_2 : HC := (.seq (.reg (.done [(2, (.cst (.bool false)))] none)) .ret)
@[simp] theorem h38_2_wp {P : Program} {F : PF P} {Q : EX → List Value → World → Prop} {env : List Value} {w : World} : h38_2.wp F Q env w = HC.wp F (.seq (.reg (.done [(2, (.cst (.bool false)))] none)) .ret) Q env w := rfl
def h38_3 : HC := (.brq (some 0) (.chk none (.idxL 1) (.cons (.inp 0) (.cons (.inp 3) .nil)) (.eff (.ld false 1) (.cons (.op (.idxL 1) (.cons (.inp 0) (.cons (.inp 3) .nil))) .nil) (.chk none (.idxL 1) (.cons (.inp 1) (.cons (.inp 3) .nil)) (.eff (.ld false 1) (.cons (.op (.idxL 1) (.cons (.inp 1) (.cons (.inp 3) .nil))) .nil) (.chk none (.bin .neq) (.cons (.bv 0) (.cons (.bv 1) .nil)) (.done [] (some (.op (.bin .neq) (.cons (.bv 0) (.cons (.bv 1) .nil)))))))))) h38_2 .skip)
@[simp] theorem h38_3_wp {P : Program} {F : PF P} {Q : EX → List Value → World → Prop} {env : List Value} {w : World} : h38_3.wp F Q env w = HC.wp F (.brq (some 0) (.chk none (.idxL 1) (.cons (.inp 0) (.cons (.inp 3) .nil)) (.eff (.ld false 1) (.cons (.op (.idxL 1) (.cons (.inp 0) (.cons (.inp 3) .nil))) .nil) (.chk none (.idxL 1) (.cons (.inp 1) (.cons (.inp 3) .nil)) (.eff (.ld false 1) (.cons (.op (.idxL 1) (.cons (.inp 1) (.cons (.inp 3) .nil))) .nil) (.chk none (.bin .neq) (.cons (.bv 0) (.cons (.bv 1) .nil)) (.done [] (some (.op (.bin .neq) (.cons (.bv 0) (.cons (.bv 1) .nil)))))))))) h38_2 .skip) Q env w := rfl
def h38_4 : HC := (.seq (.block 1 h38_3) h38_1)
@[simp] theorem h38_4_wp {P : Program} {F : PF P} {Q : EX → List Value → World → Prop} {env : List Value} {w : World} : h38_4.wp F Q env w = HC.wp F (.seq (.block 1 h38_3) h38_1) Q env w := rfl
def h38_5 : HC := (.seq (.br (.chk none .lenL (.cons (.inp 0) .nil) (.chk none (.bin .lss) (.cons (.inp 3) (.cons (.op .lenL (.cons (.inp 0) .nil)) .nil)) (.done [] (some (.op (.bin .lss) (.cons (.inp 3) (.cons (.op .lenL (.cons (.inp 0) .nil)) .nil))))))) .skip (.exit 0)) h38_4)
@[simp] theorem h38_5_wp {P : Program} {F : PF P} {Q : EX → List Value → World → Prop} {env : List Value} {w : World} : h38_5.wp F Q env w = HC.wp F (.seq (.br (.chk none .lenL (.cons (.inp 0) .nil) (.chk none (.bin .lss) (.cons (.inp 3) (.cons (.op .lenL (.cons (.inp 0) .nil)) .nil)) (.done [] (some (.op (.bin .lss) (.cons (.inp 3) (.cons (.op .lenL (.cons (.inp 0) .nil)) .nil))))))) .skip (.exit 0)) h38_4) Q env w := rfl
def h38_6 : HC := (.loop h38_5)
@[simp] theorem h38_6_wp {P : Program} {F : PF P} {Q : EX → List Value → World → Prop} {env : List Value} {w : World} : h38_6.wp F Q env w = HC.wp F (.loop h38_5) Q env w := rfl
def h38_7 : HC := (.seq (.block 0 h38_6) h38_0)
@[simp] theorem h38_7_wp {P : Program} {F : PF P} {Q : EX → List Value → World → Prop} {env : List Value} {w : World} : h38_7.wp F Q env w = HC.wp F (.seq (.block 0 h38_6) h38_0) Q env w := rfl
def h38_8 : HC := (.seq (.reg (.done [(3, (.cst (.int .i64 0)))] none)) h38_7)
@[simp] theorem h38_8_wp {P : Program} {F : PF P} {Q : EX → List Value → World → Prop} {env : List Value} {w : World} : h38_8.wp F Q env w = HC.wp F (.seq (.reg (.done [(3, (.cst (.int .i64 0)))] none)) h38_7) Q env w := rfl
def h38_9 : HC := (.seq (.reg (.done [(2, (.cst (.bool false)))] none)) .ret)
@[simp] theorem h38_9_wp {P : Program} {F : PF P} {Q : EX → List Value → World → Prop} {env : List Value} {w : World} : h38_9.wp F Q env w = HC.wp F (.seq (.reg (.done [(2, (.cst (.bool false)))] none)) .ret) Q env w := rfl
def h38_10 : HC := (.seq (.br (.chk none .lenL (.cons (.inp 0) .nil) (.chk none .lenL (.cons (.inp 1) .nil) (.chk none (.bin .neq) (.cons (.op .lenL (.cons (.inp 0) .nil)) (.cons (.op .lenL (.cons (.inp 1) .nil)) .nil)) (.done [] (some (.op (.bin .neq) (.cons (.op .lenL (.cons (.inp 0) .nil)) (.cons (.op .lenL (.cons (.inp 1) .nil)) .nil)))))))) h38_9 .skip) h38_8)
@[simp] theorem h38_10_wp {P : Program} {F : PF P} {Q : EX → List Value → World → Prop} {env : List Value} {w : World} : h38_10.wp F Q env w = HC.wp F (.seq (.br (.chk none .lenL (.cons (.inp 0) .nil) (.chk none .lenL (.cons (.inp 1) .nil) (.chk none (.bin .neq) (.cons (.op .lenL (.cons (.inp 0) .nil)) (.cons (.op .lenL (.cons (.inp 1) .nil)) .nil)) (.done [] (some (.op (.bin .neq) (.cons (.op .lenL (.cons (.inp 0) .nil)) (.cons (.op .lenL (.cons (.inp 1) .nil)) .nil)))))))) h38_9 .skip) h38_8) Q env w := rfl
def l38 : Lifted := ⟨[0, 1, 4, 5], 26, [.slot 2], (.seq (.reg (.done [(2, (.cst (.bool false)))] none)) h38_10)⟩
theorem l38_ok : liftFn U1 38 400 = some l38 := by kernel_rfl

-- bazaar/bazaarlaw14.rows
def h43_0 : HC := (.seq (.reg (.done [(2, (.cst (.bool true)))] none)) .ret)
@[simp] theorem h43_0_wp {P : Program} {F : PF P} {Q : EX → List Value → World → Prop} {env : List Value} {w : World} : h43_0.wp F Q env w = HC.wp F (.seq (.reg (.done [(2, (.cst (.bool true)))] none)) .ret) Q env w := rfl
def h43_1 : HC := (.reg (.chk none (.bin .add) (.cons (.inp 3) (.cons (.cst (.int .i64 1)) .nil)) (.done [(3, (.op (.bin .add) (.cons (.inp 3) (.cons (.cst (.int .i64 1)) .nil))))] none)))
@[simp] theorem h43_1_wp {P : Program} {F : PF P} {Q : EX → List Value → World → Prop} {env : List Value} {w : World} : h43_1.wp F Q env w = HC.wp F (.reg (.chk none (.bin .add) (.cons (.inp 3) (.cons (.cst (.int .i64 1)) .nil)) (.done [(3, (.op (.bin .add) (.cons (.inp 3) (.cons (.cst (.int .i64 1)) .nil))))] none))) Q env w := rfl
def h43_2 : HC := (.seq (.reg (.done [(2, (.cst (.bool false)))] none)) .ret)
@[simp] theorem h43_2_wp {P : Program} {F : PF P} {Q : EX → List Value → World → Prop} {env : List Value} {w : World} : h43_2.wp F Q env w = HC.wp F (.seq (.reg (.done [(2, (.cst (.bool false)))] none)) .ret) Q env w := rfl
def h43_3 : HC := (.brq (some 0) (.chk none (.idxL 2) (.cons (.inp 0) (.cons (.inp 3) .nil)) (.eff (.ld true 2) (.cons (.op (.idxL 2) (.cons (.inp 0) (.cons (.inp 3) .nil))) .nil) (.chk none (.idxL 2) (.cons (.inp 1) (.cons (.inp 3) .nil)) (.eff (.ld true 2) (.cons (.op (.idxL 2) (.cons (.inp 1) (.cons (.inp 3) .nil))) .nil) (.eff (.bin .neq 66 (.tmp 20) (.tmp 24)) (.cons (.bv 0) (.cons (.bv 1) .nil)) (.done [] (some (.bv 2)))))))) h43_2 .skip)
@[simp] theorem h43_3_wp {P : Program} {F : PF P} {Q : EX → List Value → World → Prop} {env : List Value} {w : World} : h43_3.wp F Q env w = HC.wp F (.brq (some 0) (.chk none (.idxL 2) (.cons (.inp 0) (.cons (.inp 3) .nil)) (.eff (.ld true 2) (.cons (.op (.idxL 2) (.cons (.inp 0) (.cons (.inp 3) .nil))) .nil) (.chk none (.idxL 2) (.cons (.inp 1) (.cons (.inp 3) .nil)) (.eff (.ld true 2) (.cons (.op (.idxL 2) (.cons (.inp 1) (.cons (.inp 3) .nil))) .nil) (.eff (.bin .neq 66 (.tmp 20) (.tmp 24)) (.cons (.bv 0) (.cons (.bv 1) .nil)) (.done [] (some (.bv 2)))))))) h43_2 .skip) Q env w := rfl
def h43_4 : HC := (.seq (.block 1 h43_3) h43_1)
@[simp] theorem h43_4_wp {P : Program} {F : PF P} {Q : EX → List Value → World → Prop} {env : List Value} {w : World} : h43_4.wp F Q env w = HC.wp F (.seq (.block 1 h43_3) h43_1) Q env w := rfl
def h43_5 : HC := (.seq (.br (.chk none .lenL (.cons (.inp 0) .nil) (.chk none (.bin .lss) (.cons (.inp 3) (.cons (.op .lenL (.cons (.inp 0) .nil)) .nil)) (.done [] (some (.op (.bin .lss) (.cons (.inp 3) (.cons (.op .lenL (.cons (.inp 0) .nil)) .nil))))))) .skip (.exit 0)) h43_4)
@[simp] theorem h43_5_wp {P : Program} {F : PF P} {Q : EX → List Value → World → Prop} {env : List Value} {w : World} : h43_5.wp F Q env w = HC.wp F (.seq (.br (.chk none .lenL (.cons (.inp 0) .nil) (.chk none (.bin .lss) (.cons (.inp 3) (.cons (.op .lenL (.cons (.inp 0) .nil)) .nil)) (.done [] (some (.op (.bin .lss) (.cons (.inp 3) (.cons (.op .lenL (.cons (.inp 0) .nil)) .nil))))))) .skip (.exit 0)) h43_4) Q env w := rfl
def h43_6 : HC := (.loop h43_5)
@[simp] theorem h43_6_wp {P : Program} {F : PF P} {Q : EX → List Value → World → Prop} {env : List Value} {w : World} : h43_6.wp F Q env w = HC.wp F (.loop h43_5) Q env w := rfl
def h43_7 : HC := (.seq (.block 0 h43_6) h43_0)
@[simp] theorem h43_7_wp {P : Program} {F : PF P} {Q : EX → List Value → World → Prop} {env : List Value} {w : World} : h43_7.wp F Q env w = HC.wp F (.seq (.block 0 h43_6) h43_0) Q env w := rfl
def h43_8 : HC := (.seq (.reg (.done [(3, (.cst (.int .i64 0)))] none)) h43_7)
@[simp] theorem h43_8_wp {P : Program} {F : PF P} {Q : EX → List Value → World → Prop} {env : List Value} {w : World} : h43_8.wp F Q env w = HC.wp F (.seq (.reg (.done [(3, (.cst (.int .i64 0)))] none)) h43_7) Q env w := rfl
def h43_9 : HC := (.seq (.reg (.done [(2, (.cst (.bool false)))] none)) .ret)
@[simp] theorem h43_9_wp {P : Program} {F : PF P} {Q : EX → List Value → World → Prop} {env : List Value} {w : World} : h43_9.wp F Q env w = HC.wp F (.seq (.reg (.done [(2, (.cst (.bool false)))] none)) .ret) Q env w := rfl
def h43_10 : HC := (.seq (.br (.chk none .lenL (.cons (.inp 0) .nil) (.chk none .lenL (.cons (.inp 1) .nil) (.chk none (.bin .neq) (.cons (.op .lenL (.cons (.inp 0) .nil)) (.cons (.op .lenL (.cons (.inp 1) .nil)) .nil)) (.done [] (some (.op (.bin .neq) (.cons (.op .lenL (.cons (.inp 0) .nil)) (.cons (.op .lenL (.cons (.inp 1) .nil)) .nil)))))))) h43_9 .skip) h43_8)
@[simp] theorem h43_10_wp {P : Program} {F : PF P} {Q : EX → List Value → World → Prop} {env : List Value} {w : World} : h43_10.wp F Q env w = HC.wp F (.seq (.br (.chk none .lenL (.cons (.inp 0) .nil) (.chk none .lenL (.cons (.inp 1) .nil) (.chk none (.bin .neq) (.cons (.op .lenL (.cons (.inp 0) .nil)) (.cons (.op .lenL (.cons (.inp 1) .nil)) .nil)) (.done [] (some (.op (.bin .neq) (.cons (.op .lenL (.cons (.inp 0) .nil)) (.cons (.op .lenL (.cons (.inp 1) .nil)) .nil)))))))) h43_9 .skip) h43_8) Q env w := rfl
def l43 : Lifted := ⟨[0, 1, 4, 5], 26, [.slot 2], (.seq (.reg (.done [(2, (.cst (.bool false)))] none)) h43_10)⟩
theorem l43_ok : liftFn U1 43 400 = some l43 := by kernel_rfl


def bdB (P : Ps) : Bool := decide (∀ x ∈ P.rows, 0 ≤ x.coins ∧ x.coins ≤ 4611686018427387904) && decide (0 ≤ P.held ∧ P.held ≤ 4611686018427387904) && decide (0 ≤ P.sup ∧ P.sup ≤ 4611686018427387904) && decide (P.rows.length ≤ 64)
def givN : List (List UInt8) := [[65, 110, 110], [65, 78, 78], [97, 32], [66, 111, 98], [67, 105, 100]]
def givS (x : List UInt8) (r : Ps × List Int) : Ps × List Int := ((openF r.1 x).2.2, r.2 ++ [(openF r.1 x).1, (openF r.1 x).2.1])
def giv : Nat → Ps × List Int
  | 0 => (⟨3, [⟨bankB, 0⟩], 0, 0⟩, [0])
  | n + 1 => givS (givN.getD n []) (giv n)
def G5 : Ps := ⟨3, [⟨bankB, 0⟩, ⟨[65, 110, 110], 0⟩, ⟨[66, 111, 98], 0⟩], 0, 0⟩
def G6 : Ps := ⟨3, [⟨bankB, 0⟩, ⟨[65, 110, 110], 100⟩, ⟨[66, 111, 98], 0⟩], 100, 0⟩
def G7 : Ps := ⟨3, [⟨bankB, 0⟩, ⟨[65, 110, 110], 70⟩, ⟨[66, 111, 98], 30⟩], 100, 0⟩
def givL : List Int := [0, 1, 0, 0, 140, 0, 40, 2, 0, 0, 141, 0, 2, 142, 144, 0, 234, 2, 143, 142]
end Go.HL.Pu

namespace Go.HL.Pu
open Go.HL Go.HL.Nm Go.Proofs
set_option maxRecDepth 4000
set_option linter.unusedSimpArgs false
set_option linter.unusedVariables false
theorem ints_at {l : List Int} {i : Nat} (h : i < l.length) : (ints l)[i]? = some (.int .i64 l[i]) := by simp [ints, h]
theorem ints_spec (x y : List Int) (v1 v2 : Value) (w0 w : World) (A : Asn) (hx : x.length ≤ 1048576) (h1 : Row w0 A v1 x.length 1 (ints x)) (h2 : Row w0 A v2 y.length 1 (ints y)) (s : St w0 A w) :
    CallW Try.prog 38 [v1, v2] (fun r w' => r = .bool (x == y) ∧ St w0 A w') w := by
  obtain ⟨a1, c1, rfl⟩ := h1.val
  obtain ⟨a2, c2, rfl⟩ := h2.val
  refine callW_of_lift l38_ok (by simp [l38]) ?_
  simp [l38]
  refine cndI (fun h => ?_) (fun h => ?_)
  · simp at h
    have : (x == y) = false := by
      simp only [beq_eq_false_iff_ne]
      rintro rfl
      exact h rfl
    simp [this]
    exact s
  simp at h
  simp
  refine loopI (fun env w' => ∃ (i : Nat), env = [.slice a1 x.length c1, .slice a2 y.length c2, .bool false, .int .i64 i] ∧ i ≤ x.length ∧ x.take i = y.take i ∧ St w0 A w')
    (fun env _ => x.length - slotN env 3) ⟨0, rfl, by omega, rfl, s⟩ ?_
  rintro LQ env w' ⟨i, rfl, hi, ht, s'⟩ hN hE hR
  simp
  refine cndI (fun h3 => ?_) (fun h3 => ?_)
  · simp at h3
    obtain ⟨g1, o1, c1', e1, k1⟩ := h1.at (by omega)
    cases e1
    obtain ⟨g2, o2, c2', e2, k2⟩ := h2.at (by omega)
    cases e2
    have hy : i < y.length := by omega
    refine brqI s' ?_
    simp [h3]
    refine effq_ldc (fun w s => k1 w s i _ (ints_at h3)) ?_
    simp [hy]
    refine effq_ldc (fun w s => k2 w s i _ (ints_at hy)) ?_
    simp
    intro w2 s2
    refine cndI (fun h4 => ?_) (fun h4 => ?_)
    · simp at h4
      have : (x == y) = false := by
        simp only [beq_eq_false_iff_ne]
        rintro rfl
        exact h4 rfl
      simp
      refine hR _ _ ?_
      simp [this]
      exact s2
    · simp at h4
      simp [thenQ]
      try simp (disch := omega) only [wrap64]
      refine hN _ _ ⟨i + 1, by simp, by omega, ?_, s2⟩ (by simp [slotN]; omega)
      rw [List.take_succ_eq_append_getElem h3, List.take_succ_eq_append_getElem hy, ht, h4]
  · simp at h3
    simp
    refine hE _ _ _ ?_
    simp
    have e : i = x.length := by omega
    have e2 : i = y.length := by omega
    rw [e, List.take_length, ← e, e2, List.take_length] at ht
    subst ht
    simp
    exact s'
theorem ints_one (l : List Int) : ∀ u ∈ ints l, u.oneCell' = true := by intro u h; simp only [ints, List.mem_map] at h; obtain ⟨x, _, rfl⟩ := h; rfl
def Ac.pv (x : Ac) : List PV := [.str x.name, .int .u64 x.coins]
theorem Ac.pv_eq (x y : Ac) : decide (x.pv = y.pv) = decide (x = y) := by
  cases x; cases y
  simp [Ac.pv]
theorem rows_spec (x y : List Ac) (v1 v2 : Value) (w0 w : World) (A : Asn) (hx : x.length ≤ 1048576) (h1 : Row w0 A v1 x.length 2 (flat x)) (h2 : Row w0 A v2 y.length 2 (flat y)) (s : St w0 A w) :
    CallW Try.prog 43 [v1, v2] (fun r w' => r = .bool (x == y) ∧ St w0 A w') w := by
  obtain ⟨a1, c1, rfl⟩ := h1.val
  obtain ⟨a2, c2, rfl⟩ := h2.val
  refine callW_of_lift l43_ok (by simp [l43]) ?_
  simp [l43]
  refine cndI (fun h => ?_) (fun h => ?_)
  · simp at h
    have : (x == y) = false := by
      simp only [beq_eq_false_iff_ne]
      rintro rfl
      exact h rfl
    simp [this]
    exact s
  simp at h
  simp
  refine loopI (fun env w' => ∃ (i : Nat), env = [.slice a1 x.length c1, .slice a2 y.length c2, .bool false, .int .i64 i] ∧ i ≤ x.length ∧ x.take i = y.take i ∧ St w0 A w')
    (fun env _ => x.length - slotN env 3) ⟨0, rfl, by omega, rfl, s⟩ ?_
  rintro LQ env w' ⟨i, rfl, hi, ht, s'⟩ hN hE hR
  simp
  refine cndI (fun h3 => ?_) (fun h3 => ?_)
  · simp at h3
    obtain ⟨g1, o1, c1', e1, k1⟩ := h1.at (by omega)
    cases e1
    obtain ⟨g2, o2, c2', e2, k2⟩ := h2.at (by omega)
    cases e2
    have hy : i < y.length := by omega
    simp
    refine brqI s' ?_
    simp [h3]
    refine effq_ldcs (vs := x[i].cs) (fun w s j u hu => by rw [Nat.add_assoc]; exact k1 w s _ _ (flat_at h3 j u hu)) rfl ?_
    simp [hy]
    refine effq_ldcs (vs := y[i].cs) (fun w s j u hu => by rw [Nat.add_assoc]; exact k2 w s _ _ (flat_at hy j u hu)) rfl ?_
    simp
    refine effq_neqP accT x[i].pv y[i].pv rfl rfl ?_
    rw [Ac.pv_eq]
    simp
    intro w2 s2
    refine cndI (fun h4 => ?_) (fun h4 => ?_)
    · simp at h4
      have : (x == y) = false := by
        simp only [beq_eq_false_iff_ne]
        rintro rfl
        exact h4 rfl
      simp
      refine hR _ _ ?_
      simp [this]
      exact s2
    · simp at h4
      simp [thenQ]
      try simp (disch := omega) only [wrap64]
      refine hN _ _ ⟨i + 1, by simp, by omega, ?_, s2⟩ (by simp [slotN]; omega)
      rw [List.take_succ_eq_append_getElem h3, List.take_succ_eq_append_getElem hy, ht, h4]
  · simp at h3
    simp
    refine hE _ _ _ ?_
    simp
    have e : i = x.length := by omega
    have e2 : i = y.length := by omega
    rw [e, List.take_length, ← e, e2, List.take_length] at ht
    subst ht
    simp
    exact s'
end Go.HL.Pu

namespace Go.HL.Pu
open Go.HL Go.HL.Nm Go.Proofs
set_option maxRecDepth 4000
set_option linter.unusedSimpArgs false
set_option linter.unusedVariables false
/-- a step -/
structure Sp where
  who : Int
  kind : Int
  a : Int
  b : Int
  coins : Int
  name : List UInt8
def Sp.cs (x : Sp) : List Value := [.int .i64 x.who, .int .i64 x.kind, .int .i64 x.a, .int .i64 x.b, .int .u64 x.coins, .string (HL.mk x.name)]
def Sp.ok (x : Sp) : Prop := (0 ≤ x.coins ∧ x.coins < 18446744073709551616) ∧ x.name.length ≤ 1048576
theorem sp_one (x : Sp) : ∀ u ∈ x.cs, u.oneCell' = true := by
  intro u hu
  simp only [Sp.cs, List.mem_cons, List.not_mem_nil, or_false] at hu
  rcases hu with rfl | rfl | rfl | rfl | rfl | rfl <;> rfl
def doesF (P : Ps) (o : Sp) : Int × Ps :=
  if o.kind = 1 then ((openF P o.name).2.1, (openF P o.name).2.2)
  else if o.kind = 2 then mintF P o.a o.coins
  else if o.kind = 3 then payF P o.a o.b o.coins
  else if o.kind = 4 then takeF P o.a o.coins
  else if o.kind = 5 then putF P o.a o.coins
  else if o.kind = 6 then ((getF P o.a).2, P)
  else (0, P)
-- bazaar/bazaarlaw14.does
-- bazaar/bazaarlaw14.all
-- bazaar/bazaarlaw14.moved
def total (l : List Ac) : Int := (l.map Ac.coins).sum
theorem total_nil : total [] = 0 := rfl
theorem total_snoc (l : List Ac) (a : Ac) : total (l ++ [a]) = total l + a.coins := by simp [total]
theorem total_pos : ∀ {l : List Ac}, (∀ x ∈ l, 0 ≤ x.coins) → 0 ≤ total l
  | [], _ => Int.le_refl _
  | a :: l, h => by
    have h1 := h a (List.mem_cons_self ..)
    have h2 := total_pos fun x hx => h x (List.mem_cons_of_mem _ hx)
    simp only [total, List.map_cons, List.sum_cons] at h2 ⊢
    omega
theorem total_take {l : List Ac} (h : ∀ x ∈ l, 0 ≤ x.coins) (i : Nat) : 0 ≤ total (l.take i) ∧ total (l.take i) ≤ total l := by
  have e : total l = total (l.take i) + total (l.drop i) := by
    unfold total
    rw [← List.sum_append, ← List.map_append, List.take_append_drop]
  have h1 := total_pos (l := l.take i) fun x hx => h x (List.mem_of_mem_take hx)
  have h2 := total_pos (l := l.drop i) fun x hx => h x (List.mem_of_mem_drop hx)
  omega
/-- what stands of a purse -/
structure PI (lim : Int) (P : Ps) : Prop where
  eqlim : P.lim = lim
  lims : 1 ≤ lim ∧ lim ≤ 64
  len : 1 ≤ P.rows.length ∧ (P.rows.length : Int) ≤ lim
  coins : ∀ x ∈ P.rows, 0 ≤ x.coins
  held : 0 ≤ P.held
  sum : P.held + total P.rows = P.sup
  sup : P.sup ≤ 4611686018427387904
  names : ∀ i, (h : i < P.rows.length) → P.rows[i].name.length ≤ 1048576
theorem coin_le {l : List Ac} (h : ∀ x ∈ l, 0 ≤ x.coins) {i : Nat} (hi : i < l.length) : 0 ≤ l[i].coins ∧ l[i].coins ≤ total l := by
  have h0 := h _ (List.getElem_mem hi)
  have h1 := total_take h (i + 1)
  have h2 := total_take h i
  rw [List.take_succ_eq_append_getElem hi, total_snoc] at h1
  omega
theorem PI.bd {lim : Int} {P : Ps} (h : PI lim P) : Bd P := by
  have ht := total_pos h.coins
  have h1 := h.held
  have h2 := h.sum
  have h3 := h.sup
  have h4 := h.len
  have h5 := h.lims
  refine ⟨fun i hi => ?_, by omega, by omega, by omega⟩
  have e : P.rows.getD i ⟨[], 0⟩ = P.rows[i] := by simp [hi]
  rw [e]
  have := coin_le h.coins hi
  omega
def movedF (o : Sp) (n : Int) : Int × Int × Int :=
  if o.kind = 2 then ((if n = o.a then o.coins else 0), 0, o.coins)
  else if o.kind = 3 then ((if n = o.b then IntKind.u64.wrap ((if n = o.a then IntKind.u64.wrap (0 - o.coins) else 0) + o.coins) else if n = o.a then IntKind.u64.wrap (0 - o.coins) else 0), 0, 0)
  else if o.kind = 4 then ((if n = o.a then IntKind.u64.wrap (0 - o.coins) else 0), o.coins, 0)
  else if o.kind = 5 then ((if n = o.a then o.coins else 0), IntKind.u64.wrap (0 - o.coins), 0)
  else (0, 0, 0)
end Go.HL.Pu

namespace Go.HL.Pu
open Go.HL Go.HL.Nm Go.Proofs
set_option maxRecDepth 4000
set_option linter.unusedSimpArgs false
set_option linter.unusedVariables false
theorem setC_get {l : List Ac} {i k : Nat} {c : Int} (hk : k < l.length) : (setC l i c)[k]'(by rw [setC_len]; exact hk) = if k = i then ⟨l[k].name, c⟩ else l[k] := by
  unfold setC
  rw [List.getElem_set]
  by_cases e : k = i
  · subst e; simp [hk]
  · rw [if_neg e, if_neg (Ne.symm e)]
theorem setC_mem {l : List Ac} {i : Nat} {c : Int} {x : Ac} (h : x ∈ setC l i c) : x ∈ l ∨ x.coins = c := by
  unfold setC at h
  rcases List.mem_or_eq_of_mem_set h with h | h
  · exact .inl h
  · exact .inr (by rw [h])
theorem total_set : ∀ (l : List Ac) (i : Nat) (x : Ac) (h : i < l.length), total (l.set i x) = total l - l[i].coins + x.coins
  | a :: l, 0, x, h => by simp only [List.set_cons_zero, List.getElem_cons_zero, total, List.map_cons, List.sum_cons]; omega
  | a :: l, i + 1, x, h => by
    have := total_set l i x (by simpa using h)
    simp only [List.set_cons_succ, List.getElem_cons_succ]
    simp only [total, List.map_cons, List.sum_cons] at this ⊢
    omega
theorem total_setC {l : List Ac} {i : Nat} (h : i < l.length) (c : Int) : total (setC l i c) = total l - coin l i + c := by
  unfold setC
  rw [total_set l i _ h, coin_at h]
theorem wrapu_sub {a c : Int} (h : 0 ≤ c ∧ c ≤ a ∧ a < 18446744073709551616) : IntKind.u64.wrap (a + IntKind.u64.wrap (0 - c)) = a - c := by
  simp [IntKind.wrap, IntKind.bits, IntKind.signed]; omega
/-- what turns -/
structure Turn (P P' : Ps) (o : Sp) : Prop where
  held : P'.held = IntKind.u64.wrap (P.held + (movedF o (-1)).2.1)
  sup : P'.sup = IntKind.u64.wrap (P.sup + (movedF o (-1)).2.2)
  each : ∀ k, (h : k < P.rows.length) → ∃ h' : k < P'.rows.length, P'.rows[k].name = P.rows[k].name ∧ P'.rows[k].coins = IntKind.u64.wrap (P.rows[k].coins + (movedF o k).1)
def zeroSp : Sp := ⟨0, 0, 0, 0, 0, []⟩
theorem moved_none {o : Sp} (h : o.kind ≠ 2 ∧ o.kind ≠ 3 ∧ o.kind ≠ 4 ∧ o.kind ≠ 5) (n : Int) : movedF o n = (0, 0, 0) := by
  unfold movedF
  rw [if_neg h.1, if_neg h.2.1, if_neg h.2.2.1, if_neg h.2.2.2]
theorem turn_same {lim : Int} {P : Ps} (hP : PI lim P) {o : Sp} (h : o.kind ≠ 2 ∧ o.kind ≠ 3 ∧ o.kind ≠ 4 ∧ o.kind ≠ 5) : Turn P P o := by
  have hb := hP.bd
  have h1 := hb.held
  have h2 := hb.sup
  refine ⟨?_, ?_, fun k hk => ⟨hk, rfl, ?_⟩⟩
  · rw [moved_none h]; simp only [Int.add_zero]; rw [wrapu64 (by omega) (by omega)]
  · rw [moved_none h]; simp only [Int.add_zero]; rw [wrapu64 (by omega) (by omega)]
  · rw [moved_none h]; simp only [Int.add_zero]
    have := hb.coins k hk
    have e : P.rows.getD k ⟨[], 0⟩ = P.rows[k] := by simp [hk]
    rw [e] at this
    rw [wrapu64 (by omega) (by omega)]
theorem turn_zero {lim : Int} {P : Ps} (hP : PI lim P) : Turn P P zeroSp := turn_same hP (by decide)
def adj (P : Ps) (o : Sp) : Sp := if (doesF P o).1 ≠ 0 ∨ o.kind = 1 then zeroSp else o
def more (P : Ps) (o : Sp) : Nat := if o.kind = 1 ∧ (doesF P o).1 = 0 then 1 else 0
theorem accE_at {l : List Ac} {n : Int} (h : accE l n = 0) : 0 ≤ n ∧ n.toNat < l.length ∧ (n.toNat : Int) = n := by
  obtain ⟨i, rfl, hi⟩ := acc_in h
  exact ⟨by omega, by simpa using hi, by simp⟩
theorem pi_coins {lim : Int} {P : Ps} (hP : PI lim P) {P' : Ps} (e1 : P'.lim = P.lim) (e2 : P'.rows.length = P.rows.length) (hc : ∀ x ∈ P'.rows, 0 ≤ x.coins) (hh : 0 ≤ P'.held) (hs : P'.held + total P'.rows = P'.sup) (hsup : P'.sup ≤ 4611686018427387904)
    (hn : ∀ k, (h : k < P'.rows.length) → ∃ h' : k < P.rows.length, P'.rows[k].name = P.rows[k].name) : PI lim P' :=
  ⟨e1.trans hP.eqlim, hP.lims, by rw [e2]; exact hP.len, hc, hh, hs, hsup, fun i h => by
    obtain ⟨h', e⟩ := hn i h
    rw [e]; exact hP.names i h'⟩
theorem setC_name {l : List Ac} {i k : Nat} {c : Int} (h : k < (setC l i c).length) : ∃ h' : k < l.length, (setC l i c)[k].name = l[k].name := by
  have h' : k < l.length := by rwa [setC_len] at h
  refine ⟨h', ?_⟩
  rw [setC_get h']
  split <;> rfl
/-- what a step does -/
structure Step (lim : Int) (P : Ps) (o : Sp) : Prop where
  pi : PI lim (doesF P o).2
  len : (doesF P o).2.rows.length = P.rows.length + more P o
  turn : Turn P (doesF P o).2 (adj P o)
  last : more P o = 1 → (doesF P o).2.rows[P.rows.length]? = some ⟨o.name, 0⟩
theorem step_same {lim : Int} {P : Ps} (hP : PI lim P) {o : Sp} (h : (doesF P o).2 = P) (hm : more P o = 0) (ht : (doesF P o).1 ≠ 0 ∨ (o.kind ≠ 2 ∧ o.kind ≠ 3 ∧ o.kind ≠ 4 ∧ o.kind ≠ 5)) : Step lim P o := by
  refine ⟨by rw [h]; exact hP, by rw [h, hm, Nat.add_zero], ?_, fun e => by rw [hm] at e; cases e⟩
  rw [h]
  unfold adj
  split
  · exact turn_zero hP
  · rename_i hn
    rcases ht with ht | ht
    · exact absurd (.inl ht) hn
    · exact turn_same hP ht
theorem does_step {lim : Int} {P : Ps} {o : Sp} (hP : PI lim P) (ho : o.ok) : Step lim P o := by
  obtain ⟨⟨hc0, hc1⟩, hnm⟩ := ho
  have hb := hP.bd
  have hheld := hb.held
  have hsup := hb.sup
  have hsum := hP.sum
  have hlen := hP.len
  have hlims := hP.lims
  by_cases k1 : o.kind = 1
  · -- Open
    have hd : doesF P o = ((openF P o.name).2.1, (openF P o.name).2.2) := by unfold doesF; rw [if_pos k1]
    by_cases h0 : (openF P o.name).2.1 = 0
    · obtain ⟨hs, hask, hl, hchk⟩ := open_ok h0
      have hm : more P o = 1 := by unfold more; rw [if_pos ⟨k1, by rw [hd]; exact h0⟩]
      have ha : adj P o = zeroSp := by unfold adj; rw [if_pos (.inr k1)]
      rw [hP.eqlim] at hl
      have hP2 : (doesF P o).2 = { P with rows := P.rows ++ [⟨o.name, 0⟩] } := by rw [hd]; exact hs
      refine ⟨?_, by rw [hP2, hm]; simp, ?_, fun _ => by rw [hP2]; simp⟩
      · rw [hP2]
        refine ⟨hP.eqlim, hlims, ?_, ?_, hP.held, ?_, hP.sup, ?_⟩
        · simp only [List.length_append, List.length_singleton]; omega
        · intro x hx
          rcases List.mem_append.1 hx with hx | hx
          · exact hP.coins x hx
          · have : x = ⟨o.name, 0⟩ := by simpa using hx
            rw [this]; exact Int.le_refl _
        · show P.held + total (P.rows ++ [⟨o.name, 0⟩]) = P.sup
          rw [total_snoc]; show P.held + (total P.rows + 0) = P.sup; omega
        · intro i h
          simp only [List.length_append, List.length_singleton] at h
          by_cases e : i < P.rows.length
          · show ((P.rows ++ [(⟨o.name, 0⟩ : Ac)])[i]'(by simp; omega)).name.length ≤ _
            rw [List.getElem_append_left e]; exact hP.names i e
          · have : i = P.rows.length := by omega
            subst this
            show ((P.rows ++ [(⟨o.name, 0⟩ : Ac)])[P.rows.length]'(by simp)).name.length ≤ _
            simp [hnm]
      · rw [ha, hP2]
        obtain ⟨t1, t2, t3⟩ := turn_zero hP
        refine ⟨t1, t2, fun k hk => ?_⟩
        obtain ⟨_, t4, t5⟩ := t3 k hk
        refine ⟨by simp; omega, ?_, ?_⟩
        · show ((P.rows ++ [(⟨o.name, 0⟩ : Ac)])[k]'(by simp; omega)).name = _
          rw [List.getElem_append_left hk]
        · show ((P.rows ++ [(⟨o.name, 0⟩ : Ac)])[k]'(by simp; omega)).coins = _
          rw [List.getElem_append_left hk]; exact t5
    · have hm : more P o = 0 := by unfold more; rw [if_neg (by rw [hd]; exact fun h => h0 h.2)]
      exact step_same hP (by rw [hd]; exact open_bad h0) hm (.inl (by rw [hd]; exact h0))
  have hm : more P o = 0 := by unfold more; rw [if_neg fun h => k1 h.1]
  have keep : (doesF P o).2 = P → ((doesF P o).1 ≠ 0 ∨ (o.kind ≠ 2 ∧ o.kind ≠ 3 ∧ o.kind ≠ 4 ∧ o.kind ≠ 5)) → Step lim P o := fun h ht => step_same hP h hm ht
  have good : ∀ P' : Ps, doesF P o = (0, P') → PI lim P' → P'.rows.length = P.rows.length → Turn P P' o → Step lim P o := by
    intro P' hd hpi hl ht
    have ha : adj P o = o := by unfold adj; rw [if_neg (by rw [hd]; exact fun h => h.elim (fun h => h rfl) k1)]
    exact ⟨by rw [hd]; exact hpi, by rw [hd, hm]; exact hl, by rw [ha, hd]; exact ht, fun e => by rw [hm] at e; cases e⟩
  by_cases k2 : o.kind = 2
  · have hd : doesF P o = mintF P o.a o.coins := by unfold doesF; rw [if_neg k1, if_pos k2]
    by_cases e1 : accE P.rows o.a = 0
    · by_cases e2 : o.coins = 0
      · exact keep (by rw [hd, mintF, if_pos e1, if_pos e2]) (.inl (by rw [hd, mintF, if_pos e1, if_pos e2]; simp))
      · by_cases e3 : 4611686018427387904 - P.sup < o.coins
        · exact keep (by rw [hd, mintF, if_pos e1, if_neg e2, if_pos e3]) (.inl (by rw [hd, mintF, if_pos e1, if_neg e2, if_pos e3]; simp))
        · obtain ⟨ha0, hai, hae⟩ := accE_at e1
          have hca := coin_bd hb hai
          refine good _ (by rw [hd, mintF, if_pos e1, if_neg e2, if_neg e3]) ?_ (setC_len _ _ _) ?_
          · refine pi_coins hP rfl (setC_len _ _ _) (fun x hx => ?_) hP.held ?_ (by show P.sup + o.coins ≤ _; omega) fun k h => setC_name h
            · rcases setC_mem hx with h | h
              · exact hP.coins x h
              · omega
            · show P.held + total (setC P.rows o.a.toNat (coin P.rows o.a.toNat + o.coins)) = P.sup + o.coins
              rw [total_setC hai]; omega
          · have hmv : ∀ n, movedF o n = ((if n = o.a then o.coins else 0), 0, o.coins) := fun n => by unfold movedF; rw [if_pos k2]
            refine ⟨?_, ?_, fun k hk => ⟨by rw [setC_len]; exact hk, ?_, ?_⟩⟩
            · rw [hmv]; show P.held = IntKind.u64.wrap (P.held + 0); rw [wrapu64 (by omega) (by omega)]; omega
            · rw [hmv]; show P.sup + o.coins = IntKind.u64.wrap (P.sup + o.coins); rw [wrapu64 (by omega) (by omega)]
            · show ((setC P.rows _ _)[k]'(by rw [setC_len]; exact hk)).name = _
              rw [setC_get hk]; split <;> rfl
            · show ((setC P.rows _ _)[k]'(by rw [setC_len]; exact hk)).coins = _
              have hck := coin_bd hb hk
              rw [coin_at hk] at hck
              rw [setC_get hk, hmv]
              by_cases ek : k = o.a.toNat
              · subst ek
                rw [if_pos rfl]
                simp only [hae, if_true]
                rw [coin_at hai, wrapu64 (by omega) (by omega)]
              · rw [if_neg ek]
                simp only [show ¬ (k : Int) = o.a from fun h => ek (by omega), if_false]
                rw [wrapu64 (by omega) (by omega)]; omega
    · exact keep (by rw [hd, mintF, if_neg e1]) (.inl (by rw [hd, mintF, if_neg e1]; simp))
  by_cases k3 : o.kind = 3
  · have hd : doesF P o = payF P o.a o.b o.coins := by unfold doesF; rw [if_neg k1, if_neg k2, if_pos k3]
    by_cases e1 : accE P.rows o.a = 0 ∧ accE P.rows o.b = 0
    · by_cases e2 : o.a = o.b
      · exact keep (by rw [hd, payF, if_pos e1, if_pos e2]) (.inl (by rw [hd, payF, if_pos e1, if_pos e2]; simp))
      · by_cases e3 : o.coins = 0
        · exact keep (by rw [hd, payF, if_pos e1, if_neg e2, if_pos e3]) (.inl (by rw [hd, payF, if_pos e1, if_neg e2, if_pos e3]; simp))
        · by_cases e4 : coin P.rows o.a.toNat < o.coins
          · exact keep (by rw [hd, payF, if_pos e1, if_neg e2, if_neg e3, if_pos e4]) (.inl (by rw [hd, payF, if_pos e1, if_neg e2, if_neg e3, if_pos e4]; simp))
          · obtain ⟨ha0, hai, hae⟩ := accE_at e1.1
            obtain ⟨hb0, hbi, hbe⟩ := accE_at e1.2
            have hca := coin_bd hb hai
            have hcb := coin_bd hb hbi
            have hne : ¬ o.b.toNat = o.a.toNat := fun h => e2 (by omega)
            have hbi2 : o.b.toNat < (setC P.rows o.a.toNat (coin P.rows o.a.toNat - o.coins)).length := by rw [setC_len]; exact hbi
            have hl2 : (setC (setC P.rows o.a.toNat (coin P.rows o.a.toNat - o.coins)) o.b.toNat (coin P.rows o.b.toNat + o.coins)).length = P.rows.length := by rw [setC_len, setC_len]
            refine good _ (by rw [hd, payF, if_pos e1, if_neg e2, if_neg e3, if_neg e4]) ?_ hl2 ?_
            · refine pi_coins hP rfl hl2 (fun x hx => ?_) hP.held ?_ hP.sup fun k h => ?_
              · rcases setC_mem hx with h | h
                · rcases setC_mem h with h | h
                  · exact hP.coins x h
                  · omega
                · omega
              · show P.held + total (setC (setC P.rows o.a.toNat (coin P.rows o.a.toNat - o.coins)) o.b.toNat (coin P.rows o.b.toNat + o.coins)) = P.sup
                rw [total_setC hbi2, total_setC hai, coin_set hai, if_neg hne]; omega
              · obtain ⟨h1, n1⟩ := setC_name h
                obtain ⟨h2, n2⟩ := setC_name h1
                exact ⟨h2, n1.trans n2⟩
            · have hmv : ∀ n, movedF o n = ((if n = o.b then IntKind.u64.wrap ((if n = o.a then IntKind.u64.wrap (0 - o.coins) else 0) + o.coins) else if n = o.a then IntKind.u64.wrap (0 - o.coins) else 0), 0, 0) := fun n => by unfold movedF; rw [if_neg k2, if_pos k3]
              refine ⟨?_, ?_, fun k hk => ⟨by rw [hl2]; exact hk, ?_, ?_⟩⟩
              · rw [hmv]; show P.held = IntKind.u64.wrap (P.held + 0); rw [wrapu64 (by omega) (by omega)]; omega
              · rw [hmv]; show P.sup = IntKind.u64.wrap (P.sup + 0); rw [wrapu64 (by omega) (by omega)]; omega
              · have hk2 : k < (setC P.rows o.a.toNat (coin P.rows o.a.toNat - o.coins)).length := by rw [setC_len]; exact hk
                show ((setC (setC P.rows _ _) _ _)[k]'(by rw [hl2]; exact hk)).name = _
                rw [setC_get hk2, setC_get hk]
                split
                · split <;> rfl
                · split <;> rfl
              · have hk2 : k < (setC P.rows o.a.toNat (coin P.rows o.a.toNat - o.coins)).length := by rw [setC_len]; exact hk
                show ((setC (setC P.rows _ _) _ _)[k]'(by rw [hl2]; exact hk)).coins = _
                have hck := coin_bd hb hk
                rw [coin_at hk] at hck
                rw [setC_get hk2, setC_get hk, hmv]
                by_cases eb : k = o.b.toNat
                · subst eb
                  rw [if_pos rfl]
                  simp only [hbe, if_true, show ¬ o.b = o.a from fun h => e2 h.symm, if_false]
                  rw [coin_at hbi]
                  rw [coin_at hbi] at hcb
                  rw [wrapu64 (x := 0 + o.coins) (by omega) (by omega), wrapu64 (by omega) (by omega)]; omega
                · rw [if_neg eb]
                  simp only [show ¬ (k : Int) = o.b from fun h => eb (by omega), if_false]
                  by_cases ea : k = o.a.toNat
                  · subst ea
                    rw [if_pos rfl]
                    simp only [hae, if_true]
                    rw [coin_at hai] at e4 ⊢
                    rw [wrapu_sub ⟨by omega, by omega, by omega⟩]
                  · rw [if_neg ea]
                    simp only [show ¬ (k : Int) = o.a from fun h => ea (by omega), if_false]
                    rw [wrapu64 (by omega) (by omega)]; omega
    · exact keep (by rw [hd, payF, if_neg e1]) (.inl (by rw [hd, payF, if_neg e1]; simp))
  by_cases k4 : o.kind = 4
  · have hd : doesF P o = takeF P o.a o.coins := by unfold doesF; rw [if_neg k1, if_neg k2, if_neg k3, if_pos k4]
    by_cases e1 : accE P.rows o.a = 0
    · by_cases e2 : coin P.rows o.a.toNat < o.coins
      · exact keep (by rw [hd, takeF, if_pos e1, if_pos e2]) (.inl (by rw [hd, takeF, if_pos e1, if_pos e2]; simp))
      · obtain ⟨ha0, hai, hae⟩ := accE_at e1
        have hca := coin_bd hb hai
        have hcl := coin_le hP.coins hai
        rw [← coin_at hai] at hcl
        refine good _ (by rw [hd, takeF, if_pos e1, if_neg e2]) ?_ (setC_len _ _ _) ?_
        · refine pi_coins hP rfl (setC_len _ _ _) (fun x hx => ?_) (by show 0 ≤ P.held + o.coins; omega) ?_ hP.sup fun k h => setC_name h
          · rcases setC_mem hx with h | h
            · exact hP.coins x h
            · omega
          · show P.held + o.coins + total (setC P.rows o.a.toNat (coin P.rows o.a.toNat - o.coins)) = P.sup
            rw [total_setC hai]; omega
        · have hmv : ∀ n, movedF o n = ((if n = o.a then IntKind.u64.wrap (0 - o.coins) else 0), o.coins, 0) := fun n => by unfold movedF; rw [if_neg k2, if_neg k3, if_pos k4]
          refine ⟨?_, ?_, fun k hk => ⟨by rw [setC_len]; exact hk, ?_, ?_⟩⟩
          · rw [hmv]; show P.held + o.coins = IntKind.u64.wrap (P.held + o.coins); rw [wrapu64 (by omega) (by omega)]
          · rw [hmv]; show P.sup = IntKind.u64.wrap (P.sup + 0); rw [wrapu64 (by omega) (by omega)]; omega
          · show ((setC P.rows _ _)[k]'(by rw [setC_len]; exact hk)).name = _
            rw [setC_get hk]; split <;> rfl
          · show ((setC P.rows _ _)[k]'(by rw [setC_len]; exact hk)).coins = _
            have hck := coin_bd hb hk
            rw [coin_at hk] at hck
            rw [setC_get hk, hmv]
            by_cases ek : k = o.a.toNat
            · subst ek
              rw [if_pos rfl]
              simp only [hae, if_true]
              rw [coin_at hai] at e2 ⊢
              rw [wrapu_sub ⟨by omega, by omega, by omega⟩]
            · rw [if_neg ek]
              simp only [show ¬ (k : Int) = o.a from fun h => ek (by omega), if_false]
              rw [wrapu64 (by omega) (by omega)]; omega
    · exact keep (by rw [hd, takeF, if_neg e1]) (.inl (by rw [hd, takeF, if_neg e1]; simp))
  by_cases k5 : o.kind = 5
  · have hd : doesF P o = putF P o.a o.coins := by unfold doesF; rw [if_neg k1, if_neg k2, if_neg k3, if_neg k4, if_pos k5]
    by_cases e1 : accE P.rows o.a = 0
    · by_cases e2 : P.held < o.coins
      · exact keep (by rw [hd, putF, if_pos e1, if_pos e2]) (.inl (by rw [hd, putF, if_pos e1, if_pos e2]; simp))
      · obtain ⟨ha0, hai, hae⟩ := accE_at e1
        have hca := coin_bd hb hai
        refine good _ (by rw [hd, putF, if_pos e1, if_neg e2]) ?_ (setC_len _ _ _) ?_
        · refine pi_coins hP rfl (setC_len _ _ _) (fun x hx => ?_) (by show 0 ≤ P.held - o.coins; omega) ?_ hP.sup fun k h => setC_name h
          · rcases setC_mem hx with h | h
            · exact hP.coins x h
            · omega
          · show P.held - o.coins + total (setC P.rows o.a.toNat (coin P.rows o.a.toNat + o.coins)) = P.sup
            rw [total_setC hai]; omega
        · have hmv : ∀ n, movedF o n = ((if n = o.a then o.coins else 0), IntKind.u64.wrap (0 - o.coins), 0) := fun n => by unfold movedF; rw [if_neg k2, if_neg k3, if_neg k4, if_pos k5]
          refine ⟨?_, ?_, fun k hk => ⟨by rw [setC_len]; exact hk, ?_, ?_⟩⟩
          · rw [hmv]; show P.held - o.coins = IntKind.u64.wrap (P.held + IntKind.u64.wrap (0 - o.coins)); rw [wrapu_sub ⟨by omega, by omega, by omega⟩]
          · rw [hmv]; show P.sup = IntKind.u64.wrap (P.sup + 0); rw [wrapu64 (by omega) (by omega)]; omega
          · show ((setC P.rows _ _)[k]'(by rw [setC_len]; exact hk)).name = _
            rw [setC_get hk]; split <;> rfl
          · show ((setC P.rows _ _)[k]'(by rw [setC_len]; exact hk)).coins = _
            have hck := coin_bd hb hk
            rw [coin_at hk] at hck
            rw [setC_get hk, hmv]
            by_cases ek : k = o.a.toNat
            · subst ek
              rw [if_pos rfl]
              simp only [hae, if_true]
              rw [coin_at hai, wrapu64 (by omega) (by omega)]
            · rw [if_neg ek]
              simp only [show ¬ (k : Int) = o.a from fun h => ek (by omega), if_false]
              rw [wrapu64 (by omega) (by omega)]; omega
    · exact keep (by rw [hd, putF, if_neg e1]) (.inl (by rw [hd, putF, if_neg e1]; simp))
  refine keep ?_ (.inr ⟨k2, k3, k4, k5⟩)
  unfold doesF
  rw [if_neg k1, if_neg k2, if_neg k3, if_neg k4, if_neg k5]
  split <;> rfl
end Go.HL.Pu

namespace Go.HL.Nm
open Go.HL Go.Proofs
set_option maxRecDepth 4000
set_option linter.unusedSimpArgs false
set_option linter.unusedVariables false
/-- do these units stand here? -/
def hereF (us ps : List Int) (i : Nat) : Bool := (us.drop i).take ps.length == ps
def hasF (us ps : List Int) : Bool := (List.range (us.length + 1)).any fun i => decide (i + ps.length ≤ us.length) && hereF us ps i
theorem View.sub {w0 : World} {A : Asn} {k : IntKind} {a : Option Addr} {n cap i m : Nat} {xs : List Int} (h : View w0 A k (.slice a n cap) xs) (hi : i + m ≤ xs.length) :
    View w0 A k (.slice (if cap = i then a else a.map (fun x => x.add i)) m (cap - i)) ((xs.drop i).take m) := by
  obtain ⟨a', cap', hv, hc, h⟩ := h
  cases hv
  have hl : ((xs.drop i).take m).length = m := by simp; omega
  refine ⟨_, _, by rw [hl], by rw [hl]; omega, fun h0 => ?_⟩
  rw [hl] at h0
  obtain ⟨g, o, rfl, hw⟩ := h (by omega)
  refine ⟨g, o + i, ?_, fun w s j u hu => ?_⟩
  · rw [if_neg (by omega)]; simp
  · rw [List.getElem?_take] at hu
    split at hu
    · rw [List.getElem?_drop] at hu
      rw [Nat.add_assoc]
      exact hw w s _ _ hu
    · cases hu
end Go.HL.Nm

namespace Go.HL.Nm
open Go.HL Go.Proofs
set_option maxRecDepth 4000
set_option linter.unusedSimpArgs false
set_option linter.unusedVariables false
/-- the order of rows of numbers -/
def cmpL : List Int → List Int → Int
  | [], [] => 0
  | [], _ :: _ => -1
  | _ :: _, [] => 1
  | a :: l, b :: m => if a < b then -1 else if b < a then 1 else cmpL l m
def cmpB (x y : List UInt8) : Int := if Op.bytesLess x y then -1 else if x == y then 0 else 1
def compareF (x y : List UInt8) : Int := if cmpL (foldedF x) (foldedF y) = 0 then cmpB x y else cmpL (foldedF x) (foldedF y)
end Go.HL.Nm

namespace Go.HL.Nm
open Go.HL Go.Proofs
set_option maxRecDepth 4000
set_option linter.unusedSimpArgs false
set_option linter.unusedVariables false
end Go.HL.Nm
