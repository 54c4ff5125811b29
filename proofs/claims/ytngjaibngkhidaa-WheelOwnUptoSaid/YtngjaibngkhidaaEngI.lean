/-
  Structs of numbers, texts and booleans, compared. No condition.
-/
import Derived.Test.YtngjaibngkhidaaEngH
namespace Go.HL
set_option maxRecDepth 4000
set_option linter.unusedSimpArgs false
set_option linter.unusedVariables false
section
variable {P : Program}
inductive PV where
  | int (k : IntKind) (a : Int)
  | str (b : List UInt8)
  | bool (b : Bool)
deriving DecidableEq
inductive PK where
  | int (k : IntKind)
  | str
  | bool
deriving DecidableEq
def PV.val : PV → Value
  | .int k a => .int k a
  | .str b => .string (mk b)
  | .bool b => .bool b
def PV.kind : PV → PK
  | .int k _ => .int k
  | .str _ => .str
  | .bool _ => .bool
def PK.of : PK → TypeDesc → Bool
  | .int _, .int _ => true
  | .str, .string => true
  | .bool, .bool => true
  | _, _ => false
def primFields (P : Program) : List Field → List PK → Nat → Bool
  | [], [], _ => true
  | f :: fs, k :: ks, o => (f.name != "_") && (f.offset == o) && (match P.underlying f.type with | some d => k.of d | none => false) && primFields P fs ks (o + 1)
  | _, _, _ => false
def holdsP (xs : Array Value) (o : Nat) (as : List PV) : Prop := ∀ j u, as[j]? = some u → xs[o + j]? = some u.val
theorem holdsP_tail {xs : Array Value} {o : Nat} {a : PV} {as : List PV} (h : holdsP xs o (a :: as)) : holdsP xs (o + 1) as := by
  intro j u hu
  have := h (j + 1) u (by simpa using hu)
  rw [Nat.add_assoc, Nat.add_comm 1]
  exact this
theorem holdsP_list (as : List PV) : holdsP (as.map PV.val).toArray 0 as := by
  intro j u hu
  simp [hu]
theorem part_prim {t : TypeId} {d : TypeDesc} {a : PV} {xs : Array Value} {o : Nat} (ht : P.underlying t = some d) (hk : a.kind.of d = true) (h : xs[o]? = some a.val) (w : World) : (part t xs o).run P w = .ok a.val w := by
  simp only [part, Sem.run_bind, isAgg_run ht, Result.andThen_ok]
  have : isAggD d = false := by
    cases a <;> cases d <;> first | rfl | (simp [PV.kind, PK.of] at hk)
  rw [this]
  simp [h]
theorem equal_prim {t : TypeId} {d : TypeDesc} {a b : PV} (ht : P.underlying t = some d) (hk : a.kind.of d = true) (hab : a.kind = b.kind) (n : Nat) (w : World) : (Op.equalIn (n + 1) t a.val b.val).run P w = .ok (decide (a = b)) w := by
  simp only [Op.equalIn, Sem.run_bind, und_run ht, Result.andThen_ok]
  cases a <;> cases b <;> simp only [PV.kind, PK.int.injEq, reduceCtorEq] at hab
  · subst hab
    cases d <;> simp [PV.kind, PK.of] at hk
    simp [PV.val]
    rw [Bool.eq_iff_iff]; simp
  · cases d <;> simp [PV.kind, PK.of] at hk
    simp only [PV.val, Sem.run_pure, mk_eq_iff, PV.str.injEq]
  · cases d <;> simp [PV.kind, PK.of] at hk
    simp [PV.val]
    rw [Bool.eq_iff_iff]; simp
theorem eqFields_prims (d : Nat) (w : World) (xs ys : Array Value) : ∀ (as bs : List PV) (fs : List Field) (o : Nat), primFields P fs (as.map PV.kind) o = true → as.map PV.kind = bs.map PV.kind → holdsP xs o as → holdsP ys o bs →
    (Op.eqFields (d + 1) xs ys fs).run P w = .ok (decide (as = bs)) w
  | [], [], [], o, _, _, _, _ => by simp [Op.eqFields]
  | a :: as, b :: bs, f :: fs, o, h, hk, h1, h2 => by
    simp only [List.map_cons, primFields, Bool.and_eq_true, bne_iff_ne, beq_iff_eq] at h
    obtain ⟨⟨⟨hn, ho⟩, ht⟩, hr⟩ := h
    simp only [List.map_cons, List.cons.injEq] at hk
    have ih := eqFields_prims d w xs ys as bs fs (o + 1) hr hk.2 (holdsP_tail h1) (holdsP_tail h2)
    split at ht
    · rename_i k hku
      have p1 := part_prim (P := P) hku ht (h1 0 a rfl) w
      have p2 := part_prim (P := P) hku (hk.1 ▸ ht) (h2 0 b rfl) w
      rw [Nat.add_zero] at p1 p2
      simp only [Op.eqFields, ne_eq, hn, not_false_eq_true, if_true, ho, Sem.run_bind, p1, p2, Result.andThen_ok, equal_prim hku ht hk.1]
      by_cases e : a = b
      · simp [e, ih]
      · simp [e]
    · cases ht
  | [], _ :: _, _, _, _, hk, _, _ => by simp at hk
  | _ :: _, [], _, _, _, hk, _, _ => by simp at hk
  | [], [], _ :: _, _, h, _, _, _ => by simp [primFields] at h
  | _ :: _, _ :: _, [], _, h, _, _, _ => by simp [primFields] at h
/-- what is known of a struct of such -/
structure PrimStruct (P : Program) (t : TypeId) (ks : List PK) : Prop where
  und : P.underlying t = some (.struct (P.fieldsOf t))
  stood : P.stoodInHeld t = false
  guard : P.eqGuardType P.depth t = false
  prims : primFields P (P.fieldsOf t).toList ks 0 = true
theorem primEq_run {t : TypeId} {ks : List PK} (T : PrimStruct P t ks) (neg : Bool) (x y : Operand) (xs ys : Array Value) (as bs : List PV) (l1 : as.map PV.kind = ks) (l2 : bs.map PV.kind = ks) (h1 : holdsP xs 0 as) (h2 : holdsP ys 0 bs) (w : World) :
    (do eqGuard (if neg then .neq else .eql) t x y (.agg xs) (.agg ys); binOp (if neg then .neq else .eql) t (.agg xs) (.agg ys) : Sem Value).run P w = .ok (.bool (if neg then !(decide (as = bs)) else decide (as = bs))) w := by
  have hg : ∀ op, (eqGuard op t x y (.agg xs) (.agg ys)).run P w = .ok () w := by
    intro op
    unfold eqGuard
    cases op <;> simp [T.guard]
  have he : (Op.equal t (.agg xs) (.agg ys)).run P w = .ok (decide (as = bs)) w := by
    rw [equal_succ, run_equalIn_struct w 9999 t xs ys T.und T.stood]
    exact eqFields_prims 9998 w xs ys as bs _ 0 (by rw [l1]; exact T.prims) (by rw [l1, l2]) h1 h2
  cases neg
  · show (do eqGuard .eql t x y (.agg xs) (.agg ys); (do pure (.bool (← Op.equal t (.agg xs) (.agg ys)))) : Sem Value).run P w = _
    simp only [Sem.run_bind, hg, Result.andThen_ok, he, Sem.run_pure]; rfl
  · show (do eqGuard .neq t x y (.agg xs) (.agg ys); (do pure (.bool (!(← Op.equal t (.agg xs) (.agg ys))))) : Sem Value).run P w = _
    simp only [Sem.run_bind, hg, Result.andThen_ok, he, Sem.run_pure]; rfl
variable {K : Value → World → Prop} {w w0 : World} {A : Asn} {C : World → Prop}
theorem eff_eqP {t : TypeId} {ks : List PK} (T : PrimStruct P t ks) {neg : Bool} {x y : Operand} (as bs : List PV) (l1 : as.map PV.kind = ks) (l2 : bs.map PV.kind = ks) (hk : K (.bool (if neg then !(decide (as = bs)) else decide (as = bs))) w) :
    EffW P (.bin (if neg then .neq else .eql) t x y) [.agg (as.map PV.val).toArray, .agg (bs.map PV.val).toArray] K w := by
  intro _
  exact upon_val (primEq_run T neg x y _ _ as bs l1 l2 (holdsP_list as) (holdsP_list bs) w) hk
theorem eff_neqP {t : TypeId} {ks : List PK} (T : PrimStruct P t ks) {x y : Operand} (as bs : List PV) (l1 : as.map PV.kind = ks) (l2 : bs.map PV.kind = ks) (hk : K (.bool (!decide (as = bs))) w) :
    EffW P (.bin .neq t x y) [.agg (as.map PV.val).toArray, .agg (bs.map PV.val).toArray] K w := eff_eqP (neg := true) T as bs l1 l2 hk
theorem eff_eqlP {t : TypeId} {ks : List PK} (T : PrimStruct P t ks) {x y : Operand} (as bs : List PV) (l1 : as.map PV.kind = ks) (l2 : bs.map PV.kind = ks) (hk : K (.bool (decide (as = bs))) w) :
    EffW P (.bin .eql t x y) [.agg (as.map PV.val).toArray, .agg (bs.map PV.val).toArray] K w := eff_eqP (neg := false) T as bs l1 l2 hk
theorem effq_neqP {t : TypeId} {ks : List PK} (T : PrimStruct P t ks) {x y : Operand} (as bs : List PV) (l1 : as.map PV.kind = ks) (l2 : bs.map PV.kind = ks) {K : Value → Prop} (hk : K (.bool (!decide (as = bs)))) :
    EffQ P C (.bin .neq t x y) [.agg (as.map PV.val).toArray, .agg (bs.map PV.val).toArray] K :=
  ⟨_, fun w _ => quiet_val rfl (primEq_run T true x y _ _ as bs l1 l2 (holdsP_list as) (holdsP_list bs) w), hk⟩
theorem effq_eqlP {t : TypeId} {ks : List PK} (T : PrimStruct P t ks) {x y : Operand} (as bs : List PV) (l1 : as.map PV.kind = ks) (l2 : bs.map PV.kind = ks) {K : Value → Prop} (hk : K (.bool (decide (as = bs)))) :
    EffQ P C (.bin .eql t x y) [.agg (as.map PV.val).toArray, .agg (bs.map PV.val).toArray] K :=
  ⟨_, fun w _ => quiet_val rfl (primEq_run T false x y _ _ as bs l1 l2 (holdsP_list as) (holdsP_list bs) w), hk⟩
theorem effm_neqP {F : PF P} {C : List Value → World → Prop} {n : Nat} {vs : List Value} {t : TypeId} {ks : List PK} (T : PrimStruct P t ks) {x y : Operand} (as bs : List PV) (l1 : as.map PV.kind = ks) (l2 : bs.map PV.kind = ks) {K : Value → List Value → Prop} (hk : K (.bool (!decide (as = bs))) vs) :
    EffM F C n (.bin .neq t x y) [.agg (as.map PV.val).toArray, .agg (bs.map PV.val).toArray] vs K :=
  effm_val rfl (fun vs' w _ _ => primEq_run T true x y _ _ as bs l1 l2 (holdsP_list as) (holdsP_list bs) w) hk
theorem effm_eqlP {F : PF P} {C : List Value → World → Prop} {n : Nat} {vs : List Value} {t : TypeId} {ks : List PK} (T : PrimStruct P t ks) {x y : Operand} (as bs : List PV) (l1 : as.map PV.kind = ks) (l2 : bs.map PV.kind = ks) {K : Value → List Value → Prop} (hk : K (.bool (decide (as = bs))) vs) :
    EffM F C n (.bin .eql t x y) [.agg (as.map PV.val).toArray, .agg (bs.map PV.val).toArray] vs K :=
  effm_val rfl (fun vs' w _ _ => primEq_run T false x y _ _ as bs l1 l2 (holdsP_list as) (holdsP_list bs) w) hk
end
end Go.HL
