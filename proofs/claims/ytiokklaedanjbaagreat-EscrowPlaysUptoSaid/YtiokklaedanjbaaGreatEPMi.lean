/-
  What the claim leans on, part 9 of 18. Conditions: as each theorem says.
-/
import Derived.Test.YtiokklaedanjbaaGreatEPMh
import Derived.Defers
namespace Go.HL
set_option linter.unusedSimpArgs false
set_option linter.unusedVariables false
def DfrW (P : Program) (f : FuncId) (args : List Value) (K : World → Prop) (w : World) : Prop :=
  CallsD P f args.toArray .returning w fun e u' w' => u' = .returning ∧ ∃ v, e = .returned v ∧ K w'
structure Dfr where
  t : Nat
  f : FuncId
  caps : List Operand
def dfrOps : List Oper → Option Dfr
  | [⟨some t, .makeFunc (.func f) first caps, _, _, _, none⟩, ⟨none, .defer ⟨.value (.tmp u), args, _⟩, _, _, _, none⟩] =>
    if u = t ∧ first.size = 0 ∧ args.size = 0 then some ⟨t, f, caps.toList⟩ else none
  | _ => none
def dfrOf : Code → Option Dfr
  | .region _ ops false => dfrOps ops.toList
  | _ => none
def splitD : List Code → Option (List Code × Dfr × List Code)
  | [] => none
  | c :: r => match dfrOf c with
    | some d => some ([], d, r)
    | none => (splitD r).map fun q => (c :: q.1, q.2.1, q.2.2)
structure LiftedD where
  L : List Nat
  N : Nat
  rs : List RV
  h1 : HC
  f : FuncId
  caps : SEs
  h2 : HC
section
variable {P : Program} (F : PF P)
def liftD (f : FuncId) (fuel : Nat) : Option LiftedD := do
  let fn ← P.funcs[f]?
  let c ← fn.body
  let L := liveOf fn c fuel
  let q ← splitD (flat c [])
  let h1 ← liftL F L fn.ntmps fuel q.1
  let h2 ← liftL F L fn.ntmps fuel q.2.2
  let rs ← rvOf P L fn.results.toList
  let es ← opnds L [] q.2.1.caps
  if hasBody P q.2.1.f && !(L.contains q.2.1.t) && decide (q.2.1.t < fn.ntmps) then some ⟨L, fn.ntmps, rs, h1, q.2.1.f, es, h2⟩ else none
def dfrEnd (P : Program) (l : LiftedD) (caps : List Value) (K : Value → World → Prop) : EX → List Value → World → Prop
  | .ex _, _, _ => False
  | _, env, w => DfrW P l.f caps (fun w' => rvW P env l.rs (fun vs w => K (tup vs) w) w') w
def dfrQ (l : LiftedD) (K : Value → World → Prop) : EX → List Value → World → Prop
  | .ex _, _, _ => False
  | .ret, env, w => rvW P env l.rs (fun vs w => K (tup vs) w) w
  | .nrm, env, w => l.h2.wp F (dfrEnd P l (SEs.vals F env [] l.caps) K) env w
variable {F}
theorem rvW_results {fn : Func} {L : List Nat} {N : Nat} {D : List Deferred} {env : List Value} {a : Act} {rs : List RV} {w : World} {K : Value → World → Prop} (R : Rel L N D env a)
    (hrs : rvOf P L fn.results.toList = some rs) (hq : rvW P env rs (fun vs w => K (tup vs) w) w) : ∃ v, (results fn a.tmps).run P w = .ok v w ∧ K v w := by
  obtain ⟨vs, h1, h2⟩ := rvW_run R _ _ w _ hrs hq
  refine ⟨tup vs, ?_, h2⟩
  have hm : (fn.results.mapM (fun | .tmp t => pure (a.tmps.getD t undef) | .cell u t => do loadVar t (← asAddr (a.tmps.getD u undef)) : ResultVar → Sem Value)).run P w = .ok vs.toArray w := by
    rw [← Array.toArray_toList (xs := fn.results), List.mapM_toArray]
    simp only [Sem.run_map]
    refine (congrArg (fun r => Result.andThen r _) h1).trans ?_
    simp only [Result.andThen_ok]
  have he : results fn a.tmps = (fn.results.mapM (fun | .tmp t => pure (a.tmps.getD t undef) | .cell u t => do loadVar t (← asAddr (a.tmps.getD u undef)) : ResultVar → Sem Value)) >>= fun vs => pure (if h : vs.size = 1 then vs[0] else .tuple vs) := rfl
  rw [he, Sem.run_bind, hm]
  simp only [Result.andThen_ok, Sem.run_pure]
  rw [tup_eq]
theorem wpL_app : ∀ (x y : List Code) (Q : Exit → Act → World → Prop) (a : Act) (w : World), wpL P x (Exit.then (wpL P y Q) Q) a w → wpL P (x ++ y) Q a w
  | [], y, Q, a, w, h => h
  | c :: r, y, Q, a, w, h => by
    simp only [List.cons_append, wpL] at h ⊢
    refine wp_mono h fun e a w q => ?_
    cases e with
    | normal => exact wpL_app r y Q a w q
    | _ => exact q
theorem splitD_eq : ∀ {l : List Code} {q : List Code × Dfr × List Code}, splitD l = some q → ∃ c, l = q.1 ++ c :: q.2.2 ∧ dfrOf c = some q.2.1
  | [], _, h => by simp [splitD] at h
  | c :: r, q, h => by
    unfold splitD at h
    split at h
    · rename_i d hd
      cases h
      exact ⟨c, rfl, hd⟩
    · simp only [Option.map_eq_some_iff] at h
      obtain ⟨q', hq, rfl⟩ := h
      obtain ⟨c', h1, h2⟩ := splitD_eq hq
      exact ⟨c', by rw [h1]; rfl, h2⟩
theorem dfr_step {c : Code} {d : Dfr} (h : dfrOf c = some d) {L : List Nat} {N : Nat} {env : List Value} {a : Act} {w : World} {es : SEs} {Q : Exit → Act → World → Prop} (R : Rel L N [] env a)
    (hes : opnds L [] d.caps = some es) (ht : L.contains d.t = false) (hN : d.t < N)
    (hn : ∀ a', Rel L N [{ target := .fn (.func d.f) (SEs.vals F env [] es).toArray, args := #[] }] env a' → Q .normal a' w) : c.wp P Q a w := by
  cases c <;> simp only [dfrOf] at h <;> (try (cases h; done))
  rename_i id ops dr
  cases dr <;> simp only at h <;> (try (cases h; done))
  refine wp_region_list ?_
  unfold dfrOps at h
  split at h
  · rename_i t f first caps ty1 pos1 af1 u args ats ty2 pos2 af2 hops
    split at h
    · rename_i hc
      obtain ⟨rfl, hf, ha⟩ := hc
      cases h
      simp only at hes ht hN hn
      rw [hops]
      have hv := R.inv (F := F) |>.opnds hes
      have hf : first = #[] := by simpa using hf
      have ha : args = #[] := by simpa using ha
      subst hf ha
      have hu : (a.put (some u) (.func (.func f) #[] (caps.map a.eval))).eval (.tmp u) = .func (.func f) #[] (caps.map a.eval) := by
        simp [Act.put, Act.eval, R.size, hN]
      have e1 : (execOp a.eval ⟨some u, .makeFunc (.func f) #[] caps, ty1, pos1, af1, none⟩).run P w = .ok (.value (.func (.func f) #[] (caps.map a.eval))) w := by
        simp [execOp, Instr.makeFunc]
      have e2 : (execOp (a.put (some u) (.func (.func f) #[] (caps.map a.eval))).eval ⟨none, .defer ⟨.value (.tmp u), #[], ats⟩, ty2, pos2, af2, none⟩).run P w = .ok (.defer { target := .fn (.func f) (caps.map a.eval), args := #[] }) w := by
        simp [execOp, resolve, hu, Deferred.ofValue]
      have hcap : caps.map a.eval = (SEs.vals F env [] es).toArray := by
        rw [← hv]
        have : caps = caps.toList.toArray := rfl
        generalize caps.toList = k at this ⊢
        subst this
        simp only [List.map_toArray]
      have wn : ∀ (o : Oper) (y : Nat → Option Bool), o.guard = none → Region.wanted o y = true := fun o y hg => by simp [Region.wanted, hg]
      unfold wpList
      rw [if_pos (wn ⟨some u, .makeFunc (.func f) #[] caps, ty1, pos1, af1, none⟩ _ rfl)]
      left
      unfold Oper.wp
      rw [e1, Oper.upon_value]
      unfold wpList
      rw [if_pos (wn ⟨none, .defer ⟨.value (.tmp u), #[], ats⟩, ty2, pos2, af2, none⟩ _ rfl)]
      left
      unfold Oper.wp
      rw [e2, Oper.upon_defer]
      refine hn _ ⟨?_, ?_, R.len, ?_⟩
      · simp [Act.put, R.size]
      · simp [Act.put, R.dfr, hcap]
      · intro i t hi
        have hne : u ≠ t := by
          rintro rfl
          have : u ∈ L := List.mem_of_getElem? hi
          simp [this] at ht
        simp only [Act.put]
        rw [getD_set _ _ _ _ (by rw [R.size]; exact hN), if_neg hne]
        exact R.get i t hi
    · cases h
  · cases h
theorem callW_of_liftD {f : FuncId} {fuel : Nat} {l : LiftedD} (hl : liftD F f fuel = some l) {args : List Value} {K : Value → World → Prop} {w : World} (hlen : args.length ≤ l.N)
    (h : l.h1.wp F (dfrQ F l K) (env0 l.L l.N args) w) : CallW P f args K w := by
  simp only [liftD, Option.bind_eq_bind, Option.bind_eq_some_iff] at hl
  obtain ⟨fn, hfn, c, hc, q, hq, h1, hl1, h2, hl2, rs, hrs, es, hes, hl⟩ := hl
  split at hl
  · rename_i hg
    simp only [Bool.and_eq_true, Bool.not_eq_true', decide_eq_true_eq] at hg
    cases hl
    simp only at h hlen
    obtain ⟨c', hfl, hd⟩ := splitD_eq hq
    refine calls_of_wp_defers hfn hc (flat_wp0 ?_)
    rw [hfl]
    refine wpL_app _ _ _ _ _ (liftL_sound (D := []) _ _ _ hl1 _ _ _ _ _ ?_ ?_ h)
    · intro e env a w R hq
      cases e with
      | ex id => exact hq.elim
      | ret =>
        obtain ⟨v, hr, hk⟩ := rvW_results R hrs hq
        show Leaves P fn a.tmps _ a.defers .returning w
        rw [R.dfr]
        exact ⟨v, hr, v, rfl, hk⟩
      | nrm =>
        show wpL P (c' :: q.2.2) _ a w
        simp only [wpL]
        refine dfr_step (F := F) hd R hes hg.1.2 hg.2 fun a' R' => ?_
        refine liftL_sound (D := [{ target := .fn (.func q.2.1.f) (SEs.vals F env [] es).toArray, args := #[] }]) _ _ _ hl2 _ _ _ _ _ ?_ R' hq
        intro e env2 a2 w2 R2 hq2
        have fin : DfrW P q.2.1.f (SEs.vals F env [] es) (fun w' => rvW P env2 rs (fun vs w => K (tup vs) w) w') w2 → Leaves P fn a2.tmps (fun e w' => ∃ v, e = .returned v ∧ K v w') a2.defers .returning w2 := by
          intro hd2
          rw [R2.dfr]
          refine leaves_cons (f := q.2.1.f) (args := (SEs.vals F env [] es).toArray) (by simp) ?_ ?_
          · simpa [invoke] using callFunc_run hg.1.1 (SEs.vals F env [] es).toArray w2
          · refine CallsD.mono hd2 ?_
            rintro e u' w' ⟨rfl, v, rfl, hk⟩
            obtain ⟨v', hr, hk'⟩ := rvW_results R2 hrs hk
            exact ⟨v', hr, v', rfl, hk'⟩
        cases e with
        | nrm => exact fin hq2
        | ex id => exact hq2.elim
        | ret => exact fin hq2
    · refine ⟨?_, rfl, by simp [env0], fun i t hi => ?_⟩
      · simp only [Array.size_append, List.size_toArray, Array.size_replicate]
        omega
      · simp only [env0, List.getD_eq_getElem?_getD, List.getElem?_map, hi, Option.map_some, Option.getD_some]
        simp only [Array.getD_eq_getD_getElem?, Array.getElem?_append, List.getElem?_toArray, List.size_toArray, Array.getElem?_replicate]
        split
        · rename_i hlt
          rw [if_pos (by omega)]
        · rename_i hge
          have : args[t]? = none := by simp; omega
          split <;> split <;> simp [this]
  · cases hl
end
end Go.HL
