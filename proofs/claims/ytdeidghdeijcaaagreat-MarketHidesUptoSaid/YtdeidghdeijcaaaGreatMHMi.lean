/-
  What the claim leans on, part 9 of 14. Conditions: as each theorem says.
-/
import Derived.Test.YtdeidghdeijcaaaGreatMHMh
import Derived.Defers
namespace Go.HL
set_option linter.unusedSimpArgs false
set_option linter.unusedVariables false
def DfrW (P : Program) (f : FuncId) (args : List Value) (K : World → Prop) (w : World) : Prop :=
  CallsD P f args.toArray .returning w fun e u' w' => u' = .returning ∧ ∃ v, e = .returned v ∧ K w'
structure Dfr where
  t : Nat
  f : FuncId
  caps : List Operand
def dfrOps : List Oper → Option Dfr
  | [⟨some t, .makeFunc (.func f) first caps, _, _, _, none⟩, ⟨none, .defer ⟨.value (.tmp u), args, _⟩, _, _, _, none⟩] =>
    if u = t ∧ first.size = 0 ∧ args.size = 0 then some ⟨t, f, caps.toList⟩ else none
  | _ => none
def dfrOf : Code → Option Dfr
  | .region _ ops false => dfrOps ops.toList
  | _ => none
def splitD : List Code → Option (List Code × Dfr × List Code)
  | [] => none
  | c :: r => match dfrOf c with
    | some d => some ([], d, r)
    | none => (splitD r).map fun q => (c :: q.1, q.2.1, q.2.2)
structure LiftedD where
  L : List Nat
  N : Nat
  rs : List RV
  h1 : HC
  f : FuncId
  caps : SEs
  h2 : HC
section
variable {P : Program} (F : PF P)
def liftD (f : FuncId) (fuel : Nat) : Option LiftedD := do
  let fn ← P.funcs[f]?
  let c ← fn.body
  let L := liveOf fn c fuel
  let q ← splitD (flat c [])
  let h1 ← liftL F L fn.ntmps fuel q.1
  let h2 ← liftL F L fn.ntmps fuel q.2.2
  let rs ← rvOf P L fn.results.toList
  let es ← opnds L [] q.2.1.caps
  if hasBody P q.2.1.f && !(L.contains q.2.1.t) && decide (q.2.1.t < fn.ntmps) then some ⟨L, fn.ntmps, rs, h1, q.2.1.f, es, h2⟩ else none
def dfrEnd (P : Program) (l : LiftedD) (caps : List Value) (K : Value → World → Prop) : EX → List Value → World → Prop
  | .ex _, _, _ => False
  | _, env, w => DfrW P l.f caps (fun w' => rvW P env l.rs (fun vs w => K (tup vs) w) w') w
def dfrQ (l : LiftedD) (K : Value → World → Prop) : EX → List Value → World → Prop
  | .ex _, _, _ => False
  | .ret, env, w => rvW P env l.rs (fun vs w => K (tup vs) w) w
  | .nrm, env, w => l.h2.wp F (dfrEnd P l (SEs.vals F env [] l.caps) K) env w
variable {F}
end
end Go.HL
