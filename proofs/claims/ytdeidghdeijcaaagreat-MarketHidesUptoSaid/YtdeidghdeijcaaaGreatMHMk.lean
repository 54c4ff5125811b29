/-
  What the claim leans on, part 11 of 14. Conditions: as each theorem says.
-/
import Derived.Test.YtdeidghdeijcaaaGreatMHMj
import Derived.RangeFuncCalls
namespace Go.HL.Es
open Go.HL Go.Proofs Go.RowKit Go.Shelf
set_option maxRecDepth 4000
set_option linter.unusedSimpArgs false
set_option linter.unusedVariables false
attribute [local go_sem] Oper.semAt_some
section
variable {P : Program}
def markPost (P : Program) (fn : Func) (K : World → Prop) : Exit → Act → World → Prop
  | .normal, a, w | .ret, a, w => ∃ w', (a.defers = [] ∧ w' = w ∨ ∃ D, a.defers = [{ target := .collected D, args := #[] }] ∧ (Instr.takeDeferred D).run P w = .ok [] w') ∧ ∃ v, (results fn a.tmps).run P w' = .ok v w' ∧ K w'
  | _, _, _ => False
abbrev lp (st : LoopState) (fn : FuncId) (tmps : Array Value) (ps : Array Tmp) (assign body : Code) (D : Nat) : Loop := { state := st, pending := none, fn := fn, tmps := tmps, params := ps, assign := assign, body := body, defers := D }
end
noncomputable abbrev E0 : PF Tryz.prog := PF.none _
end Go.HL.Es

namespace Go.HL.Es
open Go.HL Go.Proofs Go.RowKit Go.Shelf
set_option maxRecDepth 4000
set_option linter.unusedSimpArgs false
set_option linter.unusedVariables false
attribute [local go_sem] Oper.semAt_some
end Go.HL.Es
