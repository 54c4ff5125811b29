/-
  What the claim leans on, part 7 of 15. Conditions: as each theorem says.
-/
import Derived.Test.YtiokklaedanjbaaEKMf
import Derived.Deep.Slices
import Derived.WideShapes
namespace Go.HL
open Go.Proofs Go.Deep
set_option linter.unusedVariables false
section
variable {H : Type} {enc : TypeId × Value → H} {P : Program} {w : World} {base : Nat} {spare : Nat → Bool} {held : Bool}
def fieldsI64 (P : Program) : List Field → Nat → Bool
  | [], _ => true
  | f :: fs, o => (f.offset == o) && (match P.underlying f.type with | some (.int .i64) => true | _ => false) && (P.cellsOf f.type == 1) && fieldsI64 P fs (o + 1)
def rowV (l : List Int) : List Value := l.map (Value.int .i64)
end
end Go.HL

namespace Go.HL
open Go.Proofs Go.Deep
set_option linter.unusedVariables false
section
variable {H : Type} {enc : TypeId × Value → H} {P : Program} {W : World} {base : Nat} {spare : Nat → Bool} {held : Bool}
end
end Go.HL
