/-
  slices.Compare over runes, cmp.Compare. Conditions: so many units at most.
-/
import Derived.Test.YtliofpihaemglaaNmR
namespace Go.HL.Nm
open Go.HL Go.Proofs
set_option maxRecDepth 4000
set_option linter.unusedSimpArgs false
set_option linter.unusedVariables false
end Go.HL.Nm
