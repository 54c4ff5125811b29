/-
  The law NamePairs returns true for every two texts, where what it reads is of bulk at most 1048576: the walk.
-/
import Derived.Test.YtliofpihaemglaaNmT
namespace Go.HL.Nm
open Go.HL Go.Proofs
set_option maxRecDepth 4000
set_option linter.unusedSimpArgs false
set_option linter.unusedVariables false
end Go.HL.Nm
