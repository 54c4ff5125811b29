/-
  What the claim leans on, part 10 of 14. Conditions: as each theorem says.
-/
import Derived.Test.YtdeidghdeijcaaaGreatMHMi
import Derived.RangeFuncBox
import Derived.RangeFuncLeaves
import Derived.RangeFuncWrites
import Derived.Shelf.Abstract
import Derived.OwnWalkIn
import Derived.TacticsInMore
import Derived.LoopNIn
import Derived.LoopIn
namespace Go.HL.Es
open Go.HL Go.Proofs Go.RowKit Go.Shelf
set_option maxRecDepth 4000
set_option linter.unusedSimpArgs false
set_option linter.unusedVariables false
attribute [local go_sem] Oper.semAt_some
end Go.HL.Es
