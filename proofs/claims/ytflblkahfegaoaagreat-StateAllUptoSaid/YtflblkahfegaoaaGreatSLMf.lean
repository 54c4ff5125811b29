/- Part 6. -/
import Derived.Test.YtflblkahfegaoaaGreatSLMe
import Derived.Test.YtflblkahfegaoaaGreatRows
import Derived.ProofKit
import Derived.OpenShut
import Derived.JoinedCond
set_option linter.unusedSimpArgs false
set_option linter.unusedVariables false
set_option maxRecDepth 4000
namespace Go.HL
open Go.HL
theorem ru {H:Type} (b:List UInt8):Go.Proofs.YtflblkahfegaoaaGreat.Rows.uptoBulk (DataW.lit (H:=H) (.string b))=b.length+1:=by simp [Go.Proofs.YtflblkahfegaoaaGreat.Rows.uptoBulk]
theorem EP {H:Type} {l:List (DataW H)} (hk:Go.Proofs.YtflblkahfegaoaaGreat.Rows.uptoSmall H l=true):Go.Proofs.YtflblkahfegaoaaGreat.Rows.uptoBulkAll l<=1048576:=
 of_decide_eq_true hk
end Go.HL
