/- Part 8. -/
import Derived.Test.YtpldhemgcoimaaaGreatMEMg
import Derived.Test.YtpldhemgcoimaaaGreatRows
import Derived.ProofKit
import Derived.OpenShut
import Derived.JoinedCond
set_option linter.unusedSimpArgs false
set_option linter.unusedVariables false
set_option maxRecDepth 4000
namespace Go.HL
open Go.HL
theorem ru {H:Type} (b:List UInt8):Go.Proofs.YtpldhemgcoimaaaGreat.Rows.uptoBulk (DataW.lit (H:=H) (.string b))=b.length+1:=by simp [Go.Proofs.YtpldhemgcoimaaaGreat.Rows.uptoBulk]
theorem EB {H:Type} {l:List (DataW H)} (hk:Go.Proofs.YtpldhemgcoimaaaGreat.Rows.uptoSmall H l=true):Go.Proofs.YtpldhemgcoimaaaGreat.Rows.uptoBulkAll l<=1048576:=
 of_decide_eq_true hk
end Go.HL
