/-
  What the claim leans on, part 6 of 18. Conditions: as each theorem says.
-/
import Derived.Test.YtiokklaedanjbaaGreatEPMe
import Derived.Test.YtiokklaedanjbaaGreatRows
import Derived.ProofKit
import Derived.OpenShut
import Derived.JoinedCond
namespace Go.HL
open Go.HL
theorem bulk_string {H : Type} (b : List UInt8) : Go.Proofs.YtiokklaedanjbaaGreat.Rows.uptoBulk (DataW.lit (H := H) (.string b)) = b.length + 1 := by
  simp [Go.Proofs.YtiokklaedanjbaaGreat.Rows.uptoBulk]
theorem bulk_bound {H : Type} {l : List (DataW H)} (hk : Go.Proofs.YtiokklaedanjbaaGreat.Rows.uptoSmall H l = true) : Go.Proofs.YtiokklaedanjbaaGreat.Rows.uptoBulkAll l ≤ 1048576 :=
  of_decide_eq_true hk
end Go.HL
