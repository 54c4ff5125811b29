/-
  What the claim leans on, part 6 of 18. Conditions: as each theorem says.
-/
import Derived.Test.YtiokklaedanjbaaGreatEPMe
import Derived.Test.YtiokklaedanjbaaGreatRows
import Derived.ProofKit
import Derived.OpenShut
import Derived.JoinedCond
namespace Go.HL
open Go.HL
theorem St.kept {w0 w : World} (s : St w0 (old w0) w) (may : MemPlace → Prop) : w0.keptBut w may := by
  suffices hk : w0.keptBut w (fun _ => False) from World.keptBut_mono (fun _ f => f.elim) hk
  refine ⟨s.os, s.out, fun i hi => ?_⟩
  have h0 : w0.heap[i]? = some w0.heap[i] := by simp [hi]
  rw [s.lookOld0 h0, h0]
  generalize w0.heap[i] = o
  cases o <;> simp
theorem bulk_string {H : Type} (b : List UInt8) : Go.Proofs.YtiokklaedanjbaaGreat.Rows.uptoBulk (DataW.lit (H := H) (.string b)) = b.length + 1 := by
  simp [Go.Proofs.YtiokklaedanjbaaGreat.Rows.uptoBulk]
theorem bulk_bound {H : Type} {l : List (DataW H)} (hk : Go.Proofs.YtiokklaedanjbaaGreat.Rows.uptoSmall H l = true) : Go.Proofs.YtiokklaedanjbaaGreat.Rows.uptoBulkAll l ≤ 1048576 :=
  of_decide_eq_true hk
end Go.HL
