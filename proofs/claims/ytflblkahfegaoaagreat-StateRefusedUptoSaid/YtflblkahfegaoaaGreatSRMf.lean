/-
  What the claim leans on, part 6 of 20. Conditions: as each theorem says.
-/
import Derived.Test.YtflblkahfegaoaaGreatSRMe
import Derived.Test.YtflblkahfegaoaaGreatRows
import Derived.ProofKit
import Derived.OpenShut
import Derived.JoinedCond
set_option linter.unusedSimpArgs false
set_option linter.unusedVariables false
set_option maxRecDepth 4000
namespace Go.HL
open Go.HL
theorem St.kept {w0 w:World} (s:St w0 (nN w0) w) (may:MemPlace→Prop):w0.keptBut w may:=by
 suffices hk:w0.keptBut w (fun _=>False) from World.keptBut_mono (fun _ f=>f.elim) hk
 refine ⟨s.os,s.out,fun i hi=> ?_⟩
 have h0:w0.heap[i]?=some w0.heap[i]:=by simp [hi]
 rw [s.kL h0,h0]
 generalize w0.heap[i]=o
 cases o<;>simp
theorem qI {H:Type} (b:List UInt8):Go.Proofs.YtflblkahfegaoaaGreat.Rows.uptoBulk (DataW.lit (H:=H) (.string b))=b.length+1:=by
 simp [Go.Proofs.YtflblkahfegaoaaGreat.Rows.uptoBulk]
theorem Dm {H:Type} {l:List (DataW H)} (hk:Go.Proofs.YtflblkahfegaoaaGreat.Rows.uptoSmall H l=true):Go.Proofs.YtflblkahfegaoaaGreat.Rows.uptoBulkAll l≤1048576:=
 of_decide_eq_true hk
end Go.HL
