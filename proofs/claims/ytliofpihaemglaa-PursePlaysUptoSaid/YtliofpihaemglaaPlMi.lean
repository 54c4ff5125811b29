/-
  What the claim leans on, part 9 of 12. Conditions: as each theorem says.
-/
import Derived.Test.YtliofpihaemglaaPlMh
import Derived.Test.YtliofpihaemglaaRows
import Derived.ProofKit
import Derived.OpenShut
import Derived.JoinedCond
namespace Go.HL
open Go.HL

theorem St.grown {w0 w : World} (s : St w0 (old w0) w) : Go.RowKit.Grown w0 w := by
  refine ⟨⟨s.os, s.out, fun i hi => ?_⟩, fun a => ?_, s.size⟩
  · have h0 : w0.heap[i]? = some w0.heap[i] := by simp [hi]
    rw [s.lookOld0 h0, h0]
    generalize w0.heap[i] = o
    cases o <;> simp
  · unfold World.frozen?
    by_cases h : a.block < w0.heap.size
    · have h0 : w0.heap[a.block]? = some w0.heap[a.block] := by simp [h]
      rw [s.lookOld0 h0, h0]
    · have h0 : w0.heap[a.block]? = none := by simp; omega
      rw [h0]
      cases hb : w.heap[a.block]? with
      | none => rfl
      | some o =>
        cases o with
        | cells c t f =>
          have := s.fresh a.block (by omega) c t f hb
          subst this
          simp
        | _ => rfl
theorem bulk_string {H : Type} (b : List UInt8) : Go.Proofs.Ytliofpihaemglaa.Rows.uptoBulk (DataW.lit (H := H) (.string b)) = b.length + 1 := by
  simp [Go.Proofs.Ytliofpihaemglaa.Rows.uptoBulk]
theorem bulk_bound {H : Type} {l : List (DataW H)} (hk : Go.Proofs.Ytliofpihaemglaa.Rows.uptoSmall H l = true) : Go.Proofs.Ytliofpihaemglaa.Rows.uptoBulkAll l ≤ 1048576 :=
  of_decide_eq_true hk
end Go.HL
