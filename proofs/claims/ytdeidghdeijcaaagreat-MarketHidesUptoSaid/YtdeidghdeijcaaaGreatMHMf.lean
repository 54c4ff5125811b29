/-
  What the claim leans on, part 6 of 14. Conditions: as each theorem says.
-/
import Derived.Test.YtdeidghdeijcaaaGreatMHMe
import Derived.Test.YtdeidghdeijcaaaGreatRows
import Derived.ProofKit
import Derived.OpenShut
import Derived.JoinedCond
namespace Go.HL
open Go.HL
theorem St.kept {w0 w : World} (s : St w0 (old w0) w) (may : MemPlace → Prop) : w0.keptBut w may := by
  suffices hk : w0.keptBut w (fun _ => False) from World.keptBut_mono (fun _ f => f.elim) hk
  refine ⟨s.os, s.out, fun i hi => ?_⟩
  have h0 : w0.heap[i]? = some w0.heap[i] := by simp [hi]
  rw [s.lookOld0 h0, h0]
  generalize w0.heap[i] = o
  cases o <;> simp
theorem St.frz {w0 w : World} (s : St w0 (old w0) w) {a : Addr} (h : a.block < w0.heap.size) : w.frozen? a = w0.frozen? a := by
  unfold World.frozen?
  have h0 : w0.heap[a.block]? = some w0.heap[a.block] := by simp [h]
  rw [s.lookOld0 h0, h0]
open Go.WideShapes Go.ChangeShapes in
theorem post_of_old {H : Type} {enc : TypeId × Value → H} {P : Program} {f : Func} {s : ChangeSpec} {apart fresh handsOn again : Bool} {W W' : World} (hst : St W (old W) W') {args : Array Value} {v : Value} {ds gs : List (DataW H)} {before pa pv : List MemPlace}
    (hW : DataW.Whole enc P f.params.toList s.vars apart W args.toList ds gs before)
    (hres : ∀ (b : Nat) (sp : Nat → Bool) (hd : Bool), DataW.TrodAll enc P W' b sp hd f.resultTypes.toList (v.resultList f.resultTypes.size) (s.fn H (ds ++ gs)).results [])
    (hargs : ∀ sp : Nat → Bool, (∀ p ∈ before, sp p.block = true) → DataW.TrodAll enc P W' 0 sp true f.params.toList args.toList (s.fn H (ds ++ gs)).args pa)
    (hvars : ∀ sp : Nat → Bool, (∀ p ∈ before, sp p.block = true) → DataW.TrodVars enc P W' sp s.vars (s.fn H (ds ++ gs)).vars pv)
    (hps : before = pa ++ pv)
    (hok : ∀ (j : Nat) (t : TypeId) (r : Value), f.resultTypes[j]? = some t → (v.resultList f.resultTypes.size)[j]? = some r → Value.okWide P W' .any 0 t r) :
    s.post enc P f apart fresh handsOn again W args v W' := by
  have hlt := hW.lt
  have hold : ∀ p ∈ before, (fun b => decide (b < W.heap.size)) p.block = true := fun p hp => by simpa using hlt p hp
  refine ⟨ds, gs, before, [], pa, pv, hW, hres _ _ _, hargs _ hold, hvars _ hold, hst.kept _, fun _ => ?_⟩
  obtain ⟨_, _, _, _, _, hz, hn⟩ := hW
  refine ⟨hok, _, _, ([] ++ pa) ++ pv, ⟨[] ++ pa, pv, trodAll_append (hargs _ (fun _ _ => rfl)) (hres _ _ _), hvars _ (fun _ _ => rfl), rfl, ?_, ?_⟩, ?_⟩
  · intro b off hp
    have hp' : MemPlace.cell b off ∈ before := by rw [hps]; simpa using hp
    rw [hst.frz (hlt _ hp')]
    exact hz b off hp'
  · intro ha
    have := hn ha
    rw [hps] at this
    simpa using this
  · intro p hp _
    rw [hps]
    simpa using hp
theorem bulk_string {H : Type} (b : List UInt8) : Go.Proofs.YtdeidghdeijcaaaGreat.Rows.uptoBulk (DataW.lit (H := H) (.string b)) = b.length + 1 := by
  simp [Go.Proofs.YtdeidghdeijcaaaGreat.Rows.uptoBulk]
theorem bulk_bound {H : Type} {l : List (DataW H)} (hk : Go.Proofs.YtdeidghdeijcaaaGreat.Rows.uptoSmall H l = true) : Go.Proofs.YtdeidghdeijcaaaGreat.Rows.uptoBulkAll l ≤ 1048576 :=
  of_decide_eq_true hk
end Go.HL
