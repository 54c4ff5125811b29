/-
  What the claim leans on, part 18 of 18. Conditions: as each theorem says.
-/
import Derived.Test.YtiokklaedanjbaaGreatEPMq
namespace Go.Proofs.YtiokklaedanjbaaGreat.escrowPlays
open Go.ChangeShapes Go.WideShapes Go.ChangeAt Go.RowKit Go.WideMaps Go.WideElems
open Go.ChangeMaps (open_string shut_string)
set_option linter.unusedVariables false
theorem own : ownKnob Tryz.prog.godebug = none := by kernel_rfl
theorem keeps : Go.HL.keepB Tryz.prog [27, 3, 23, 22, 58, 9, 24, 60, 25, 100, 46, 44, 28, 48, 43, 110] = true := by kernel_rfl
set_option maxRecDepth 10000 in
theorem contract (H : Type) (enc : TypeId × Value → H) (W : World) (base : Nat) (args : Array Value) (ds gs : List (DataW H)) (before : List MemPlace)
    (hval : ∀ (j : Nat) t v, Tryz.f4.params[j]? = some t → args[j]? = some v → Value.okWide Tryz.prog W .any base t v)
    (hW : DataW.Whole enc Tryz.prog Tryz.f4.params.toList Rows.escrowPlaysSpec.vars false W args.toList ds gs before) (hk : Rows.uptoSmall H (ds ++ gs) = true) :
    Calls Tryz.prog 4 args W fun e W' => ∃ v, e = .returned v ∧ Rows.escrowPlaysSpec.post enc Tryz.prog Tryz.f4 false true false false W args v W' := by
  have hW' := hW
  have hlt := hW.lt
  obtain ⟨p, q, hA0, hV, rfl, hfz, hnd⟩ := hW
  have hA : DataW.TrodAll enc Tryz.prog W 0 (fun _ => true) true Tryz.f4.params.toList args.toList ds p := hA0
  have hA1 := hA
  rw [Tryz.params4] at hA hval
  obtain ⟨v0, vs0, d0, ds0, p0, q0, hargs, rfl, rfl, h0, r0⟩ := trodAll_cons hA
  obtain ⟨v1, vs1, d1, ds1, p1, q1, rfl, rfl, rfl, h1, r1⟩ := trodAll_cons r0
  obtain ⟨rfl, rfl, rfl⟩ := trodAll_nil r1
  obtain rfl : args = #[v0, v1] := by cases args; simp_all
  obtain ⟨rfl, rfl⟩ := trodVars_none hV
  simp only [List.append_nil, List.nil_append] at hW' hlt hA1
  have hb := Go.HL.bulk_bound hk
  simp only [List.append_nil, Rows.uptoBulkAll, Go.HL.bulk_string, Go.HL.bulk_int] at hb
  obtain ⟨a0, rfl, ok0, lr0⟩ := Go.HL.Es.open_start3 h0 (hval 0 27 v0 rfl rfl) (by omega)
  obtain ⟨a1, row1, bl1, ex1⟩ := Go.HL.Es.open_ops h1 (hval 1 28 v1 rfl rfl) (by omega)
  have hwalk := Go.HL.Es.plays_walk a0 a1 v1 (Go.HL.World.fresh W) W (Go.HL.old W) rfl ok0.fresh (by omega) row1 ex1 (Go.HL.St.start0 W)
  refine Calls.mono hwalk fun e W' ⟨v, he, hv, hst⟩ => ?_
  subst hv
  refine ⟨_, he, Go.HL.post_of_old0 hst (pv := []) hW' (fun _ _ _ => (trodAll_cons_mk (shut_bool Tryz.underlying4 _) trodAll_mk0))
    (fun sp hsp => Go.HL.trodAll_keep keeps (by decide) hA1 (fun x hx => hst.same0 (hlt x hx)) hsp) (fun _ _ => rfl) (by simp)
    (ok_one (by kernel_rfl) rfl (okWide_bool_mk Tryz.underlying4 _))⟩
set_option maxRecDepth 100000 in
theorem lifted (os : Os) (started : os.Started) (H : Type) (enc : TypeId × Value → H) (F : Stop.Interp) :
    ReturnsInHanded {} Tryz.checked os 4 .any ((Rows.OpenSpec.upto Rows.escrowPlaysSpec).pre6 enc Tryz.prog Tryz.f4 Rows.escrowPlaysUptoRow.domain false) (((Rows.OpenSpec.upto Rows.escrowPlaysSpec).at F).post enc Tryz.prog Tryz.f4 false true false false) := by
  refine returnsInHanded_of_cond (C := Tryz.checked) (s := Rows.OpenSpec.upto Rows.escrowPlaysSpec) (k := Rows.uptoSmall) rfl own started (by kernel_rfl) Tryz.func4
    (OpenSpec.witness (enc := enc) (C := Tryz.checked) (s := Rows.OpenSpec.upto Rows.escrowPlaysSpec) (k := Rows.uptoSmall) rfl false ⟨#[], #[.agg #[.int .i64 0, .slice none 0 0, .int .u64 0, .int .i64 0, .slice none 0 0, .slice none 0 0], .slice none 0 0], []⟩ 8 (by kernel_rfl) (by kernel_rfl) (by kernel_rfl)
      (x := ([.agg [.lit (.int .i64 0), .nil, .lit (.int .u64 0), .lit (.int .i64 0), .nil, .nil], .nil], [], [])) (by kernel_rfl) rfl (by kernel_rfl)) ?_
  intro W base args ds gs before hval hW _ hk _
  exact contract H enc W base args ds gs before hval hW hk
theorem over : Rows.escrowPlaysUptoRow.holds Tryz.pinned (Rows.OpenSpec.upto Rows.escrowPlaysSpec) :=
  OpenClaim.holds_of_cond 4 Tryz.f4 rfl rfl rfl rfl rfl rfl rfl ⟨rfl, rfl, rfl, rfl, rfl⟩ rfl rfl rfl rfl rfl (by kernel_rfl) Tryz.func4 (by kernel_rfl)
    (of_decide_eq_true (by kernel_rfl)) (by unfold Func.isWrapper; first | (rw [if_pos (by decide +kernel)]; kernel_rfl) | (rw [if_neg (by decide +kernel)]; exact ⟨rfl, rfl⟩))
    (fun os started H enc _ F => lifted os started H enc F)
theorem proved : Rows.EscrowPlaysUptoSaid :=
  over
end Go.Proofs.YtiokklaedanjbaaGreat.escrowPlays
