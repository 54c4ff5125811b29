/-
  Purse: accounts and scripts as they lie in memory. No condition.
-/
import Derived.Test.YtliofpihaemglaaPuN
import Derived.Test.YtliofpihaemglaaOpen2
import Derived.Test.YtliofpihaemglaaFin
namespace Go.HL.Pu
open Go.HL Go.HL.Nm Go.Proofs
set_option maxRecDepth 4000
set_option linter.unusedVariables false
theorem open_u64 {a : Int} (h : (Lit.int IntKind.u64 a).wf = true) : 0 ≤ a ∧ a ≤ 18446744073709551615 := by simpa [Lit.wf, IntKind.min, IntKind.max, IntKind.signed, IntKind.bits] using h
theorem open_accs {H : Type} {enc : TypeId × Value → H} {W : World} {spare : Nat → Bool} {v : Value} {d : DataW H} {ps : List MemPlace} (h : DataW.Trod enc Try.prog W 0 spare true 39 v d ps) {base : Nat} (hval : Value.okWide Try.prog W .any base 39 v) :
    ∃ rows : List Ac, Row W (old W) v rows.length 2 (flat rows) ∧ rows.length ≤ Go.Proofs.Ytliofpihaemglaa.Rows.uptoBulk d ∧ ∀ x ∈ rows, x.name.length ≤ Go.Proofs.Ytliofpihaemglaa.Rows.uptoBulk d ∧ 0 ≤ x.coins ∧ x.coins ≤ 18446744073709551615 := by
  obtain ⟨va, vl, vc, rfl⟩ := Go.WideShapes.okWide_slice Try.underlying39 hval
  obtain ⟨n, h⟩ := h
  obtain ⟨v, rows, h1, h2, h3, h4, h5, h6⟩ := open_erows (α := Ac) Ac.cs 2 (fun x => 0 ≤ x.coins ∧ x.coins ≤ 18446744073709551615) (fun x => x.name.length) Try.underlying39 (by kernel_rfl) (by decide) (fun _ => rfl) (fun n cs x hx => by
    obtain ⟨hl, n', hf⟩ := open_field Try.underlying66 hx
    have hl2 : cs.length = 2 := hl.trans (by kernel_rfl)
    match cs, hl2 with
    | [c0, c1], _ =>
      obtain ⟨y0, k0, b0⟩ := hf 0 _ rfl
      obtain ⟨y1, k1, _⟩ := hf 1 _ rfl
      obtain ⟨m0, e0, x0, _⟩ := DataW.trod_string Try.underlying9 k0
      obtain ⟨m1, e1, x1, w1⟩ := DataW.trod_int Try.underlying40 k1
      have f0 : [c0] = [Value.string m0] := e0
      have f1 : [c1] = [Value.int .u64 m1] := e1
      cases f0; cases f1
      refine ⟨⟨m0.data.toList, m1⟩, by simp only [Ac.cs]; rw [← mk_eta], open_u64 w1, Nat.le_trans ?_ b0⟩
      rw [x0]
      show m0.data.toList.length ≤ Go.Proofs.Ytliofpihaemglaa.Rows.uptoBulk (DataW.lit (.string m0.data.toList))
      rw [bulk_string]; omega) h
  have h1 : [Value.slice va vl vc] = [v] := by simpa [Value.cells] using h1
  cases h1
  exact ⟨rows, h4, h5, fun x hx => ⟨h6 x hx, h3 x hx⟩⟩
theorem open_script {H : Type} {enc : TypeId × Value → H} {W : World} {spare : Nat → Bool} {v : Value} {d : DataW H} {ps : List MemPlace} (h : DataW.Trod enc Try.prog W 0 spare true 41 v d ps) {base : Nat} (hval : Value.okWide Try.prog W .any base 41 v) :
    ∃ ops : List Sp, Row W (old W) v ops.length 6 (sps ops) ∧ ops.length ≤ Go.Proofs.Ytliofpihaemglaa.Rows.uptoBulk d ∧ ∀ x ∈ ops, x.name.length ≤ Go.Proofs.Ytliofpihaemglaa.Rows.uptoBulk d ∧ 0 ≤ x.coins ∧ x.coins ≤ 18446744073709551615 := by
  obtain ⟨va, vl, vc, rfl⟩ := Go.WideShapes.okWide_slice Try.underlying41 hval
  obtain ⟨n, h⟩ := h
  obtain ⟨v, ops, h1, h2, h3, h4, h5, h6⟩ := open_erows (α := Sp) Sp.cs 6 (fun x => 0 ≤ x.coins ∧ x.coins ≤ 18446744073709551615) (fun x => x.name.length) Try.underlying41 (by kernel_rfl) (by decide) (fun _ => rfl) (fun n cs x hx => by
    obtain ⟨hl, n', hf⟩ := open_field Try.underlying53 hx
    have hl6 : cs.length = 6 := hl.trans (by kernel_rfl)
    match cs, hl6 with
    | [c0, c1, c2, c3, c4, c5], _ =>
      obtain ⟨y0, k0, _⟩ := hf 0 _ rfl
      obtain ⟨y1, k1, _⟩ := hf 1 _ rfl
      obtain ⟨y2, k2, _⟩ := hf 2 _ rfl
      obtain ⟨y3, k3, _⟩ := hf 3 _ rfl
      obtain ⟨y4, k4, _⟩ := hf 4 _ rfl
      obtain ⟨y5, k5, b5⟩ := hf 5 _ rfl
      obtain ⟨m0, e0, _⟩ := DataW.trod_int Try.underlying3 k0
      obtain ⟨m1, e1, _⟩ := DataW.trod_int Try.underlying3 k1
      obtain ⟨m2, e2, _⟩ := DataW.trod_int Try.underlying3 k2
      obtain ⟨m3, e3, _⟩ := DataW.trod_int Try.underlying3 k3
      obtain ⟨m4, e4, x4, w4⟩ := DataW.trod_int Try.underlying40 k4
      obtain ⟨m5, e5, x5, _⟩ := DataW.trod_string Try.underlying9 k5
      have f0 : [c0] = [Value.int .i64 m0] := e0
      have f1 : [c1] = [Value.int .i64 m1] := e1
      have f2 : [c2] = [Value.int .i64 m2] := e2
      have f3 : [c3] = [Value.int .i64 m3] := e3
      have f4 : [c4] = [Value.int .u64 m4] := e4
      have f5 : [c5] = [Value.string m5] := e5
      cases f0; cases f1; cases f2; cases f3; cases f4; cases f5
      refine ⟨⟨m0, m1, m2, m3, m4, m5.data.toList⟩, by simp only [Sp.cs]; rw [← mk_eta], open_u64 w4, Nat.le_trans ?_ b5⟩
      rw [x5]
      show m5.data.toList.length ≤ Go.Proofs.Ytliofpihaemglaa.Rows.uptoBulk (DataW.lit (.string m5.data.toList))
      rw [bulk_string]; omega) h
  have h1 : [Value.slice va vl vc] = [v] := by simpa [Value.cells] using h1
  cases h1
  exact ⟨ops, h4, h5, fun x hx => ⟨h6 x hx, h3 x hx⟩⟩
end Go.HL.Pu
