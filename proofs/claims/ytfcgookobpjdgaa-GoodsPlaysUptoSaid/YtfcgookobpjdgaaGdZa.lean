/-
  Goods: a script as it lies in memory. No condition.
-/
import Derived.Test.YtfcgookobpjdgaaGdZ
import Derived.Test.YtfcgookobpjdgaaOpen2
namespace Go.HL.Gd
open Go.HL Go.Proofs
set_option linter.unusedVariables false
theorem open_items {H : Type} {enc : TypeId × Value → H} {W : World} {base : Nat} {spare : Nat → Bool} {held : Bool} {fuel : Nat} {cs : List Value} {x : DataW H × List MemPlace} (h : DataW.trod enc Try.prog W base spare held fuel 30 cs = some x) :
    ∃ (v : Value) (rows : List It), cs = [v] ∧ v.oneCell' = true ∧ Row W (old W) v rows.length 4 (flat rows) ∧ rows.length ≤ Go.Proofs.Ytfcgookobpjdgaa.Rows.uptoBulk x.1 := by
  obtain ⟨v, rows, h1, h2, _, h3, h4, _⟩ := open_erows (α := It) It.cs 4 (fun _ => True) (fun _ => 0) Try.underlying30 (by kernel_rfl) (by decide) (fun _ => rfl) (fun n cs x hx => by
    obtain ⟨row, hr, hc⟩ := open_istruct Try.underlying44 (by kernel_rfl) (by kernel_rfl) hx
    match row, hr with
    | [a, b, c, d], _ => exact ⟨⟨a, b, c, d⟩, hc, trivial, Nat.zero_le _⟩) h
  exact ⟨v, rows, h1, h2, h3, h4⟩
theorem open_ops {H : Type} {enc : TypeId × Value → H} {W : World} {spare : Nat → Bool} {v : Value} {d : DataW H} {ps : List MemPlace} (h : DataW.Trod enc Try.prog W 0 spare true 52 v d ps) {base : Nat} (hval : Value.okWide Try.prog W .any base 52 v) :
    ∃ ops : List Sp, Row W (old W) v ops.length 5 (sps ops) ∧ ops.length ≤ Go.Proofs.Ytfcgookobpjdgaa.Rows.uptoBulk d ∧ ∀ x ∈ ops, x.rows.length ≤ Go.Proofs.Ytfcgookobpjdgaa.Rows.uptoBulk d ∧ x.rv.oneCell' = true ∧ Row W (old W) x.rv x.rows.length 4 (flat x.rows) := by
  obtain ⟨va, vl, vc, rfl⟩ := Go.WideShapes.okWide_slice Try.underlying52 hval
  obtain ⟨n, h⟩ := h
  obtain ⟨v, ops, h1, h2, h3, h4, h5, h6⟩ := open_erows (α := Sp) Sp.cs 5 (fun x => x.rv.oneCell' = true ∧ Row W (old W) x.rv x.rows.length 4 (flat x.rows)) (fun x => x.rows.length) Try.underlying52 (by kernel_rfl) (by decide) (fun _ => rfl) (fun n cs x hx => by
    obtain ⟨hl, n', hf⟩ := open_field Try.underlying63 hx
    have hl5 : cs.length = 5 := hl.trans (by kernel_rfl)
    match cs, hl5 with
    | [c0, c1, c2, c3, c4], _ =>
      obtain ⟨y0, k0, _⟩ := hf 0 _ rfl
      obtain ⟨y1, k1, _⟩ := hf 1 _ rfl
      obtain ⟨y2, k2, _⟩ := hf 2 _ rfl
      obtain ⟨y3, k3, _⟩ := hf 3 _ rfl
      obtain ⟨y4, k4, b4⟩ := hf 4 _ rfl
      obtain ⟨m0, e0, _⟩ := DataW.trod_int Try.underlying3 k0
      obtain ⟨m1, e1, _⟩ := DataW.trod_int Try.underlying3 k1
      obtain ⟨m2, e2, _⟩ := DataW.trod_int Try.underlying3 k2
      obtain ⟨m3, e3, _⟩ := DataW.trod_int Try.underlying3 k3
      obtain ⟨rv, rows, e4, o4, r4, l4⟩ := open_items k4
      have f0 : [c0] = [Value.int .i64 m0] := e0
      have f1 : [c1] = [Value.int .i64 m1] := e1
      have f2 : [c2] = [Value.int .i64 m2] := e2
      have f3 : [c3] = [Value.int .i64 m3] := e3
      have f4 : [c4] = [rv] := e4
      cases f0; cases f1; cases f2; cases f3; cases f4
      exact ⟨⟨m0, m1, m2, m3, c4, rows⟩, rfl, ⟨o4, r4⟩, Nat.le_trans l4 b4⟩) h
  have h1 : [Value.slice va vl vc] = [v] := by simpa [Value.cells] using h1
  cases h1
  exact ⟨ops, h4, h5, fun x hx => ⟨h6 x hx, h3 x hx⟩⟩
end Go.HL.Gd
