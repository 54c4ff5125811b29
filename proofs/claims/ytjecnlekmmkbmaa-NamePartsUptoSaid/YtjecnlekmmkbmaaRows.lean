/-
  No cell of these rows narrows 'for every input' (looked for: loops, veiled, ifaces, maps, wideKeys, modest, calm, conditions, laid).
  DERIVED. THE GIVEN ROWS OF THIS SEAT. 7 by the template 'for every input the law returns true; each argument reads behind the call as it read before'; 0 by the template 'total and deterministic' (their statements: YtjecnlekmmkbmaaTotals.lean).
  GIVEN WITH THE SEED: the statements are not yours to turn. If you find one false, say at which input.
  Laid BY PROGRAM, IN A SANDBOX (cutbox-rows.mjs): the forced cells as the released guide's own fill.sh prints them over the translation 37e524c1423b061d… (all of the seat's roots in one cut). By AI agents, Wed Nov 11 2026. No macro, syntax, notation, axiom, sorry.
-/
import Derived.Test.YtjecnlekmmkbmaaChecked
import GoSem.Claim
import GoSem.ClaimJoined
import GoSem.ClaimMapViews
import Derived.JoinedTies
import Derived.KernelRfl
namespace Go.Proofs.Ytjecnlekmmkbmaa
/- THE CELL 'sum', in the pinned program and in every row, IS THE sha256 OF THE DUMP (.gsa) THAT YtjecnlekmmkbmaaProg.lean LOADS. Nothing in Lean hashes anything: it is a label: what it is worth is what the hold of that sum in a sandbox is worth. -/
noncomputable def Try.pinned : Pinned := { name := "ytjecnlekmmkbmaa", sum := "37e524c1423b061dc1755cd822dd8ab5e4f07d0fd009e9e1320bd36f20a87f44", checked := Try.checked }
namespace Rows
def none {H : Type} : Left H := { results := [], args := [] }

/-- 'bazaarlaw04.NameCuts': WHATEVER THE INPUT: true; the input reads as it did. -/
def nameCutsSpec : ChangeSpec := { name := "nameCuts", fn := fun _ => fun
  | [d1, d2] => { results := [.lit (.bool true)], args := [d1, d2] }
  | _ => none }
def nameCutsRow : OpenClaim := { program := "ytjecnlekmmkbmaa", sum := "37e524c1423b061dc1755cd822dd8ab5e4f07d0fd009e9e1320bd36f20a87f44", func := "bazaar/bazaarlaw04.NameCuts", spec := "nameCuts", apart := false }
def NameCutsSaid : Prop := nameCutsRow.holds Try.pinned (OpenSpec.ofChange nameCutsSpec)

/-- ITS FALSE NEIGHBOUR: 'it returns false'. Refute it at one input. -/
def nameCutsWrong : ChangeSpec := { name := "nameCuts", fn := fun _ => fun
  | [d1, d2] => { results := [.lit (.bool false)], args := [d1, d2] }
  | _ => none }
def NameCutsWrongFalsely : Prop := nameCutsRow.holds Try.pinned (OpenSpec.ofChange nameCutsWrong)

/-- 'bazaarlaw04.NameChecks': WHATEVER THE INPUT: true; the input reads as it did. -/
def nameChecksSpec : ChangeSpec := { name := "nameChecks", fn := fun _ => fun
  | [d] => { results := [.lit (.bool true)], args := [d] }
  | _ => none }
def nameChecksRow : OpenClaim := { program := "ytjecnlekmmkbmaa", sum := "37e524c1423b061dc1755cd822dd8ab5e4f07d0fd009e9e1320bd36f20a87f44", func := "bazaar/bazaarlaw04.NameChecks", spec := "nameChecks", apart := false }
def NameChecksSaid : Prop := nameChecksRow.holds Try.pinned (OpenSpec.ofChange nameChecksSpec)

/-- ITS FALSE NEIGHBOUR: 'it returns false'. Refute it at one input. -/
def nameChecksWrong : ChangeSpec := { name := "nameChecks", fn := fun _ => fun
  | [d] => { results := [.lit (.bool false)], args := [d] }
  | _ => none }
def NameChecksWrongFalsely : Prop := nameChecksRow.holds Try.pinned (OpenSpec.ofChange nameChecksWrong)

/-- 'bazaarlaw04.NameFolds': WHATEVER THE INPUT: true; the input reads as it did. -/
def nameFoldsSpec : ChangeSpec := { name := "nameFolds", fn := fun _ => fun
  | [d] => { results := [.lit (.bool true)], args := [d] }
  | _ => none }
def nameFoldsRow : OpenClaim := { program := "ytjecnlekmmkbmaa", sum := "37e524c1423b061dc1755cd822dd8ab5e4f07d0fd009e9e1320bd36f20a87f44", func := "bazaar/bazaarlaw04.NameFolds", spec := "nameFolds", apart := false }
def NameFoldsSaid : Prop := nameFoldsRow.holds Try.pinned (OpenSpec.ofChange nameFoldsSpec)

/-- ITS FALSE NEIGHBOUR: 'it returns false'. Refute it at one input. -/
def nameFoldsWrong : ChangeSpec := { name := "nameFolds", fn := fun _ => fun
  | [d] => { results := [.lit (.bool false)], args := [d] }
  | _ => none }
def NameFoldsWrongFalsely : Prop := nameFoldsRow.holds Try.pinned (OpenSpec.ofChange nameFoldsWrong)

/-- 'bazaarlaw04.NamePairs': WHATEVER THE INPUT: true; the input reads as it did. -/
def namePairsSpec : ChangeSpec := { name := "namePairs", fn := fun _ => fun
  | [d1, d2] => { results := [.lit (.bool true)], args := [d1, d2] }
  | _ => none }
def namePairsRow : OpenClaim := { program := "ytjecnlekmmkbmaa", sum := "37e524c1423b061dc1755cd822dd8ab5e4f07d0fd009e9e1320bd36f20a87f44", func := "bazaar/bazaarlaw04.NamePairs", spec := "namePairs", inPlace := ["internal/bytealg.abigen_runtime_cmpstring"], apart := false }
def NamePairsSaid : Prop := namePairsRow.holds Try.pinned (OpenSpec.ofChange namePairsSpec)

/-- ITS FALSE NEIGHBOUR: 'it returns false'. Refute it at one input. -/
def namePairsWrong : ChangeSpec := { name := "namePairs", fn := fun _ => fun
  | [d1, d2] => { results := [.lit (.bool false)], args := [d1, d2] }
  | _ => none }
def NamePairsWrongFalsely : Prop := namePairsRow.holds Try.pinned (OpenSpec.ofChange namePairsWrong)

/-- 'bazaarlaw04.NameOrder': WHATEVER THE INPUT: true; the input reads as it did. -/
def nameOrderSpec : ChangeSpec := { name := "nameOrder", fn := fun _ => fun
  | [d1, d2, d3] => { results := [.lit (.bool true)], args := [d1, d2, d3] }
  | _ => none }
def nameOrderRow : OpenClaim := { program := "ytjecnlekmmkbmaa", sum := "37e524c1423b061dc1755cd822dd8ab5e4f07d0fd009e9e1320bd36f20a87f44", func := "bazaar/bazaarlaw04.NameOrder", spec := "nameOrder", inPlace := ["internal/bytealg.abigen_runtime_cmpstring"], apart := false }
def NameOrderSaid : Prop := nameOrderRow.holds Try.pinned (OpenSpec.ofChange nameOrderSpec)

/-- ITS FALSE NEIGHBOUR: 'it returns false'. Refute it at one input. -/
def nameOrderWrong : ChangeSpec := { name := "nameOrder", fn := fun _ => fun
  | [d1, d2, d3] => { results := [.lit (.bool false)], args := [d1, d2, d3] }
  | _ => none }
def NameOrderWrongFalsely : Prop := nameOrderRow.holds Try.pinned (OpenSpec.ofChange nameOrderWrong)

/-- 'bazaarlaw04.NameOnce': WHATEVER THE INPUT: true; the input reads as it did. -/
def nameOnceSpec : ChangeSpec := { name := "nameOnce", fn := fun _ => fun
  | [d1, d2] => { results := [.lit (.bool true)], args := [d1, d2] }
  | _ => none }
def nameOnceRow : OpenClaim := { program := "ytjecnlekmmkbmaa", sum := "37e524c1423b061dc1755cd822dd8ab5e4f07d0fd009e9e1320bd36f20a87f44", func := "bazaar/bazaarlaw04.NameOnce", spec := "nameOnce", inPlace := ["internal/bytealg.abigen_runtime_cmpstring"], apart := false }
def NameOnceSaid : Prop := nameOnceRow.holds Try.pinned (OpenSpec.ofChange nameOnceSpec)

/-- ITS FALSE NEIGHBOUR: 'it returns false'. Refute it at one input. -/
def nameOnceWrong : ChangeSpec := { name := "nameOnce", fn := fun _ => fun
  | [d1, d2] => { results := [.lit (.bool false)], args := [d1, d2] }
  | _ => none }
def NameOnceWrongFalsely : Prop := nameOnceRow.holds Try.pinned (OpenSpec.ofChange nameOnceWrong)

/-- 'bazaarlaw04.NameParts': WHATEVER THE INPUT: true; the input reads as it did. -/
def namePartsSpec : ChangeSpec := { name := "nameParts", fn := fun _ => fun
  | [d1, d2, d3, d4] => { results := [.lit (.bool true)], args := [d1, d2, d3, d4] }
  | _ => none }
def namePartsRow : OpenClaim := { program := "ytjecnlekmmkbmaa", sum := "37e524c1423b061dc1755cd822dd8ab5e4f07d0fd009e9e1320bd36f20a87f44", func := "bazaar/bazaarlaw04.NameParts", spec := "nameParts", inPlace := ["internal/bytealg.abigen_runtime_cmpstring"], apart := false }
def NamePartsSaid : Prop := namePartsRow.holds Try.pinned (OpenSpec.ofChange namePartsSpec)

/-- ITS FALSE NEIGHBOUR: 'it returns false'. Refute it at one input. -/
def namePartsWrong : ChangeSpec := { name := "nameParts", fn := fun _ => fun
  | [d1, d2, d3, d4] => { results := [.lit (.bool false)], args := [d1, d2, d3, d4] }
  | _ => none }
def NamePartsWrongFalsely : Prop := namePartsRow.holds Try.pinned (OpenSpec.ofChange namePartsWrong)

/- THE SECOND FORM. 'bulk': how many values and letters a reading holds, each counted each time it is reached (what is shared counts as often as it is met; a slice's spare places count too). A statement '..UptoSaid' is the law's where the arguments, and the package variables that the reading takes, are together of bulk at most 1048576: NARROWER than '..Said'. Prove '..Said' where nothing that the law and all that it calls make is longer than what came in: it says more and counts as full. Else prove '..UptoSaid'. A law counts once. -/
mutual
def uptoBulk {H : Type} : DataW H → Nat
  | .lit (.string bytes) => bytes.length + 1
  | .lit _ => 1
  | .nil => 1
  | .ptr d => uptoBulk d + 1
  | .slice elems spare => uptoBulkAll elems + uptoBulkAll spare + 1
  | .agg parts => uptoBulkAll parts + 1
  | .iface _ d => uptoBulk d + 1
  | .map entries => uptoBulkEntries entries + 1
  | .held _ => 1
def uptoBulkAll {H : Type} : List (DataW H) → Nat
  | [] => 0
  | d :: r => uptoBulk d + uptoBulkAll r
def uptoBulkEntries {H : Type} : List (Lit × DataW H) → Nat
  | [] => 0
  | x :: r => uptoBulkEntry x + uptoBulkEntries r
def uptoBulkEntry {H : Type} : Lit × DataW H → Nat
  | (.string bytes, d) => bytes.length + uptoBulk d + 1
  | (_, d) => uptoBulk d + 1
 end
def uptoSmall : (H : Type) → List (DataW H) → Bool := fun _ ds => decide (uptoBulkAll ds ≤ 1048576)
def OpenSpec.upto (s : _root_.Go.ChangeSpec) : _root_.Go.OpenSpec := { _root_.Go.OpenSpec.ofChange s with cond := some uptoSmall }

/-- 'bazaarlaw04.NameCuts', WHERE WHAT IT READS IS OF BULK AT MOST 1048576: true; the input reads as it did. -/
def nameCutsUptoRow : OpenClaim := { program := "ytjecnlekmmkbmaa", sum := "37e524c1423b061dc1755cd822dd8ab5e4f07d0fd009e9e1320bd36f20a87f44", func := "bazaar/bazaarlaw04.NameCuts", spec := "nameCuts", apart := false, narrowed := true }
def NameCutsUptoSaid : Prop := nameCutsUptoRow.holds Try.pinned (OpenSpec.upto nameCutsSpec)

/-- 'bazaarlaw04.NameChecks', WHERE WHAT IT READS IS OF BULK AT MOST 1048576: true; the input reads as it did. -/
def nameChecksUptoRow : OpenClaim := { program := "ytjecnlekmmkbmaa", sum := "37e524c1423b061dc1755cd822dd8ab5e4f07d0fd009e9e1320bd36f20a87f44", func := "bazaar/bazaarlaw04.NameChecks", spec := "nameChecks", apart := false, narrowed := true }
def NameChecksUptoSaid : Prop := nameChecksUptoRow.holds Try.pinned (OpenSpec.upto nameChecksSpec)

/-- 'bazaarlaw04.NameFolds', WHERE WHAT IT READS IS OF BULK AT MOST 1048576: true; the input reads as it did. -/
def nameFoldsUptoRow : OpenClaim := { program := "ytjecnlekmmkbmaa", sum := "37e524c1423b061dc1755cd822dd8ab5e4f07d0fd009e9e1320bd36f20a87f44", func := "bazaar/bazaarlaw04.NameFolds", spec := "nameFolds", apart := false, narrowed := true }
def NameFoldsUptoSaid : Prop := nameFoldsUptoRow.holds Try.pinned (OpenSpec.upto nameFoldsSpec)

/-- 'bazaarlaw04.NamePairs', WHERE WHAT IT READS IS OF BULK AT MOST 1048576: true; the input reads as it did. -/
def namePairsUptoRow : OpenClaim := { program := "ytjecnlekmmkbmaa", sum := "37e524c1423b061dc1755cd822dd8ab5e4f07d0fd009e9e1320bd36f20a87f44", func := "bazaar/bazaarlaw04.NamePairs", spec := "namePairs", inPlace := ["internal/bytealg.abigen_runtime_cmpstring"], apart := false, narrowed := true }
def NamePairsUptoSaid : Prop := namePairsUptoRow.holds Try.pinned (OpenSpec.upto namePairsSpec)

/-- 'bazaarlaw04.NameOrder', WHERE WHAT IT READS IS OF BULK AT MOST 1048576: true; the input reads as it did. -/
def nameOrderUptoRow : OpenClaim := { program := "ytjecnlekmmkbmaa", sum := "37e524c1423b061dc1755cd822dd8ab5e4f07d0fd009e9e1320bd36f20a87f44", func := "bazaar/bazaarlaw04.NameOrder", spec := "nameOrder", inPlace := ["internal/bytealg.abigen_runtime_cmpstring"], apart := false, narrowed := true }
def NameOrderUptoSaid : Prop := nameOrderUptoRow.holds Try.pinned (OpenSpec.upto nameOrderSpec)

/-- 'bazaarlaw04.NameOnce', WHERE WHAT IT READS IS OF BULK AT MOST 1048576: true; the input reads as it did. -/
def nameOnceUptoRow : OpenClaim := { program := "ytjecnlekmmkbmaa", sum := "37e524c1423b061dc1755cd822dd8ab5e4f07d0fd009e9e1320bd36f20a87f44", func := "bazaar/bazaarlaw04.NameOnce", spec := "nameOnce", inPlace := ["internal/bytealg.abigen_runtime_cmpstring"], apart := false, narrowed := true }
def NameOnceUptoSaid : Prop := nameOnceUptoRow.holds Try.pinned (OpenSpec.upto nameOnceSpec)

/-- 'bazaarlaw04.NameParts', WHERE WHAT IT READS IS OF BULK AT MOST 1048576: true; the input reads as it did. -/
def namePartsUptoRow : OpenClaim := { program := "ytjecnlekmmkbmaa", sum := "37e524c1423b061dc1755cd822dd8ab5e4f07d0fd009e9e1320bd36f20a87f44", func := "bazaar/bazaarlaw04.NameParts", spec := "nameParts", inPlace := ["internal/bytealg.abigen_runtime_cmpstring"], apart := false, narrowed := true }
def NamePartsUptoSaid : Prop := namePartsUptoRow.holds Try.pinned (OpenSpec.upto namePartsSpec)

end Rows
end Go.Proofs.Ytjecnlekmmkbmaa
