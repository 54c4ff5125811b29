/-
  No cell of these rows narrows 'for every input' (looked for: loops, veiled, ifaces, maps, wideKeys, modest, calm, conditions, laid).
  DERIVED. THE GIVEN ROWS OF THIS SEAT. 5 by the template 'for every input the law returns true; each argument reads behind the call as it read before'; 0 by the template 'total and deterministic' (their statements: YtliofpihaemglaaTotals.lean).
  GIVEN WITH THE SEED: the statements are not yours to turn. If you find one false, say at which input.
  Laid BY PROGRAM, IN A SANDBOX (cutbox-rows.mjs): the forced cells as the released guide's own fill.sh prints them over the translation 5101612fa28ae225… (all of the seat's roots in one cut). By AI agents, Wed Nov 11 2026. No macro, syntax, notation, axiom, sorry.
-/
import Derived.Test.YtliofpihaemglaaChecked
import GoSem.Claim
import GoSem.ClaimJoined
import GoSem.ClaimMapViews
import Derived.JoinedTies
import Derived.KernelRfl
namespace Go.Proofs.Ytliofpihaemglaa
/- THE CELL 'sum', in the pinned program and in every row, IS THE sha256 OF THE DUMP (.gsa) THAT YtliofpihaemglaaProg.lean LOADS. Nothing in Lean hashes anything: it is a label: what it is worth is what the hold of that sum in a sandbox is worth. -/
noncomputable def Try.pinned : Pinned := { name := "ytliofpihaemglaa", sum := "5101612fa28ae225c8b7fa5973a5cabe5f8d8ba6a433cce8f188c88eb919c32a", checked := Try.checked }
namespace Rows
def none {H : Type} : Left H := { results := [], args := [] }

/-- 'bazaarlaw14.PurseNames': WHATEVER THE INPUT: true; the input reads as it did. -/
def purseNamesSpec : ChangeSpec := { name := "purseNames", fn := fun _ => fun
  | [d1, d2] => { results := [.lit (.bool true)], args := [d1, d2] }
  | _ => none }
def purseNamesRow : OpenClaim := { program := "ytliofpihaemglaa", sum := "5101612fa28ae225c8b7fa5973a5cabe5f8d8ba6a433cce8f188c88eb919c32a", func := "bazaar/bazaarlaw14.PurseNames", spec := "purseNames", apart := false }
def PurseNamesSaid : Prop := purseNamesRow.holds Try.pinned (OpenSpec.ofChange purseNamesSpec)

/-- ITS FALSE NEIGHBOUR: 'it returns false'. Refute it at one input. -/
def purseNamesWrong : ChangeSpec := { name := "purseNames", fn := fun _ => fun
  | [d1, d2] => { results := [.lit (.bool false)], args := [d1, d2] }
  | _ => none }
def PurseNamesWrongFalsely : Prop := purseNamesRow.holds Try.pinned (OpenSpec.ofChange purseNamesWrong)

/-- 'bazaarlaw14.PursePlays': WHATEVER THE INPUT: true; the input reads as it did. -/
def pursePlaysSpec : ChangeSpec := { name := "pursePlays", fn := fun _ => fun
  | [d1, d2, d3, d4] => { results := [.lit (.bool true)], args := [d1, d2, d3, d4] }
  | _ => none }
def pursePlaysRow : OpenClaim := { program := "ytliofpihaemglaa", sum := "5101612fa28ae225c8b7fa5973a5cabe5f8d8ba6a433cce8f188c88eb919c32a", func := "bazaar/bazaarlaw14.PursePlays", spec := "pursePlays", inPlace := ["maps.clone"], apart := false }
def PursePlaysSaid : Prop := pursePlaysRow.holds Try.pinned (OpenSpec.ofChange pursePlaysSpec)

/-- ITS FALSE NEIGHBOUR: 'it returns false'. Refute it at one input. -/
def pursePlaysWrong : ChangeSpec := { name := "pursePlays", fn := fun _ => fun
  | [d1, d2, d3, d4] => { results := [.lit (.bool false)], args := [d1, d2, d3, d4] }
  | _ => none }
def PursePlaysWrongFalsely : Prop := pursePlaysRow.holds Try.pinned (OpenSpec.ofChange pursePlaysWrong)

/-- 'bazaarlaw14.PurseKnown': WHATEVER THE INPUT: true; the input reads as it did. -/
def purseKnownSpec : ChangeSpec := { name := "purseKnown", fn := fun _ => fun
  | [] => { results := [.lit (.bool true)], args := [] }
  | _ => none }
def purseKnownRow : OpenClaim := { program := "ytliofpihaemglaa", sum := "5101612fa28ae225c8b7fa5973a5cabe5f8d8ba6a433cce8f188c88eb919c32a", func := "bazaar/bazaarlaw14.PurseKnown", spec := "purseKnown", inPlace := ["maps.clone"], apart := false }
def PurseKnownSaid : Prop := purseKnownRow.holds Try.pinned (OpenSpec.ofChange purseKnownSpec)

/-- ITS FALSE NEIGHBOUR: 'it returns false'. Refute it at one input. -/
def purseKnownWrong : ChangeSpec := { name := "purseKnown", fn := fun _ => fun
  | [] => { results := [.lit (.bool false)], args := [] }
  | _ => none }
def PurseKnownWrongFalsely : Prop := purseKnownRow.holds Try.pinned (OpenSpec.ofChange purseKnownWrong)

/-- 'bazaarlaw14.PurseAll': WHATEVER THE INPUT: true; the input reads as it did. -/
def purseAllSpec : ChangeSpec := { name := "purseAll", fn := fun _ => fun
  | [d1, d2, d3, d4] => { results := [.lit (.bool true)], args := [d1, d2, d3, d4] }
  | _ => none }
def purseAllRow : OpenClaim := { program := "ytliofpihaemglaa", sum := "5101612fa28ae225c8b7fa5973a5cabe5f8d8ba6a433cce8f188c88eb919c32a", func := "bazaar/bazaarlaw14.PurseAll", spec := "purseAll", inPlace := ["maps.clone"], apart := false }
def PurseAllSaid : Prop := purseAllRow.holds Try.pinned (OpenSpec.ofChange purseAllSpec)

/-- ITS FALSE NEIGHBOUR: 'it returns false'. Refute it at one input. -/
def purseAllWrong : ChangeSpec := { name := "purseAll", fn := fun _ => fun
  | [d1, d2, d3, d4] => { results := [.lit (.bool false)], args := [d1, d2, d3, d4] }
  | _ => none }
def PurseAllWrongFalsely : Prop := purseAllRow.holds Try.pinned (OpenSpec.ofChange purseAllWrong)

/-- 'bazaarlaw14.PurseCopies': WHATEVER THE INPUT: true; the input reads as it did. -/
def purseCopiesSpec : ChangeSpec := { name := "purseCopies", fn := fun _ => fun
  | [d1, d2, d3, d4] => { results := [.lit (.bool true)], args := [d1, d2, d3, d4] }
  | _ => none }
def purseCopiesRow : OpenClaim := { program := "ytliofpihaemglaa", sum := "5101612fa28ae225c8b7fa5973a5cabe5f8d8ba6a433cce8f188c88eb919c32a", func := "bazaar/bazaarlaw14.PurseCopies", spec := "purseCopies", inPlace := ["maps.clone"], apart := false }
def PurseCopiesSaid : Prop := purseCopiesRow.holds Try.pinned (OpenSpec.ofChange purseCopiesSpec)

/-- ITS FALSE NEIGHBOUR: 'it returns false'. Refute it at one input. -/
def purseCopiesWrong : ChangeSpec := { name := "purseCopies", fn := fun _ => fun
  | [d1, d2, d3, d4] => { results := [.lit (.bool false)], args := [d1, d2, d3, d4] }
  | _ => none }
def PurseCopiesWrongFalsely : Prop := purseCopiesRow.holds Try.pinned (OpenSpec.ofChange purseCopiesWrong)

/- THE SECOND FORM. 'bulk': how many values and letters a reading holds, each counted each time it is reached (what is shared counts as often as it is met; a slice's spare places count too). A statement '..UptoSaid' is the law's where the arguments, and the package variables that the reading takes, are together of bulk at most 1048576: NARROWER than '..Said'. Prove '..Said' where nothing that the law and all that it calls make is longer than what came in: it says more and counts as full. Else prove '..UptoSaid'. A law counts once. -/
mutual
def uptoBulk {H : Type} : DataW H → Nat
  | .lit (.string bytes) => bytes.length + 1
  | .lit _ => 1
  | .nil => 1
  | .ptr d => uptoBulk d + 1
  | .slice elems spare => uptoBulkAll elems + uptoBulkAll spare + 1
  | .agg parts => uptoBulkAll parts + 1
  | .iface _ d => uptoBulk d + 1
  | .map entries => uptoBulkEntries entries + 1
  | .held _ => 1
def uptoBulkAll {H : Type} : List (DataW H) → Nat
  | [] => 0
  | d :: r => uptoBulk d + uptoBulkAll r
def uptoBulkEntries {H : Type} : List (Lit × DataW H) → Nat
  | [] => 0
  | x :: r => uptoBulkEntry x + uptoBulkEntries r
def uptoBulkEntry {H : Type} : Lit × DataW H → Nat
  | (.string bytes, d) => bytes.length + uptoBulk d + 1
  | (_, d) => uptoBulk d + 1
 end
def uptoSmall : (H : Type) → List (DataW H) → Bool := fun _ ds => decide (uptoBulkAll ds ≤ 1048576)
def OpenSpec.upto (s : _root_.Go.ChangeSpec) : _root_.Go.OpenSpec := { _root_.Go.OpenSpec.ofChange s with cond := some uptoSmall }

/-- 'bazaarlaw14.PurseNames', WHERE WHAT IT READS IS OF BULK AT MOST 1048576: true; the input reads as it did. -/
def purseNamesUptoRow : OpenClaim := { program := "ytliofpihaemglaa", sum := "5101612fa28ae225c8b7fa5973a5cabe5f8d8ba6a433cce8f188c88eb919c32a", func := "bazaar/bazaarlaw14.PurseNames", spec := "purseNames", apart := false, narrowed := true }
def PurseNamesUptoSaid : Prop := purseNamesUptoRow.holds Try.pinned (OpenSpec.upto purseNamesSpec)

/-- 'bazaarlaw14.PursePlays', WHERE WHAT IT READS IS OF BULK AT MOST 1048576: true; the input reads as it did. -/
def pursePlaysUptoRow : OpenClaim := { program := "ytliofpihaemglaa", sum := "5101612fa28ae225c8b7fa5973a5cabe5f8d8ba6a433cce8f188c88eb919c32a", func := "bazaar/bazaarlaw14.PursePlays", spec := "pursePlays", inPlace := ["maps.clone"], apart := false, narrowed := true }
def PursePlaysUptoSaid : Prop := pursePlaysUptoRow.holds Try.pinned (OpenSpec.upto pursePlaysSpec)

/-- 'bazaarlaw14.PurseKnown', WHERE WHAT IT READS IS OF BULK AT MOST 1048576: true; the input reads as it did. -/
def purseKnownUptoRow : OpenClaim := { program := "ytliofpihaemglaa", sum := "5101612fa28ae225c8b7fa5973a5cabe5f8d8ba6a433cce8f188c88eb919c32a", func := "bazaar/bazaarlaw14.PurseKnown", spec := "purseKnown", inPlace := ["maps.clone"], apart := false, narrowed := true }
def PurseKnownUptoSaid : Prop := purseKnownUptoRow.holds Try.pinned (OpenSpec.upto purseKnownSpec)

/-- 'bazaarlaw14.PurseAll', WHERE WHAT IT READS IS OF BULK AT MOST 1048576: true; the input reads as it did. -/
def purseAllUptoRow : OpenClaim := { program := "ytliofpihaemglaa", sum := "5101612fa28ae225c8b7fa5973a5cabe5f8d8ba6a433cce8f188c88eb919c32a", func := "bazaar/bazaarlaw14.PurseAll", spec := "purseAll", inPlace := ["maps.clone"], apart := false, narrowed := true }
def PurseAllUptoSaid : Prop := purseAllUptoRow.holds Try.pinned (OpenSpec.upto purseAllSpec)

/-- 'bazaarlaw14.PurseCopies', WHERE WHAT IT READS IS OF BULK AT MOST 1048576: true; the input reads as it did. -/
def purseCopiesUptoRow : OpenClaim := { program := "ytliofpihaemglaa", sum := "5101612fa28ae225c8b7fa5973a5cabe5f8d8ba6a433cce8f188c88eb919c32a", func := "bazaar/bazaarlaw14.PurseCopies", spec := "purseCopies", inPlace := ["maps.clone"], apart := false, narrowed := true }
def PurseCopiesUptoSaid : Prop := purseCopiesUptoRow.holds Try.pinned (OpenSpec.upto purseCopiesSpec)

end Rows
end Go.Proofs.Ytliofpihaemglaa
