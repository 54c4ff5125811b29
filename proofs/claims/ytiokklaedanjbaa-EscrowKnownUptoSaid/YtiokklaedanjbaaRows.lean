/-
  No cell of these rows narrows 'for every input' (looked for: loops, veiled, ifaces, maps, wideKeys, modest, calm, conditions, laid).
  DERIVED. THE GIVEN ROWS OF THIS SEAT. 3 by the template 'for every input the law returns true; each argument reads behind the call as it read before'; 0 by the template 'total and deterministic' (their statements: YtiokklaedanjbaaTotals.lean).
  GIVEN WITH THE SEED: the statements are not yours to turn. If you find one false, say at which input.
  Laid BY PROGRAM, IN A SANDBOX (cutbox-rows.mjs): the forced cells as the released guide's own fill.sh prints them over the translation cbeba7ad8be3992d… (all of the seat's roots in one cut). By AI agents, Wed Nov 11 2026. No macro, syntax, notation, axiom, sorry.
-/
import Derived.Test.YtiokklaedanjbaaChecked
import GoSem.Claim
import GoSem.ClaimJoined
import GoSem.ClaimMapViews
import Derived.JoinedTies
import Derived.KernelRfl
namespace Go.Proofs.Ytiokklaedanjbaa
/- THE CELL 'sum', in the pinned program and in every row, IS THE sha256 OF THE DUMP (.gsa) THAT YtiokklaedanjbaaProg.lean LOADS. Nothing in Lean hashes anything: it is a label: what it is worth is what the hold of that sum in a sandbox is worth. -/
noncomputable def Try.pinned : Pinned := { name := "ytiokklaedanjbaa", sum := "cbeba7ad8be3992db4c1ab8c0286bc53ac8f7e494ae99e7522764058281749b7", checked := Try.checked }
namespace Rows
def none {H : Type} : Left H := { results := [], args := [] }

/-- 'bazaarlaw17.EscrowOwn': WHATEVER THE INPUT: true; the input reads as it did. -/
def escrowOwnSpec : ChangeSpec := { name := "escrowOwn", fn := fun _ => fun
  | [d1, d2] => { results := [.lit (.bool true)], args := [d1, d2] }
  | _ => none }
def escrowOwnRow : OpenClaim := { program := "ytiokklaedanjbaa", sum := "cbeba7ad8be3992db4c1ab8c0286bc53ac8f7e494ae99e7522764058281749b7", func := "bazaar/bazaarlaw17.EscrowOwn", spec := "escrowOwn", inPlace := ["math/bits.Add64"], unfollowed := true, recurses := true, apart := false }
def EscrowOwnSaid : Prop := escrowOwnRow.holds Try.pinned (OpenSpec.ofChange escrowOwnSpec)

/-- ITS FALSE NEIGHBOUR: 'it returns false'. Refute it at one input. -/
def escrowOwnWrong : ChangeSpec := { name := "escrowOwn", fn := fun _ => fun
  | [d1, d2] => { results := [.lit (.bool false)], args := [d1, d2] }
  | _ => none }
def EscrowOwnWrongFalsely : Prop := escrowOwnRow.holds Try.pinned (OpenSpec.ofChange escrowOwnWrong)

/-- 'bazaarlaw17.EscrowBack': WHATEVER THE INPUT: true; the input reads as it did. -/
def escrowBackSpec : ChangeSpec := { name := "escrowBack", fn := fun _ => fun
  | [d1, d2, d3, d4] => { results := [.lit (.bool true)], args := [d1, d2, d3, d4] }
  | _ => none }
def escrowBackRow : OpenClaim := { program := "ytiokklaedanjbaa", sum := "cbeba7ad8be3992db4c1ab8c0286bc53ac8f7e494ae99e7522764058281749b7", func := "bazaar/bazaarlaw17.EscrowBack", spec := "escrowBack", inPlace := ["math/bits.Add64"], unfollowed := true, recurses := true, apart := false }
def EscrowBackSaid : Prop := escrowBackRow.holds Try.pinned (OpenSpec.ofChange escrowBackSpec)

/-- ITS FALSE NEIGHBOUR: 'it returns false'. Refute it at one input. -/
def escrowBackWrong : ChangeSpec := { name := "escrowBack", fn := fun _ => fun
  | [d1, d2, d3, d4] => { results := [.lit (.bool false)], args := [d1, d2, d3, d4] }
  | _ => none }
def EscrowBackWrongFalsely : Prop := escrowBackRow.holds Try.pinned (OpenSpec.ofChange escrowBackWrong)

/-- 'bazaarlaw17.EscrowKnown': WHATEVER THE INPUT: true; the input reads as it did. -/
def escrowKnownSpec : ChangeSpec := { name := "escrowKnown", fn := fun _ => fun
  | [] => { results := [.lit (.bool true)], args := [] }
  | _ => none }
def escrowKnownRow : OpenClaim := { program := "ytiokklaedanjbaa", sum := "cbeba7ad8be3992db4c1ab8c0286bc53ac8f7e494ae99e7522764058281749b7", func := "bazaar/bazaarlaw17.EscrowKnown", spec := "escrowKnown", inPlace := ["math/bits.Add64"], unfollowed := true, recurses := true, apart := false }
def EscrowKnownSaid : Prop := escrowKnownRow.holds Try.pinned (OpenSpec.ofChange escrowKnownSpec)

/-- ITS FALSE NEIGHBOUR: 'it returns false'. Refute it at one input. -/
def escrowKnownWrong : ChangeSpec := { name := "escrowKnown", fn := fun _ => fun
  | [] => { results := [.lit (.bool false)], args := [] }
  | _ => none }
def EscrowKnownWrongFalsely : Prop := escrowKnownRow.holds Try.pinned (OpenSpec.ofChange escrowKnownWrong)

/- THE SECOND FORM. 'bulk': how many values and letters a reading holds, each counted each time it is reached (what is shared counts as often as it is met; a slice's spare places count too). A statement '..UptoSaid' is the law's where the arguments, and the package variables that the reading takes, are together of bulk at most 1048576: NARROWER than '..Said'. Prove '..Said' where nothing that the law and all that it calls make is longer than what came in: it says more and counts as full. Else prove '..UptoSaid'. A law counts once. -/
mutual
def uptoBulk {H : Type} : DataW H → Nat
  | .lit (.string bytes) => bytes.length + 1
  | .lit _ => 1
  | .nil => 1
  | .ptr d => uptoBulk d + 1
  | .slice elems spare => uptoBulkAll elems + uptoBulkAll spare + 1
  | .agg parts => uptoBulkAll parts + 1
  | .iface _ d => uptoBulk d + 1
  | .map entries => uptoBulkEntries entries + 1
  | .held _ => 1
def uptoBulkAll {H : Type} : List (DataW H) → Nat
  | [] => 0
  | d :: r => uptoBulk d + uptoBulkAll r
def uptoBulkEntries {H : Type} : List (Lit × DataW H) → Nat
  | [] => 0
  | x :: r => uptoBulkEntry x + uptoBulkEntries r
def uptoBulkEntry {H : Type} : Lit × DataW H → Nat
  | (.string bytes, d) => bytes.length + uptoBulk d + 1
  | (_, d) => uptoBulk d + 1
 end
def uptoSmall : (H : Type) → List (DataW H) → Bool := fun _ ds => decide (uptoBulkAll ds ≤ 1048576)
def OpenSpec.upto (s : _root_.Go.ChangeSpec) : _root_.Go.OpenSpec := { _root_.Go.OpenSpec.ofChange s with cond := some uptoSmall }

/-- 'bazaarlaw17.EscrowOwn', WHERE WHAT IT READS IS OF BULK AT MOST 1048576: true; the input reads as it did. -/
def escrowOwnUptoRow : OpenClaim := { program := "ytiokklaedanjbaa", sum := "cbeba7ad8be3992db4c1ab8c0286bc53ac8f7e494ae99e7522764058281749b7", func := "bazaar/bazaarlaw17.EscrowOwn", spec := "escrowOwn", inPlace := ["math/bits.Add64"], unfollowed := true, recurses := true, apart := false, narrowed := true }
def EscrowOwnUptoSaid : Prop := escrowOwnUptoRow.holds Try.pinned (OpenSpec.upto escrowOwnSpec)

/-- 'bazaarlaw17.EscrowBack', WHERE WHAT IT READS IS OF BULK AT MOST 1048576: true; the input reads as it did. -/
def escrowBackUptoRow : OpenClaim := { program := "ytiokklaedanjbaa", sum := "cbeba7ad8be3992db4c1ab8c0286bc53ac8f7e494ae99e7522764058281749b7", func := "bazaar/bazaarlaw17.EscrowBack", spec := "escrowBack", inPlace := ["math/bits.Add64"], unfollowed := true, recurses := true, apart := false, narrowed := true }
def EscrowBackUptoSaid : Prop := escrowBackUptoRow.holds Try.pinned (OpenSpec.upto escrowBackSpec)

/-- 'bazaarlaw17.EscrowKnown', WHERE WHAT IT READS IS OF BULK AT MOST 1048576: true; the input reads as it did. -/
def escrowKnownUptoRow : OpenClaim := { program := "ytiokklaedanjbaa", sum := "cbeba7ad8be3992db4c1ab8c0286bc53ac8f7e494ae99e7522764058281749b7", func := "bazaar/bazaarlaw17.EscrowKnown", spec := "escrowKnown", inPlace := ["math/bits.Add64"], unfollowed := true, recurses := true, apart := false, narrowed := true }
def EscrowKnownUptoSaid : Prop := escrowKnownUptoRow.holds Try.pinned (OpenSpec.upto escrowKnownSpec)

end Rows
end Go.Proofs.Ytiokklaedanjbaa
