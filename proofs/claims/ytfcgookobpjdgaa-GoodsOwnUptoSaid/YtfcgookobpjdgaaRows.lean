/-
  No cell of these rows narrows 'for every input' (looked for: loops, veiled, ifaces, maps, wideKeys, modest, calm, conditions, laid).
  DERIVED. THE GIVEN ROWS OF THIS SEAT. 4 by the template 'for every input the law returns true; each argument reads behind the call as it read before'; 0 by the template 'total and deterministic' (their statements: YtfcgookobpjdgaaTotals.lean).
  GIVEN WITH THE SEED: the statements are not yours to turn. If you find one false, say at which input.
  Laid BY PROGRAM, IN A SANDBOX (cutbox-rows.mjs): the forced cells as the released guide's own fill.sh prints them over the translation fffe1bb3392d66b4… (all of the seat's roots in one cut). By AI agents, Wed Nov 11 2026. No macro, syntax, notation, axiom, sorry.
-/
import Derived.Test.YtfcgookobpjdgaaChecked
import GoSem.Claim
import GoSem.ClaimJoined
import GoSem.ClaimMapViews
import Derived.JoinedTies
import Derived.KernelRfl
namespace Go.Proofs.Ytfcgookobpjdgaa
/- THE CELL 'sum', in the pinned program and in every row, IS THE sha256 OF THE DUMP (.gsa) THAT YtfcgookobpjdgaaProg.lean LOADS. Nothing in Lean hashes anything: it is a label: what it is worth is what the hold of that sum in a sandbox is worth. -/
noncomputable def Try.pinned : Pinned := { name := "ytfcgookobpjdgaa", sum := "fffe1bb3392d66b48a5213cdc94c49d0de7079ac19efa4ceef2ee12a78d67ed5", checked := Try.checked }
namespace Rows
def none {H : Type} : Left H := { results := [], args := [] }

/-- 'bazaarlaw15.GoodsOnce': WHATEVER THE INPUT: true; the input reads as it did. -/
def goodsOnceSpec : ChangeSpec := { name := "goodsOnce", fn := fun _ => fun
  | [d1, d2] => { results := [.lit (.bool true)], args := [d1, d2] }
  | _ => none }
def goodsOnceRow : OpenClaim := { program := "ytfcgookobpjdgaa", sum := "fffe1bb3392d66b48a5213cdc94c49d0de7079ac19efa4ceef2ee12a78d67ed5", func := "bazaar/bazaarlaw15.GoodsOnce", spec := "goodsOnce", unfollowed := true, recurses := true, apart := false }
def GoodsOnceSaid : Prop := goodsOnceRow.holds Try.pinned (OpenSpec.ofChange goodsOnceSpec)

/-- ITS FALSE NEIGHBOUR: 'it returns false'. Refute it at one input. -/
def goodsOnceWrong : ChangeSpec := { name := "goodsOnce", fn := fun _ => fun
  | [d1, d2] => { results := [.lit (.bool false)], args := [d1, d2] }
  | _ => none }
def GoodsOnceWrongFalsely : Prop := goodsOnceRow.holds Try.pinned (OpenSpec.ofChange goodsOnceWrong)

/-- 'bazaarlaw15.GoodsBack': WHATEVER THE INPUT: true; the input reads as it did. -/
def goodsBackSpec : ChangeSpec := { name := "goodsBack", fn := fun _ => fun
  | [d1, d2, d3, d4] => { results := [.lit (.bool true)], args := [d1, d2, d3, d4] }
  | _ => none }
def goodsBackRow : OpenClaim := { program := "ytfcgookobpjdgaa", sum := "fffe1bb3392d66b48a5213cdc94c49d0de7079ac19efa4ceef2ee12a78d67ed5", func := "bazaar/bazaarlaw15.GoodsBack", spec := "goodsBack", unfollowed := true, recurses := true, apart := false }
def GoodsBackSaid : Prop := goodsBackRow.holds Try.pinned (OpenSpec.ofChange goodsBackSpec)

/-- ITS FALSE NEIGHBOUR: 'it returns false'. Refute it at one input. -/
def goodsBackWrong : ChangeSpec := { name := "goodsBack", fn := fun _ => fun
  | [d1, d2, d3, d4] => { results := [.lit (.bool false)], args := [d1, d2, d3, d4] }
  | _ => none }
def GoodsBackWrongFalsely : Prop := goodsBackRow.holds Try.pinned (OpenSpec.ofChange goodsBackWrong)

/-- 'bazaarlaw15.GoodsOwn': WHATEVER THE INPUT: true; the input reads as it did. -/
def goodsOwnSpec : ChangeSpec := { name := "goodsOwn", fn := fun _ => fun
  | [d1, d2, d3, d4] => { results := [.lit (.bool true)], args := [d1, d2, d3, d4] }
  | _ => none }
def goodsOwnRow : OpenClaim := { program := "ytfcgookobpjdgaa", sum := "fffe1bb3392d66b48a5213cdc94c49d0de7079ac19efa4ceef2ee12a78d67ed5", func := "bazaar/bazaarlaw15.GoodsOwn", spec := "goodsOwn", unfollowed := true, recurses := true, apart := false }
def GoodsOwnSaid : Prop := goodsOwnRow.holds Try.pinned (OpenSpec.ofChange goodsOwnSpec)

/-- ITS FALSE NEIGHBOUR: 'it returns false'. Refute it at one input. -/
def goodsOwnWrong : ChangeSpec := { name := "goodsOwn", fn := fun _ => fun
  | [d1, d2, d3, d4] => { results := [.lit (.bool false)], args := [d1, d2, d3, d4] }
  | _ => none }
def GoodsOwnWrongFalsely : Prop := goodsOwnRow.holds Try.pinned (OpenSpec.ofChange goodsOwnWrong)

/-- 'bazaarlaw15.GoodsPlays': WHATEVER THE INPUT: true; the input reads as it did. -/
def goodsPlaysSpec : ChangeSpec := { name := "goodsPlays", fn := fun _ => fun
  | [d1, d2] => { results := [.lit (.bool true)], args := [d1, d2] }
  | _ => none }
def goodsPlaysRow : OpenClaim := { program := "ytfcgookobpjdgaa", sum := "fffe1bb3392d66b48a5213cdc94c49d0de7079ac19efa4ceef2ee12a78d67ed5", func := "bazaar/bazaarlaw15.GoodsPlays", spec := "goodsPlays", unfollowed := true, recurses := true, apart := false }
def GoodsPlaysSaid : Prop := goodsPlaysRow.holds Try.pinned (OpenSpec.ofChange goodsPlaysSpec)

/-- ITS FALSE NEIGHBOUR: 'it returns false'. Refute it at one input. -/
def goodsPlaysWrong : ChangeSpec := { name := "goodsPlays", fn := fun _ => fun
  | [d1, d2] => { results := [.lit (.bool false)], args := [d1, d2] }
  | _ => none }
def GoodsPlaysWrongFalsely : Prop := goodsPlaysRow.holds Try.pinned (OpenSpec.ofChange goodsPlaysWrong)

/- THE SECOND FORM. 'bulk': how many values and letters a reading holds, each counted each time it is reached (what is shared counts as often as it is met; a slice's spare places count too). A statement '..UptoSaid' is the law's where the arguments, and the package variables that the reading takes, are together of bulk at most 1048576: NARROWER than '..Said'. Prove '..Said' where nothing that the law and all that it calls make is longer than what came in: it says more and counts as full. Else prove '..UptoSaid'. A law counts once. -/
mutual
def uptoBulk {H : Type} : DataW H → Nat
  | .lit (.string bytes) => bytes.length + 1
  | .lit _ => 1
  | .nil => 1
  | .ptr d => uptoBulk d + 1
  | .slice elems spare => uptoBulkAll elems + uptoBulkAll spare + 1
  | .agg parts => uptoBulkAll parts + 1
  | .iface _ d => uptoBulk d + 1
  | .map entries => uptoBulkEntries entries + 1
  | .held _ => 1
def uptoBulkAll {H : Type} : List (DataW H) → Nat
  | [] => 0
  | d :: r => uptoBulk d + uptoBulkAll r
def uptoBulkEntries {H : Type} : List (Lit × DataW H) → Nat
  | [] => 0
  | x :: r => uptoBulkEntry x + uptoBulkEntries r
def uptoBulkEntry {H : Type} : Lit × DataW H → Nat
  | (.string bytes, d) => bytes.length + uptoBulk d + 1
  | (_, d) => uptoBulk d + 1
 end
def uptoSmall : (H : Type) → List (DataW H) → Bool := fun _ ds => decide (uptoBulkAll ds ≤ 1048576)
def OpenSpec.upto (s : _root_.Go.ChangeSpec) : _root_.Go.OpenSpec := { _root_.Go.OpenSpec.ofChange s with cond := some uptoSmall }

/-- 'bazaarlaw15.GoodsOnce', WHERE WHAT IT READS IS OF BULK AT MOST 1048576: true; the input reads as it did. -/
def goodsOnceUptoRow : OpenClaim := { program := "ytfcgookobpjdgaa", sum := "fffe1bb3392d66b48a5213cdc94c49d0de7079ac19efa4ceef2ee12a78d67ed5", func := "bazaar/bazaarlaw15.GoodsOnce", spec := "goodsOnce", unfollowed := true, recurses := true, apart := false, narrowed := true }
def GoodsOnceUptoSaid : Prop := goodsOnceUptoRow.holds Try.pinned (OpenSpec.upto goodsOnceSpec)

/-- 'bazaarlaw15.GoodsBack', WHERE WHAT IT READS IS OF BULK AT MOST 1048576: true; the input reads as it did. -/
def goodsBackUptoRow : OpenClaim := { program := "ytfcgookobpjdgaa", sum := "fffe1bb3392d66b48a5213cdc94c49d0de7079ac19efa4ceef2ee12a78d67ed5", func := "bazaar/bazaarlaw15.GoodsBack", spec := "goodsBack", unfollowed := true, recurses := true, apart := false, narrowed := true }
def GoodsBackUptoSaid : Prop := goodsBackUptoRow.holds Try.pinned (OpenSpec.upto goodsBackSpec)

/-- 'bazaarlaw15.GoodsOwn', WHERE WHAT IT READS IS OF BULK AT MOST 1048576: true; the input reads as it did. -/
def goodsOwnUptoRow : OpenClaim := { program := "ytfcgookobpjdgaa", sum := "fffe1bb3392d66b48a5213cdc94c49d0de7079ac19efa4ceef2ee12a78d67ed5", func := "bazaar/bazaarlaw15.GoodsOwn", spec := "goodsOwn", unfollowed := true, recurses := true, apart := false, narrowed := true }
def GoodsOwnUptoSaid : Prop := goodsOwnUptoRow.holds Try.pinned (OpenSpec.upto goodsOwnSpec)

/-- 'bazaarlaw15.GoodsPlays', WHERE WHAT IT READS IS OF BULK AT MOST 1048576: true; the input reads as it did. -/
def goodsPlaysUptoRow : OpenClaim := { program := "ytfcgookobpjdgaa", sum := "fffe1bb3392d66b48a5213cdc94c49d0de7079ac19efa4ceef2ee12a78d67ed5", func := "bazaar/bazaarlaw15.GoodsPlays", spec := "goodsPlays", unfollowed := true, recurses := true, apart := false, narrowed := true }
def GoodsPlaysUptoSaid : Prop := goodsPlaysUptoRow.holds Try.pinned (OpenSpec.upto goodsPlaysSpec)

end Rows
end Go.Proofs.Ytfcgookobpjdgaa
