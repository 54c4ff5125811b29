/-
  No cell of these rows narrows 'for every input' (looked for: loops, veiled, ifaces, maps, wideKeys, modest, calm, conditions, laid).
  DERIVED. THE GIVEN ROWS OF THIS SEAT. 7 by the template 'for every input the law returns true; each argument reads behind the call as it read before'; 0 by the template 'total and deterministic' (their statements: YtflblkahfegaoaaGreatTotals.lean).
  GIVEN WITH THE SEED: the statements are not yours to turn. If you find one false, say at which input.
  Laid BY PROGRAM, IN A SANDBOX (cutbox-rows.mjs): the forced cells as the released guide's own fill.sh prints them over the translation 24f04b62416baea6… (all of the seat's roots in one cut). By AI agents, Wed Nov 11 2026. No macro, syntax, notation, axiom, sorry.
-/
import Derived.Test.YtflblkahfegaoaaGreatChecked
import GoSem.Claim
import GoSem.ClaimJoined
import GoSem.ClaimMapViews
import Derived.JoinedTies
import Derived.KernelRfl
namespace Go.Proofs.YtflblkahfegaoaaGreat
/- THE CELL 'sum', in the pinned program and in every row, IS THE sha256 OF THE DUMP (.gsa) THAT YtflblkahfegaoaaGreatProg.lean LOADS. Nothing in Lean hashes anything: it is a label: what it is worth is what the hold of that sum in a sandbox is worth. -/
noncomputable def Tryz.pinned : Pinned := { name := "ytflblkahfegaoaagreat", sum := "24f04b62416baea652a173c5659a542ba21614b8459b91a006d847526a329e67", checked := Tryz.checked }
namespace Rows
def none {H : Type} : Left H := { results := [], args := [] }

/-- 'bazaarlaw23.StateAll': WHATEVER THE INPUT: true; the input reads as it did. -/
def stateAllSpec : ChangeSpec := { name := "stateAll", fn := fun _ => fun
  | [d1, d2] => { results := [.lit (.bool true)], args := [d1, d2] }
  | _ => none }
def stateAllRow : OpenClaim := { program := "ytflblkahfegaoaagreat", sum := "24f04b62416baea652a173c5659a542ba21614b8459b91a006d847526a329e67", func := "bazaar/bazaarlaw23.StateAll", spec := "stateAll", inPlace := ["math/bits.Add64"], unfollowed := true, recurses := true, apart := false }
def StateAllSaid : Prop := stateAllRow.holds Tryz.pinned (OpenSpec.ofChange stateAllSpec)

/-- ITS FALSE NEIGHBOUR: 'it returns false'. Refute it at one input. -/
def stateAllWrong : ChangeSpec := { name := "stateAll", fn := fun _ => fun
  | [d1, d2] => { results := [.lit (.bool false)], args := [d1, d2] }
  | _ => none }
def StateAllWrongFalsely : Prop := stateAllRow.holds Tryz.pinned (OpenSpec.ofChange stateAllWrong)

/-- 'bazaarlaw23.StateRefused': WHATEVER THE INPUT: true; the input reads as it did. -/
def stateRefusedSpec : ChangeSpec := { name := "stateRefused", fn := fun _ => fun
  | [d1, d2] => { results := [.lit (.bool true)], args := [d1, d2] }
  | _ => none }
def stateRefusedRow : OpenClaim := { program := "ytflblkahfegaoaagreat", sum := "24f04b62416baea652a173c5659a542ba21614b8459b91a006d847526a329e67", func := "bazaar/bazaarlaw23.StateRefused", spec := "stateRefused", inPlace := ["math/bits.Add64", "maps.clone"], unfollowed := true, recurses := true, apart := false }
def StateRefusedSaid : Prop := stateRefusedRow.holds Tryz.pinned (OpenSpec.ofChange stateRefusedSpec)

/-- ITS FALSE NEIGHBOUR: 'it returns false'. Refute it at one input. -/
def stateRefusedWrong : ChangeSpec := { name := "stateRefused", fn := fun _ => fun
  | [d1, d2] => { results := [.lit (.bool false)], args := [d1, d2] }
  | _ => none }
def StateRefusedWrongFalsely : Prop := stateRefusedRow.holds Tryz.pinned (OpenSpec.ofChange stateRefusedWrong)

/-- 'bazaarlaw23.StateTime': WHATEVER THE INPUT: true; the input reads as it did. -/
def stateTimeSpec : ChangeSpec := { name := "stateTime", fn := fun _ => fun
  | [d1, d2] => { results := [.lit (.bool true)], args := [d1, d2] }
  | _ => none }
def stateTimeRow : OpenClaim := { program := "ytflblkahfegaoaagreat", sum := "24f04b62416baea652a173c5659a542ba21614b8459b91a006d847526a329e67", func := "bazaar/bazaarlaw23.StateTime", spec := "stateTime", inPlace := ["math/bits.Add64", "maps.clone"], unfollowed := true, recurses := true, apart := false }
def StateTimeSaid : Prop := stateTimeRow.holds Tryz.pinned (OpenSpec.ofChange stateTimeSpec)

/-- ITS FALSE NEIGHBOUR: 'it returns false'. Refute it at one input. -/
def stateTimeWrong : ChangeSpec := { name := "stateTime", fn := fun _ => fun
  | [d1, d2] => { results := [.lit (.bool false)], args := [d1, d2] }
  | _ => none }
def StateTimeWrongFalsely : Prop := stateTimeRow.holds Tryz.pinned (OpenSpec.ofChange stateTimeWrong)

/-- 'bazaarlaw23.StateOwn': WHATEVER THE INPUT: true; the input reads as it did. -/
def stateOwnSpec : ChangeSpec := { name := "stateOwn", fn := fun _ => fun
  | [d1, d2] => { results := [.lit (.bool true)], args := [d1, d2] }
  | _ => none }
def stateOwnRow : OpenClaim := { program := "ytflblkahfegaoaagreat", sum := "24f04b62416baea652a173c5659a542ba21614b8459b91a006d847526a329e67", func := "bazaar/bazaarlaw23.StateOwn", spec := "stateOwn", inPlace := ["math/bits.Add64", "maps.clone"], unfollowed := true, recurses := true, apart := false }
def StateOwnSaid : Prop := stateOwnRow.holds Tryz.pinned (OpenSpec.ofChange stateOwnSpec)

/-- ITS FALSE NEIGHBOUR: 'it returns false'. Refute it at one input. -/
def stateOwnWrong : ChangeSpec := { name := "stateOwn", fn := fun _ => fun
  | [d1, d2] => { results := [.lit (.bool false)], args := [d1, d2] }
  | _ => none }
def StateOwnWrongFalsely : Prop := stateOwnRow.holds Tryz.pinned (OpenSpec.ofChange stateOwnWrong)

/-- 'bazaarlaw23.StateForms': WHATEVER THE INPUT: true; the input reads as it did. -/
def stateFormsSpec : ChangeSpec := { name := "stateForms", fn := fun _ => fun
  | [d1, d2, d3, d4] => { results := [.lit (.bool true)], args := [d1, d2, d3, d4] }
  | _ => none }
def stateFormsRow : OpenClaim := { program := "ytflblkahfegaoaagreat", sum := "24f04b62416baea652a173c5659a542ba21614b8459b91a006d847526a329e67", func := "bazaar/bazaarlaw23.StateForms", spec := "stateForms", inPlace := ["math/bits.Add64"], unfollowed := true, recurses := true, apart := false }
def StateFormsSaid : Prop := stateFormsRow.holds Tryz.pinned (OpenSpec.ofChange stateFormsSpec)

/-- ITS FALSE NEIGHBOUR: 'it returns false'. Refute it at one input. -/
def stateFormsWrong : ChangeSpec := { name := "stateForms", fn := fun _ => fun
  | [d1, d2, d3, d4] => { results := [.lit (.bool false)], args := [d1, d2, d3, d4] }
  | _ => none }
def StateFormsWrongFalsely : Prop := stateFormsRow.holds Tryz.pinned (OpenSpec.ofChange stateFormsWrong)

/-- 'bazaarlaw23.StateKnown': WHATEVER THE INPUT: true; the input reads as it did. -/
def stateKnownSpec : ChangeSpec := { name := "stateKnown", fn := fun _ => fun
  | [] => { results := [.lit (.bool true)], args := [] }
  | _ => none }
def stateKnownRow : OpenClaim := { program := "ytflblkahfegaoaagreat", sum := "24f04b62416baea652a173c5659a542ba21614b8459b91a006d847526a329e67", func := "bazaar/bazaarlaw23.StateKnown", spec := "stateKnown", inPlace := ["math/bits.Add64", "maps.clone"], unfollowed := true, recurses := true, apart := false }
def StateKnownSaid : Prop := stateKnownRow.holds Tryz.pinned (OpenSpec.ofChange stateKnownSpec)

/-- ITS FALSE NEIGHBOUR: 'it returns false'. Refute it at one input. -/
def stateKnownWrong : ChangeSpec := { name := "stateKnown", fn := fun _ => fun
  | [] => { results := [.lit (.bool false)], args := [] }
  | _ => none }
def StateKnownWrongFalsely : Prop := stateKnownRow.holds Tryz.pinned (OpenSpec.ofChange stateKnownWrong)

/-- 'bazaarlaw23.StatePlays': WHATEVER THE INPUT: true; the input reads as it did. -/
def statePlaysSpec : ChangeSpec := { name := "statePlays", fn := fun _ => fun
  | [d1, d2] => { results := [.lit (.bool true)], args := [d1, d2] }
  | _ => none }
def statePlaysRow : OpenClaim := { program := "ytflblkahfegaoaagreat", sum := "24f04b62416baea652a173c5659a542ba21614b8459b91a006d847526a329e67", func := "bazaar/bazaarlaw23.StatePlays", spec := "statePlays", inPlace := ["math/bits.Add64", "maps.clone"], unfollowed := true, recurses := true, apart := false }
def StatePlaysSaid : Prop := statePlaysRow.holds Tryz.pinned (OpenSpec.ofChange statePlaysSpec)

/-- ITS FALSE NEIGHBOUR: 'it returns false'. Refute it at one input. -/
def statePlaysWrong : ChangeSpec := { name := "statePlays", fn := fun _ => fun
  | [d1, d2] => { results := [.lit (.bool false)], args := [d1, d2] }
  | _ => none }
def StatePlaysWrongFalsely : Prop := statePlaysRow.holds Tryz.pinned (OpenSpec.ofChange statePlaysWrong)

/- THE SECOND FORM. 'bulk': how many values and letters a reading holds, each counted each time it is reached (what is shared counts as often as it is met; a slice's spare places count too). A statement '..UptoSaid' is the law's where the arguments, and the package variables that the reading takes, are together of bulk at most 1048576: NARROWER than '..Said'. Prove '..Said' where nothing that the law and all that it calls make is longer than what came in: it says more and counts as full. Else prove '..UptoSaid'. A law counts once. -/
mutual
def uptoBulk {H : Type} : DataW H → Nat
  | .lit (.string bytes) => bytes.length + 1
  | .lit _ => 1
  | .nil => 1
  | .ptr d => uptoBulk d + 1
  | .slice elems spare => uptoBulkAll elems + uptoBulkAll spare + 1
  | .agg parts => uptoBulkAll parts + 1
  | .iface _ d => uptoBulk d + 1
  | .map entries => uptoBulkEntries entries + 1
  | .held _ => 1
def uptoBulkAll {H : Type} : List (DataW H) → Nat
  | [] => 0
  | d :: r => uptoBulk d + uptoBulkAll r
def uptoBulkEntries {H : Type} : List (Lit × DataW H) → Nat
  | [] => 0
  | x :: r => uptoBulkEntry x + uptoBulkEntries r
def uptoBulkEntry {H : Type} : Lit × DataW H → Nat
  | (.string bytes, d) => bytes.length + uptoBulk d + 1
  | (_, d) => uptoBulk d + 1
 end
def uptoSmall : (H : Type) → List (DataW H) → Bool := fun _ ds => decide (uptoBulkAll ds ≤ 1048576)
def OpenSpec.upto (s : _root_.Go.ChangeSpec) : _root_.Go.OpenSpec := { _root_.Go.OpenSpec.ofChange s with cond := some uptoSmall }

/-- 'bazaarlaw23.StateAll', WHERE WHAT IT READS IS OF BULK AT MOST 1048576: true; the input reads as it did. -/
def stateAllUptoRow : OpenClaim := { program := "ytflblkahfegaoaagreat", sum := "24f04b62416baea652a173c5659a542ba21614b8459b91a006d847526a329e67", func := "bazaar/bazaarlaw23.StateAll", spec := "stateAll", inPlace := ["math/bits.Add64"], unfollowed := true, recurses := true, apart := false, narrowed := true }
def StateAllUptoSaid : Prop := stateAllUptoRow.holds Tryz.pinned (OpenSpec.upto stateAllSpec)

/-- 'bazaarlaw23.StateRefused', WHERE WHAT IT READS IS OF BULK AT MOST 1048576: true; the input reads as it did. -/
def stateRefusedUptoRow : OpenClaim := { program := "ytflblkahfegaoaagreat", sum := "24f04b62416baea652a173c5659a542ba21614b8459b91a006d847526a329e67", func := "bazaar/bazaarlaw23.StateRefused", spec := "stateRefused", inPlace := ["math/bits.Add64", "maps.clone"], unfollowed := true, recurses := true, apart := false, narrowed := true }
def StateRefusedUptoSaid : Prop := stateRefusedUptoRow.holds Tryz.pinned (OpenSpec.upto stateRefusedSpec)

/-- 'bazaarlaw23.StateTime', WHERE WHAT IT READS IS OF BULK AT MOST 1048576: true; the input reads as it did. -/
def stateTimeUptoRow : OpenClaim := { program := "ytflblkahfegaoaagreat", sum := "24f04b62416baea652a173c5659a542ba21614b8459b91a006d847526a329e67", func := "bazaar/bazaarlaw23.StateTime", spec := "stateTime", inPlace := ["math/bits.Add64", "maps.clone"], unfollowed := true, recurses := true, apart := false, narrowed := true }
def StateTimeUptoSaid : Prop := stateTimeUptoRow.holds Tryz.pinned (OpenSpec.upto stateTimeSpec)

/-- 'bazaarlaw23.StateOwn', WHERE WHAT IT READS IS OF BULK AT MOST 1048576: true; the input reads as it did. -/
def stateOwnUptoRow : OpenClaim := { program := "ytflblkahfegaoaagreat", sum := "24f04b62416baea652a173c5659a542ba21614b8459b91a006d847526a329e67", func := "bazaar/bazaarlaw23.StateOwn", spec := "stateOwn", inPlace := ["math/bits.Add64", "maps.clone"], unfollowed := true, recurses := true, apart := false, narrowed := true }
def StateOwnUptoSaid : Prop := stateOwnUptoRow.holds Tryz.pinned (OpenSpec.upto stateOwnSpec)

/-- 'bazaarlaw23.StateForms', WHERE WHAT IT READS IS OF BULK AT MOST 1048576: true; the input reads as it did. -/
def stateFormsUptoRow : OpenClaim := { program := "ytflblkahfegaoaagreat", sum := "24f04b62416baea652a173c5659a542ba21614b8459b91a006d847526a329e67", func := "bazaar/bazaarlaw23.StateForms", spec := "stateForms", inPlace := ["math/bits.Add64"], unfollowed := true, recurses := true, apart := false, narrowed := true }
def StateFormsUptoSaid : Prop := stateFormsUptoRow.holds Tryz.pinned (OpenSpec.upto stateFormsSpec)

/-- 'bazaarlaw23.StateKnown', WHERE WHAT IT READS IS OF BULK AT MOST 1048576: true; the input reads as it did. -/
def stateKnownUptoRow : OpenClaim := { program := "ytflblkahfegaoaagreat", sum := "24f04b62416baea652a173c5659a542ba21614b8459b91a006d847526a329e67", func := "bazaar/bazaarlaw23.StateKnown", spec := "stateKnown", inPlace := ["math/bits.Add64", "maps.clone"], unfollowed := true, recurses := true, apart := false, narrowed := true }
def StateKnownUptoSaid : Prop := stateKnownUptoRow.holds Tryz.pinned (OpenSpec.upto stateKnownSpec)

/-- 'bazaarlaw23.StatePlays', WHERE WHAT IT READS IS OF BULK AT MOST 1048576: true; the input reads as it did. -/
def statePlaysUptoRow : OpenClaim := { program := "ytflblkahfegaoaagreat", sum := "24f04b62416baea652a173c5659a542ba21614b8459b91a006d847526a329e67", func := "bazaar/bazaarlaw23.StatePlays", spec := "statePlays", inPlace := ["math/bits.Add64", "maps.clone"], unfollowed := true, recurses := true, apart := false, narrowed := true }
def StatePlaysUptoSaid : Prop := statePlaysUptoRow.holds Tryz.pinned (OpenSpec.upto statePlaysSpec)

end Rows
end Go.Proofs.YtflblkahfegaoaaGreat
