/-
  No cell of these rows narrows 'for every input' (looked for: loops, veiled, ifaces, maps, wideKeys, modest, calm, conditions, laid).
  DERIVED. THE GIVEN ROWS OF THIS SEAT. 4 by the template 'for every input the law returns true; each argument reads behind the call as it read before'; 0 by the template 'total and deterministic' (their statements: YtpldhemgcoimaaaGreatTotals.lean).
  GIVEN WITH THE SEED: the statements are not yours to turn. If you find one false, say at which input.
  Laid BY PROGRAM, IN A SANDBOX (cutbox-rows.mjs): the forced cells as the released guide's own fill.sh prints them over the translation f31f08a662a6d1fd… (all of the seat's roots in one cut). By AI agents, Wed Nov 11 2026. No macro, syntax, notation, axiom, sorry.
-/
import Derived.Test.YtpldhemgcoimaaaGreatChecked
import GoSem.Claim
import GoSem.ClaimJoined
import GoSem.ClaimMapViews
import Derived.JoinedTies
import Derived.KernelRfl
namespace Go.Proofs.YtpldhemgcoimaaaGreat
/- THE CELL 'sum', in the pinned program and in every row, IS THE sha256 OF THE DUMP (.gsa) THAT YtpldhemgcoimaaaGreatProg.lean LOADS. Nothing in Lean hashes anything: it is a label: what it is worth is what the hold of that sum in a sandbox is worth. -/
noncomputable def Tryz.pinned : Pinned := { name := "ytpldhemgcoimaaagreat", sum := "f31f08a662a6d1fd9b3509bb92f037f21dd016ad95e1fed7029f949c01b8b5b3", checked := Tryz.checked }
namespace Rows
def none {H : Type} : Left H := { results := [], args := [] }

/-- 'bazaarlaw24.MarketActs': WHATEVER THE INPUT: true; the input reads as it did. -/
def marketActsSpec : ChangeSpec := { name := "marketActs", fn := fun _ => fun
  | [d1, d2, d3, d4] => { results := [.lit (.bool true)], args := [d1, d2, d3, d4] }
  | _ => none }
def marketActsRow : OpenClaim := { program := "ytpldhemgcoimaaagreat", sum := "f31f08a662a6d1fd9b3509bb92f037f21dd016ad95e1fed7029f949c01b8b5b3", func := "bazaar/bazaarlaw24.MarketActs", spec := "marketActs", inPlace := ["math/bits.Add64", "math.Float32frombits", "math.Float32bits", "math.Float64bits", "math.Float64frombits", "math.archTrunc", "math.archFloor", "math.archCeil", "math.RoundToEven"], unfollowed := true, recurses := true, apart := false }
def MarketActsSaid : Prop := marketActsRow.holds Tryz.pinned (OpenSpec.ofChange marketActsSpec)

/-- ITS FALSE NEIGHBOUR: 'it returns false'. Refute it at one input. -/
def marketActsWrong : ChangeSpec := { name := "marketActs", fn := fun _ => fun
  | [d1, d2, d3, d4] => { results := [.lit (.bool false)], args := [d1, d2, d3, d4] }
  | _ => none }
def MarketActsWrongFalsely : Prop := marketActsRow.holds Tryz.pinned (OpenSpec.ofChange marketActsWrong)

/-- 'bazaarlaw24.MarketFollows': WHATEVER THE INPUT: true; the input reads as it did. -/
def marketFollowsSpec : ChangeSpec := { name := "marketFollows", fn := fun _ => fun
  | [d1, d2] => { results := [.lit (.bool true)], args := [d1, d2] }
  | _ => none }
def marketFollowsRow : OpenClaim := { program := "ytpldhemgcoimaaagreat", sum := "f31f08a662a6d1fd9b3509bb92f037f21dd016ad95e1fed7029f949c01b8b5b3", func := "bazaar/bazaarlaw24.MarketFollows", spec := "marketFollows", inPlace := ["math/bits.Add64", "math.Float32frombits", "math.Float32bits", "math.Float64bits", "math.Float64frombits", "math.archTrunc", "math.archFloor", "math.archCeil", "math.RoundToEven", "maps.clone"], unfollowed := true, recurses := true, apart := false }
def MarketFollowsSaid : Prop := marketFollowsRow.holds Tryz.pinned (OpenSpec.ofChange marketFollowsSpec)

/-- ITS FALSE NEIGHBOUR: 'it returns false'. Refute it at one input. -/
def marketFollowsWrong : ChangeSpec := { name := "marketFollows", fn := fun _ => fun
  | [d1, d2] => { results := [.lit (.bool false)], args := [d1, d2] }
  | _ => none }
def MarketFollowsWrongFalsely : Prop := marketFollowsRow.holds Tryz.pinned (OpenSpec.ofChange marketFollowsWrong)

/-- 'bazaarlaw24.MarketEnds': WHATEVER THE INPUT: true; the input reads as it did. -/
def marketEndsSpec : ChangeSpec := { name := "marketEnds", fn := fun _ => fun
  | [d1, d2, d3, d4] => { results := [.lit (.bool true)], args := [d1, d2, d3, d4] }
  | _ => none }
def marketEndsRow : OpenClaim := { program := "ytpldhemgcoimaaagreat", sum := "f31f08a662a6d1fd9b3509bb92f037f21dd016ad95e1fed7029f949c01b8b5b3", func := "bazaar/bazaarlaw24.MarketEnds", spec := "marketEnds", inPlace := ["math/bits.Add64", "math.Float32frombits", "math.Float32bits", "math.Float64bits", "math.Float64frombits", "math.archTrunc", "math.archFloor", "math.archCeil", "math.RoundToEven", "maps.clone"], unfollowed := true, recurses := true, apart := false }
def MarketEndsSaid : Prop := marketEndsRow.holds Tryz.pinned (OpenSpec.ofChange marketEndsSpec)

/-- ITS FALSE NEIGHBOUR: 'it returns false'. Refute it at one input. -/
def marketEndsWrong : ChangeSpec := { name := "marketEnds", fn := fun _ => fun
  | [d1, d2, d3, d4] => { results := [.lit (.bool false)], args := [d1, d2, d3, d4] }
  | _ => none }
def MarketEndsWrongFalsely : Prop := marketEndsRow.holds Tryz.pinned (OpenSpec.ofChange marketEndsWrong)

/-- 'bazaarlaw24.MarketOwn': WHATEVER THE INPUT: true; the input reads as it did. -/
def marketOwnSpec : ChangeSpec := { name := "marketOwn", fn := fun _ => fun
  | [d1, d2, d3, d4] => { results := [.lit (.bool true)], args := [d1, d2, d3, d4] }
  | _ => none }
def marketOwnRow : OpenClaim := { program := "ytpldhemgcoimaaagreat", sum := "f31f08a662a6d1fd9b3509bb92f037f21dd016ad95e1fed7029f949c01b8b5b3", func := "bazaar/bazaarlaw24.MarketOwn", spec := "marketOwn", inPlace := ["math/bits.Add64", "math.Float32frombits", "math.Float32bits", "math.Float64bits", "math.Float64frombits", "math.archTrunc", "math.archFloor", "math.archCeil", "math.RoundToEven"], unfollowed := true, recurses := true, apart := false }
def MarketOwnSaid : Prop := marketOwnRow.holds Tryz.pinned (OpenSpec.ofChange marketOwnSpec)

/-- ITS FALSE NEIGHBOUR: 'it returns false'. Refute it at one input. -/
def marketOwnWrong : ChangeSpec := { name := "marketOwn", fn := fun _ => fun
  | [d1, d2, d3, d4] => { results := [.lit (.bool false)], args := [d1, d2, d3, d4] }
  | _ => none }
def MarketOwnWrongFalsely : Prop := marketOwnRow.holds Tryz.pinned (OpenSpec.ofChange marketOwnWrong)

/- THE SECOND FORM. 'bulk': how many values and letters a reading holds, each counted each time it is reached (what is shared counts as often as it is met; a slice's spare places count too). A statement '..UptoSaid' is the law's where the arguments, and the package variables that the reading takes, are together of bulk at most 1048576: NARROWER than '..Said'. Prove '..Said' where nothing that the law and all that it calls make is longer than what came in: it says more and counts as full. Else prove '..UptoSaid'. A law counts once. -/
mutual
def uptoBulk {H : Type} : DataW H → Nat
  | .lit (.string bytes) => bytes.length + 1
  | .lit _ => 1
  | .nil => 1
  | .ptr d => uptoBulk d + 1
  | .slice elems spare => uptoBulkAll elems + uptoBulkAll spare + 1
  | .agg parts => uptoBulkAll parts + 1
  | .iface _ d => uptoBulk d + 1
  | .map entries => uptoBulkEntries entries + 1
  | .held _ => 1
def uptoBulkAll {H : Type} : List (DataW H) → Nat
  | [] => 0
  | d :: r => uptoBulk d + uptoBulkAll r
def uptoBulkEntries {H : Type} : List (Lit × DataW H) → Nat
  | [] => 0
  | x :: r => uptoBulkEntry x + uptoBulkEntries r
def uptoBulkEntry {H : Type} : Lit × DataW H → Nat
  | (.string bytes, d) => bytes.length + uptoBulk d + 1
  | (_, d) => uptoBulk d + 1
 end
def uptoSmall : (H : Type) → List (DataW H) → Bool := fun _ ds => decide (uptoBulkAll ds ≤ 1048576)
def OpenSpec.upto (s : _root_.Go.ChangeSpec) : _root_.Go.OpenSpec := { _root_.Go.OpenSpec.ofChange s with cond := some uptoSmall }

/-- 'bazaarlaw24.MarketActs', WHERE WHAT IT READS IS OF BULK AT MOST 1048576: true; the input reads as it did. -/
def marketActsUptoRow : OpenClaim := { program := "ytpldhemgcoimaaagreat", sum := "f31f08a662a6d1fd9b3509bb92f037f21dd016ad95e1fed7029f949c01b8b5b3", func := "bazaar/bazaarlaw24.MarketActs", spec := "marketActs", inPlace := ["math/bits.Add64", "math.Float32frombits", "math.Float32bits", "math.Float64bits", "math.Float64frombits", "math.archTrunc", "math.archFloor", "math.archCeil", "math.RoundToEven"], unfollowed := true, recurses := true, apart := false, narrowed := true }
def MarketActsUptoSaid : Prop := marketActsUptoRow.holds Tryz.pinned (OpenSpec.upto marketActsSpec)

/-- 'bazaarlaw24.MarketFollows', WHERE WHAT IT READS IS OF BULK AT MOST 1048576: true; the input reads as it did. -/
def marketFollowsUptoRow : OpenClaim := { program := "ytpldhemgcoimaaagreat", sum := "f31f08a662a6d1fd9b3509bb92f037f21dd016ad95e1fed7029f949c01b8b5b3", func := "bazaar/bazaarlaw24.MarketFollows", spec := "marketFollows", inPlace := ["math/bits.Add64", "math.Float32frombits", "math.Float32bits", "math.Float64bits", "math.Float64frombits", "math.archTrunc", "math.archFloor", "math.archCeil", "math.RoundToEven", "maps.clone"], unfollowed := true, recurses := true, apart := false, narrowed := true }
def MarketFollowsUptoSaid : Prop := marketFollowsUptoRow.holds Tryz.pinned (OpenSpec.upto marketFollowsSpec)

/-- 'bazaarlaw24.MarketEnds', WHERE WHAT IT READS IS OF BULK AT MOST 1048576: true; the input reads as it did. -/
def marketEndsUptoRow : OpenClaim := { program := "ytpldhemgcoimaaagreat", sum := "f31f08a662a6d1fd9b3509bb92f037f21dd016ad95e1fed7029f949c01b8b5b3", func := "bazaar/bazaarlaw24.MarketEnds", spec := "marketEnds", inPlace := ["math/bits.Add64", "math.Float32frombits", "math.Float32bits", "math.Float64bits", "math.Float64frombits", "math.archTrunc", "math.archFloor", "math.archCeil", "math.RoundToEven", "maps.clone"], unfollowed := true, recurses := true, apart := false, narrowed := true }
def MarketEndsUptoSaid : Prop := marketEndsUptoRow.holds Tryz.pinned (OpenSpec.upto marketEndsSpec)

/-- 'bazaarlaw24.MarketOwn', WHERE WHAT IT READS IS OF BULK AT MOST 1048576: true; the input reads as it did. -/
def marketOwnUptoRow : OpenClaim := { program := "ytpldhemgcoimaaagreat", sum := "f31f08a662a6d1fd9b3509bb92f037f21dd016ad95e1fed7029f949c01b8b5b3", func := "bazaar/bazaarlaw24.MarketOwn", spec := "marketOwn", inPlace := ["math/bits.Add64", "math.Float32frombits", "math.Float32bits", "math.Float64bits", "math.Float64frombits", "math.archTrunc", "math.archFloor", "math.archCeil", "math.RoundToEven"], unfollowed := true, recurses := true, apart := false, narrowed := true }
def MarketOwnUptoSaid : Prop := marketOwnUptoRow.holds Tryz.pinned (OpenSpec.upto marketOwnSpec)

end Rows
end Go.Proofs.YtpldhemgcoimaaaGreat
