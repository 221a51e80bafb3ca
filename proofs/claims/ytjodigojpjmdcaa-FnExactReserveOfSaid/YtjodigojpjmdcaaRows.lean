/-
  No cell of these rows narrows 'for every input' (looked for: loops, veiled, ifaces, maps, wideKeys, modest, calm, conditions, laid).
  DERIVED. THE GIVEN ROWS OF THIS SEAT. 5 by the template 'for every input the law returns true; each argument reads behind the call as it read before'; 0 by the template 'total and deterministic' (their statements: YtjodigojpjmdcaaTotals.lean).
  GIVEN WITH THE SEED: the statements are not yours to turn. If you find one false, say at which input.
  Laid BY PROGRAM, IN A SANDBOX (cutbox-rows.mjs): the forced cells as the released guide's own fill.sh prints them over the translation 60d709e4f028cfa5… (all of the seat's roots in one cut). By AI agents, Wed Nov 11 2026. No macro, syntax, notation, axiom, sorry.
-/
import Derived.Test.YtjodigojpjmdcaaChecked
import GoSem.Claim
import GoSem.ClaimJoined
import GoSem.ClaimMapViews
import Derived.JoinedTies
import Derived.KernelRfl
namespace Go.Proofs.Ytjodigojpjmdcaa
/- THE CELL 'sum', in the pinned program and in every row, IS THE sha256 OF THE DUMP (.gsa) THAT YtjodigojpjmdcaaProg.lean LOADS. Nothing in Lean hashes anything: it is a label: what it is worth is what the hold of that sum in a sandbox is worth. -/
noncomputable def Try.pinned : Pinned := { name := "ytjodigojpjmdcaa", sum := "60d709e4f028cfa53c35c54ad35c8cb6c5338370ceba2a959ab04c232f4bfbf8", checked := Try.checked }
namespace Rows
def none {H : Type} : Left H := { results := [], args := [] }

/-- 'laws.FnExactValidUnits': WHATEVER THE INPUT: true; the input reads as it did. -/
def fnExactValidUnitsSpec : ChangeSpec := { name := "fnExactValidUnits", fn := fun _ => fun
  | [d] => { results := [.lit (.bool true)], args := [d] }
  | _ => none }
def fnExactValidUnitsRow : OpenClaim := { program := "ytjodigojpjmdcaa", sum := "60d709e4f028cfa53c35c54ad35c8cb6c5338370ceba2a959ab04c232f4bfbf8", func := "loop.example/g01011/laws.FnExactValidUnits", spec := "fnExactValidUnits", apart := false }
def FnExactValidUnitsSaid : Prop := fnExactValidUnitsRow.holds Try.pinned (OpenSpec.ofChange fnExactValidUnitsSpec)

/-- ITS FALSE NEIGHBOUR: 'it returns false'. Refute it at one input. -/
def fnExactValidUnitsWrong : ChangeSpec := { name := "fnExactValidUnits", fn := fun _ => fun
  | [d] => { results := [.lit (.bool false)], args := [d] }
  | _ => none }
def FnExactValidUnitsWrongFalsely : Prop := fnExactValidUnitsRow.holds Try.pinned (OpenSpec.ofChange fnExactValidUnitsWrong)

/-- 'laws.FnExactReserveOf': WHATEVER THE INPUT: true; the input reads as it did. -/
def fnExactReserveOfSpec : ChangeSpec := { name := "fnExactReserveOf", fn := fun _ => fun
  | [d1, d2, d3] => { results := [.lit (.bool true)], args := [d1, d2, d3] }
  | _ => none }
def fnExactReserveOfRow : OpenClaim := { program := "ytjodigojpjmdcaa", sum := "60d709e4f028cfa53c35c54ad35c8cb6c5338370ceba2a959ab04c232f4bfbf8", func := "loop.example/g01011/laws.FnExactReserveOf", spec := "fnExactReserveOf", apart := false }
def FnExactReserveOfSaid : Prop := fnExactReserveOfRow.holds Try.pinned (OpenSpec.ofChange fnExactReserveOfSpec)

/-- ITS FALSE NEIGHBOUR: 'it returns false'. Refute it at one input. -/
def fnExactReserveOfWrong : ChangeSpec := { name := "fnExactReserveOf", fn := fun _ => fun
  | [d1, d2, d3] => { results := [.lit (.bool false)], args := [d1, d2, d3] }
  | _ => none }
def FnExactReserveOfWrongFalsely : Prop := fnExactReserveOfRow.holds Try.pinned (OpenSpec.ofChange fnExactReserveOfWrong)

/-- 'laws.FnExactCountBuildable': WHATEVER THE INPUT: true; the input reads as it did. -/
def fnExactCountBuildableSpec : ChangeSpec := { name := "fnExactCountBuildable", fn := fun _ => fun
  | [d1, d2, d3] => { results := [.lit (.bool true)], args := [d1, d2, d3] }
  | _ => none }
def fnExactCountBuildableRow : OpenClaim := { program := "ytjodigojpjmdcaa", sum := "60d709e4f028cfa53c35c54ad35c8cb6c5338370ceba2a959ab04c232f4bfbf8", func := "loop.example/g01011/laws.FnExactCountBuildable", spec := "fnExactCountBuildable", unfollowed := true, recurses := true, apart := false }
def FnExactCountBuildableSaid : Prop := fnExactCountBuildableRow.holds Try.pinned (OpenSpec.ofChange fnExactCountBuildableSpec)

/-- ITS FALSE NEIGHBOUR: 'it returns false'. Refute it at one input. -/
def fnExactCountBuildableWrong : ChangeSpec := { name := "fnExactCountBuildable", fn := fun _ => fun
  | [d1, d2, d3] => { results := [.lit (.bool false)], args := [d1, d2, d3] }
  | _ => none }
def FnExactCountBuildableWrongFalsely : Prop := fnExactCountBuildableRow.holds Try.pinned (OpenSpec.ofChange fnExactCountBuildableWrong)

/-- 'laws.FnExactShortestOrders': WHATEVER THE INPUT: true; the input reads as it did. -/
def fnExactShortestOrdersSpec : ChangeSpec := { name := "fnExactShortestOrders", fn := fun _ => fun
  | [d1, d2, d3] => { results := [.lit (.bool true)], args := [d1, d2, d3] }
  | _ => none }
def fnExactShortestOrdersRow : OpenClaim := { program := "ytjodigojpjmdcaa", sum := "60d709e4f028cfa53c35c54ad35c8cb6c5338370ceba2a959ab04c232f4bfbf8", func := "loop.example/g01011/laws.FnExactShortestOrders", spec := "fnExactShortestOrders", unfollowed := true, recurses := true, apart := false }
def FnExactShortestOrdersSaid : Prop := fnExactShortestOrdersRow.holds Try.pinned (OpenSpec.ofChange fnExactShortestOrdersSpec)

/-- ITS FALSE NEIGHBOUR: 'it returns false'. Refute it at one input. -/
def fnExactShortestOrdersWrong : ChangeSpec := { name := "fnExactShortestOrders", fn := fun _ => fun
  | [d1, d2, d3] => { results := [.lit (.bool false)], args := [d1, d2, d3] }
  | _ => none }
def FnExactShortestOrdersWrongFalsely : Prop := fnExactShortestOrdersRow.holds Try.pinned (OpenSpec.ofChange fnExactShortestOrdersWrong)

/-- 'laws.FnExactCheapestPumps': WHATEVER THE INPUT: true; the input reads as it did. -/
def fnExactCheapestPumpsSpec : ChangeSpec := { name := "fnExactCheapestPumps", fn := fun _ => fun
  | [d1, d2, d3, d4, d5] => { results := [.lit (.bool true)], args := [d1, d2, d3, d4, d5] }
  | _ => none }
def fnExactCheapestPumpsRow : OpenClaim := { program := "ytjodigojpjmdcaa", sum := "60d709e4f028cfa53c35c54ad35c8cb6c5338370ceba2a959ab04c232f4bfbf8", func := "loop.example/g01011/laws.FnExactCheapestPumps", spec := "fnExactCheapestPumps", recurses := true, apart := false }
def FnExactCheapestPumpsSaid : Prop := fnExactCheapestPumpsRow.holds Try.pinned (OpenSpec.ofChange fnExactCheapestPumpsSpec)

/-- ITS FALSE NEIGHBOUR: 'it returns false'. Refute it at one input. -/
def fnExactCheapestPumpsWrong : ChangeSpec := { name := "fnExactCheapestPumps", fn := fun _ => fun
  | [d1, d2, d3, d4, d5] => { results := [.lit (.bool false)], args := [d1, d2, d3, d4, d5] }
  | _ => none }
def FnExactCheapestPumpsWrongFalsely : Prop := fnExactCheapestPumpsRow.holds Try.pinned (OpenSpec.ofChange fnExactCheapestPumpsWrong)

/- THE SECOND FORM. 'bulk': how many values and letters a reading holds, each counted each time it is reached (what is shared counts as often as it is met; a slice's spare places count too). A statement '..UptoSaid' is the law's where the arguments, and the package variables that the reading takes, are together of bulk at most 1048576: NARROWER than '..Said'. Prove '..Said' where nothing that the law and all that it calls make is longer than what came in: it says more and counts as full. Else prove '..UptoSaid'. A law counts once. -/
mutual
def uptoBulk {H : Type} : DataW H → Nat
  | .lit (.string bytes) => bytes.length + 1
  | .lit _ => 1
  | .nil => 1
  | .ptr d => uptoBulk d + 1
  | .slice elems spare => uptoBulkAll elems + uptoBulkAll spare + 1
  | .agg parts => uptoBulkAll parts + 1
  | .iface _ d => uptoBulk d + 1
  | .map entries => uptoBulkEntries entries + 1
  | .held _ => 1
def uptoBulkAll {H : Type} : List (DataW H) → Nat
  | [] => 0
  | d :: r => uptoBulk d + uptoBulkAll r
def uptoBulkEntries {H : Type} : List (Lit × DataW H) → Nat
  | [] => 0
  | x :: r => uptoBulkEntry x + uptoBulkEntries r
def uptoBulkEntry {H : Type} : Lit × DataW H → Nat
  | (.string bytes, d) => bytes.length + uptoBulk d + 1
  | (_, d) => uptoBulk d + 1
 end
def uptoSmall : (H : Type) → List (DataW H) → Bool := fun _ ds => decide (uptoBulkAll ds ≤ 1048576)
def OpenSpec.upto (s : _root_.Go.ChangeSpec) : _root_.Go.OpenSpec := { _root_.Go.OpenSpec.ofChange s with cond := some uptoSmall }

/-- 'laws.FnExactValidUnits', WHERE WHAT IT READS IS OF BULK AT MOST 1048576: true; the input reads as it did. -/
def fnExactValidUnitsUptoRow : OpenClaim := { program := "ytjodigojpjmdcaa", sum := "60d709e4f028cfa53c35c54ad35c8cb6c5338370ceba2a959ab04c232f4bfbf8", func := "loop.example/g01011/laws.FnExactValidUnits", spec := "fnExactValidUnits", apart := false, narrowed := true }
def FnExactValidUnitsUptoSaid : Prop := fnExactValidUnitsUptoRow.holds Try.pinned (OpenSpec.upto fnExactValidUnitsSpec)

/-- 'laws.FnExactReserveOf', WHERE WHAT IT READS IS OF BULK AT MOST 1048576: true; the input reads as it did. -/
def fnExactReserveOfUptoRow : OpenClaim := { program := "ytjodigojpjmdcaa", sum := "60d709e4f028cfa53c35c54ad35c8cb6c5338370ceba2a959ab04c232f4bfbf8", func := "loop.example/g01011/laws.FnExactReserveOf", spec := "fnExactReserveOf", apart := false, narrowed := true }
def FnExactReserveOfUptoSaid : Prop := fnExactReserveOfUptoRow.holds Try.pinned (OpenSpec.upto fnExactReserveOfSpec)

/-- 'laws.FnExactCountBuildable', WHERE WHAT IT READS IS OF BULK AT MOST 1048576: true; the input reads as it did. -/
def fnExactCountBuildableUptoRow : OpenClaim := { program := "ytjodigojpjmdcaa", sum := "60d709e4f028cfa53c35c54ad35c8cb6c5338370ceba2a959ab04c232f4bfbf8", func := "loop.example/g01011/laws.FnExactCountBuildable", spec := "fnExactCountBuildable", unfollowed := true, recurses := true, apart := false, narrowed := true }
def FnExactCountBuildableUptoSaid : Prop := fnExactCountBuildableUptoRow.holds Try.pinned (OpenSpec.upto fnExactCountBuildableSpec)

/-- 'laws.FnExactShortestOrders', WHERE WHAT IT READS IS OF BULK AT MOST 1048576: true; the input reads as it did. -/
def fnExactShortestOrdersUptoRow : OpenClaim := { program := "ytjodigojpjmdcaa", sum := "60d709e4f028cfa53c35c54ad35c8cb6c5338370ceba2a959ab04c232f4bfbf8", func := "loop.example/g01011/laws.FnExactShortestOrders", spec := "fnExactShortestOrders", unfollowed := true, recurses := true, apart := false, narrowed := true }
def FnExactShortestOrdersUptoSaid : Prop := fnExactShortestOrdersUptoRow.holds Try.pinned (OpenSpec.upto fnExactShortestOrdersSpec)

/-- 'laws.FnExactCheapestPumps', WHERE WHAT IT READS IS OF BULK AT MOST 1048576: true; the input reads as it did. -/
def fnExactCheapestPumpsUptoRow : OpenClaim := { program := "ytjodigojpjmdcaa", sum := "60d709e4f028cfa53c35c54ad35c8cb6c5338370ceba2a959ab04c232f4bfbf8", func := "loop.example/g01011/laws.FnExactCheapestPumps", spec := "fnExactCheapestPumps", recurses := true, apart := false, narrowed := true }
def FnExactCheapestPumpsUptoSaid : Prop := fnExactCheapestPumpsUptoRow.holds Try.pinned (OpenSpec.upto fnExactCheapestPumpsSpec)

end Rows
end Go.Proofs.Ytjodigojpjmdcaa
