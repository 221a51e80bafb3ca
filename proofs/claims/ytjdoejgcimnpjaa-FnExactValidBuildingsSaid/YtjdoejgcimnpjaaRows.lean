/-
  No cell of these rows narrows 'for every input' (looked for: loops, veiled, ifaces, maps, wideKeys, modest, calm, conditions, laid).
  DERIVED. THE GIVEN ROWS OF THIS SEAT. 11 by the template 'for every input the law returns true; each argument reads behind the call as it read before'; 0 by the template 'total and deterministic' (their statements: YtjdoejgcimnpjaaTotals.lean).
  GIVEN WITH THE SEED: the statements are not yours to turn. If you find one false, say at which input.
  Laid BY PROGRAM, IN A SANDBOX (cutbox-rows.mjs): the forced cells as the released guide's own fill.sh prints them over the translation 3f496bbeb1b52c0f… (all of the seat's roots in one cut). By AI agents, Wed Nov 11 2026. No macro, syntax, notation, axiom, sorry.
-/
import Derived.Test.YtjdoejgcimnpjaaChecked
import GoSem.Claim
import GoSem.ClaimJoined
import GoSem.ClaimMapViews
import Derived.JoinedTies
import Derived.KernelRfl
namespace Go.Proofs.Ytjdoejgcimnpjaa
/- THE CELL 'sum', in the pinned program and in every row, IS THE sha256 OF THE DUMP (.gsa) THAT YtjdoejgcimnpjaaProg.lean LOADS. Nothing in Lean hashes anything: it is a label: what it is worth is what the hold of that sum in a sandbox is worth. -/
noncomputable def Try.pinned : Pinned := { name := "ytjdoejgcimnpjaa", sum := "3f496bbeb1b52c0f293b7b2ca014df007e93556f5c6967b5f5ba374f5313f24f", checked := Try.checked }
namespace Rows
def none {H : Type} : Left H := { results := [], args := [] }

/-- 'laws.FnExactValidUnits': WHATEVER THE INPUT: true; the input reads as it did. -/
def fnExactValidUnitsSpec : ChangeSpec := { name := "fnExactValidUnits", fn := fun _ => fun
  | [d] => { results := [.lit (.bool true)], args := [d] }
  | _ => none }
def fnExactValidUnitsRow : OpenClaim := { program := "ytjdoejgcimnpjaa", sum := "3f496bbeb1b52c0f293b7b2ca014df007e93556f5c6967b5f5ba374f5313f24f", func := "loop.example/g01011/laws.FnExactValidUnits", spec := "fnExactValidUnits", apart := false }
def FnExactValidUnitsSaid : Prop := fnExactValidUnitsRow.holds Try.pinned (OpenSpec.ofChange fnExactValidUnitsSpec)

/-- ITS FALSE NEIGHBOUR: 'it returns false'. Refute it at one input. -/
def fnExactValidUnitsWrong : ChangeSpec := { name := "fnExactValidUnits", fn := fun _ => fun
  | [d] => { results := [.lit (.bool false)], args := [d] }
  | _ => none }
def FnExactValidUnitsWrongFalsely : Prop := fnExactValidUnitsRow.holds Try.pinned (OpenSpec.ofChange fnExactValidUnitsWrong)

/-- 'laws.FnExactCountAllowed': WHATEVER THE INPUT: true; the input reads as it did. -/
def fnExactCountAllowedSpec : ChangeSpec := { name := "fnExactCountAllowed", fn := fun _ => fun
  | [d1, d2] => { results := [.lit (.bool true)], args := [d1, d2] }
  | _ => none }
def fnExactCountAllowedRow : OpenClaim := { program := "ytjdoejgcimnpjaa", sum := "3f496bbeb1b52c0f293b7b2ca014df007e93556f5c6967b5f5ba374f5313f24f", func := "loop.example/g01011/laws.FnExactCountAllowed", spec := "fnExactCountAllowed", unfollowed := true, recurses := true, apart := false }
def FnExactCountAllowedSaid : Prop := fnExactCountAllowedRow.holds Try.pinned (OpenSpec.ofChange fnExactCountAllowedSpec)

/-- ITS FALSE NEIGHBOUR: 'it returns false'. Refute it at one input. -/
def fnExactCountAllowedWrong : ChangeSpec := { name := "fnExactCountAllowed", fn := fun _ => fun
  | [d1, d2] => { results := [.lit (.bool false)], args := [d1, d2] }
  | _ => none }
def FnExactCountAllowedWrongFalsely : Prop := fnExactCountAllowedRow.holds Try.pinned (OpenSpec.ofChange fnExactCountAllowedWrong)

/-- 'laws.FnExactPowersOf': WHATEVER THE INPUT: true; the input reads as it did. -/
def fnExactPowersOfSpec : ChangeSpec := { name := "fnExactPowersOf", fn := fun _ => fun
  | [d] => { results := [.lit (.bool true)], args := [d] }
  | _ => none }
def fnExactPowersOfRow : OpenClaim := { program := "ytjdoejgcimnpjaa", sum := "3f496bbeb1b52c0f293b7b2ca014df007e93556f5c6967b5f5ba374f5313f24f", func := "loop.example/g01011/laws.FnExactPowersOf", spec := "fnExactPowersOf", apart := false }
def FnExactPowersOfSaid : Prop := fnExactPowersOfRow.holds Try.pinned (OpenSpec.ofChange fnExactPowersOfSpec)

/-- ITS FALSE NEIGHBOUR: 'it returns false'. Refute it at one input. -/
def fnExactPowersOfWrong : ChangeSpec := { name := "fnExactPowersOf", fn := fun _ => fun
  | [d] => { results := [.lit (.bool false)], args := [d] }
  | _ => none }
def FnExactPowersOfWrongFalsely : Prop := fnExactPowersOfRow.holds Try.pinned (OpenSpec.ofChange fnExactPowersOfWrong)

/-- 'laws.FnExactValidDuties': WHATEVER THE INPUT: true; the input reads as it did. -/
def fnExactValidDutiesSpec : ChangeSpec := { name := "fnExactValidDuties", fn := fun _ => fun
  | [d] => { results := [.lit (.bool true)], args := [d] }
  | _ => none }
def fnExactValidDutiesRow : OpenClaim := { program := "ytjdoejgcimnpjaa", sum := "3f496bbeb1b52c0f293b7b2ca014df007e93556f5c6967b5f5ba374f5313f24f", func := "loop.example/g01011/laws.FnExactValidDuties", spec := "fnExactValidDuties", apart := false }
def FnExactValidDutiesSaid : Prop := fnExactValidDutiesRow.holds Try.pinned (OpenSpec.ofChange fnExactValidDutiesSpec)

/-- ITS FALSE NEIGHBOUR: 'it returns false'. Refute it at one input. -/
def fnExactValidDutiesWrong : ChangeSpec := { name := "fnExactValidDuties", fn := fun _ => fun
  | [d] => { results := [.lit (.bool false)], args := [d] }
  | _ => none }
def FnExactValidDutiesWrongFalsely : Prop := fnExactValidDutiesRow.holds Try.pinned (OpenSpec.ofChange fnExactValidDutiesWrong)

/-- 'laws.FnExactSameHistory': WHATEVER THE INPUT: true; the input reads as it did. -/
def fnExactSameHistorySpec : ChangeSpec := { name := "fnExactSameHistory", fn := fun _ => fun
  | [d1, d2] => { results := [.lit (.bool true)], args := [d1, d2] }
  | _ => none }
def fnExactSameHistoryRow : OpenClaim := { program := "ytjdoejgcimnpjaa", sum := "3f496bbeb1b52c0f293b7b2ca014df007e93556f5c6967b5f5ba374f5313f24f", func := "loop.example/g01011/laws.FnExactSameHistory", spec := "fnExactSameHistory", unfollowed := true, recurses := true, apart := false }
def FnExactSameHistorySaid : Prop := fnExactSameHistoryRow.holds Try.pinned (OpenSpec.ofChange fnExactSameHistorySpec)

/-- ITS FALSE NEIGHBOUR: 'it returns false'. Refute it at one input. -/
def fnExactSameHistoryWrong : ChangeSpec := { name := "fnExactSameHistory", fn := fun _ => fun
  | [d1, d2] => { results := [.lit (.bool false)], args := [d1, d2] }
  | _ => none }
def FnExactSameHistoryWrongFalsely : Prop := fnExactSameHistoryRow.holds Try.pinned (OpenSpec.ofChange fnExactSameHistoryWrong)

/-- 'laws.FnExactLeakBounds': WHATEVER THE INPUT: true; the input reads as it did. -/
def fnExactLeakBoundsSpec : ChangeSpec := { name := "fnExactLeakBounds", fn := fun _ => fun
  | [d1, d2] => { results := [.lit (.bool true)], args := [d1, d2] }
  | _ => none }
def fnExactLeakBoundsRow : OpenClaim := { program := "ytjdoejgcimnpjaa", sum := "3f496bbeb1b52c0f293b7b2ca014df007e93556f5c6967b5f5ba374f5313f24f", func := "loop.example/g01011/laws.FnExactLeakBounds", spec := "fnExactLeakBounds", apart := false }
def FnExactLeakBoundsSaid : Prop := fnExactLeakBoundsRow.holds Try.pinned (OpenSpec.ofChange fnExactLeakBoundsSpec)

/-- ITS FALSE NEIGHBOUR: 'it returns false'. Refute it at one input. -/
def fnExactLeakBoundsWrong : ChangeSpec := { name := "fnExactLeakBounds", fn := fun _ => fun
  | [d1, d2] => { results := [.lit (.bool false)], args := [d1, d2] }
  | _ => none }
def FnExactLeakBoundsWrongFalsely : Prop := fnExactLeakBoundsRow.holds Try.pinned (OpenSpec.ofChange fnExactLeakBoundsWrong)

/-- 'laws.FnExactIsLeaking': WHATEVER THE INPUT: true; the input reads as it did. -/
def fnExactIsLeakingSpec : ChangeSpec := { name := "fnExactIsLeaking", fn := fun _ => fun
  | [d1, d2] => { results := [.lit (.bool true)], args := [d1, d2] }
  | _ => none }
def fnExactIsLeakingRow : OpenClaim := { program := "ytjdoejgcimnpjaa", sum := "3f496bbeb1b52c0f293b7b2ca014df007e93556f5c6967b5f5ba374f5313f24f", func := "loop.example/g01011/laws.FnExactIsLeaking", spec := "fnExactIsLeaking", apart := false }
def FnExactIsLeakingSaid : Prop := fnExactIsLeakingRow.holds Try.pinned (OpenSpec.ofChange fnExactIsLeakingSpec)

/-- ITS FALSE NEIGHBOUR: 'it returns false'. Refute it at one input. -/
def fnExactIsLeakingWrong : ChangeSpec := { name := "fnExactIsLeaking", fn := fun _ => fun
  | [d1, d2] => { results := [.lit (.bool false)], args := [d1, d2] }
  | _ => none }
def FnExactIsLeakingWrongFalsely : Prop := fnExactIsLeakingRow.holds Try.pinned (OpenSpec.ofChange fnExactIsLeakingWrong)

/-- 'laws.FnExactOddReadings': WHATEVER THE INPUT: true; the input reads as it did. -/
def fnExactOddReadingsSpec : ChangeSpec := { name := "fnExactOddReadings", fn := fun _ => fun
  | [d1, d2] => { results := [.lit (.bool true)], args := [d1, d2] }
  | _ => none }
def fnExactOddReadingsRow : OpenClaim := { program := "ytjdoejgcimnpjaa", sum := "3f496bbeb1b52c0f293b7b2ca014df007e93556f5c6967b5f5ba374f5313f24f", func := "loop.example/g01011/laws.FnExactOddReadings", spec := "fnExactOddReadings", apart := false }
def FnExactOddReadingsSaid : Prop := fnExactOddReadingsRow.holds Try.pinned (OpenSpec.ofChange fnExactOddReadingsSpec)

/-- ITS FALSE NEIGHBOUR: 'it returns false'. Refute it at one input. -/
def fnExactOddReadingsWrong : ChangeSpec := { name := "fnExactOddReadings", fn := fun _ => fun
  | [d1, d2] => { results := [.lit (.bool false)], args := [d1, d2] }
  | _ => none }
def FnExactOddReadingsWrongFalsely : Prop := fnExactOddReadingsRow.holds Try.pinned (OpenSpec.ofChange fnExactOddReadingsWrong)

/-- 'laws.FnExactBalanceOf': WHATEVER THE INPUT: true; the input reads as it did. -/
def fnExactBalanceOfSpec : ChangeSpec := { name := "fnExactBalanceOf", fn := fun _ => fun
  | [d1, d2, d3] => { results := [.lit (.bool true)], args := [d1, d2, d3] }
  | _ => none }
def fnExactBalanceOfRow : OpenClaim := { program := "ytjdoejgcimnpjaa", sum := "3f496bbeb1b52c0f293b7b2ca014df007e93556f5c6967b5f5ba374f5313f24f", func := "loop.example/g01011/laws.FnExactBalanceOf", spec := "fnExactBalanceOf", unfollowed := true, recurses := true, apart := false }
def FnExactBalanceOfSaid : Prop := fnExactBalanceOfRow.holds Try.pinned (OpenSpec.ofChange fnExactBalanceOfSpec)

/-- ITS FALSE NEIGHBOUR: 'it returns false'. Refute it at one input. -/
def fnExactBalanceOfWrong : ChangeSpec := { name := "fnExactBalanceOf", fn := fun _ => fun
  | [d1, d2, d3] => { results := [.lit (.bool false)], args := [d1, d2, d3] }
  | _ => none }
def FnExactBalanceOfWrongFalsely : Prop := fnExactBalanceOfRow.holds Try.pinned (OpenSpec.ofChange fnExactBalanceOfWrong)

/-- 'laws.FnExactValidBuildings': WHATEVER THE INPUT: true; the input reads as it did. -/
def fnExactValidBuildingsSpec : ChangeSpec := { name := "fnExactValidBuildings", fn := fun _ => fun
  | [d] => { results := [.lit (.bool true)], args := [d] }
  | _ => none }
def fnExactValidBuildingsRow : OpenClaim := { program := "ytjdoejgcimnpjaa", sum := "3f496bbeb1b52c0f293b7b2ca014df007e93556f5c6967b5f5ba374f5313f24f", func := "loop.example/g01011/laws.FnExactValidBuildings", spec := "fnExactValidBuildings", unfollowed := true, recurses := true, apart := false }
def FnExactValidBuildingsSaid : Prop := fnExactValidBuildingsRow.holds Try.pinned (OpenSpec.ofChange fnExactValidBuildingsSpec)

/-- ITS FALSE NEIGHBOUR: 'it returns false'. Refute it at one input. -/
def fnExactValidBuildingsWrong : ChangeSpec := { name := "fnExactValidBuildings", fn := fun _ => fun
  | [d] => { results := [.lit (.bool false)], args := [d] }
  | _ => none }
def FnExactValidBuildingsWrongFalsely : Prop := fnExactValidBuildingsRow.holds Try.pinned (OpenSpec.ofChange fnExactValidBuildingsWrong)

/-- 'laws.FnExactWorkedHours': WHATEVER THE INPUT: true; the input reads as it did. -/
def fnExactWorkedHoursSpec : ChangeSpec := { name := "fnExactWorkedHours", fn := fun _ => fun
  | [d1, d2] => { results := [.lit (.bool true)], args := [d1, d2] }
  | _ => none }
def fnExactWorkedHoursRow : OpenClaim := { program := "ytjdoejgcimnpjaa", sum := "3f496bbeb1b52c0f293b7b2ca014df007e93556f5c6967b5f5ba374f5313f24f", func := "loop.example/g01011/laws.FnExactWorkedHours", spec := "fnExactWorkedHours", apart := false }
def FnExactWorkedHoursSaid : Prop := fnExactWorkedHoursRow.holds Try.pinned (OpenSpec.ofChange fnExactWorkedHoursSpec)

/-- ITS FALSE NEIGHBOUR: 'it returns false'. Refute it at one input. -/
def fnExactWorkedHoursWrong : ChangeSpec := { name := "fnExactWorkedHours", fn := fun _ => fun
  | [d1, d2] => { results := [.lit (.bool false)], args := [d1, d2] }
  | _ => none }
def FnExactWorkedHoursWrongFalsely : Prop := fnExactWorkedHoursRow.holds Try.pinned (OpenSpec.ofChange fnExactWorkedHoursWrong)

/- THE SECOND FORM. 'bulk': how many values and letters a reading holds, each counted each time it is reached (what is shared counts as often as it is met; a slice's spare places count too). A statement '..UptoSaid' is the law's where the arguments, and the package variables that the reading takes, are together of bulk at most 1048576: NARROWER than '..Said'. Prove '..Said' where nothing that the law and all that it calls make is longer than what came in: it says more and counts as full. Else prove '..UptoSaid'. A law counts once. -/
mutual
def uptoBulk {H : Type} : DataW H → Nat
  | .lit (.string bytes) => bytes.length + 1
  | .lit _ => 1
  | .nil => 1
  | .ptr d => uptoBulk d + 1
  | .slice elems spare => uptoBulkAll elems + uptoBulkAll spare + 1
  | .agg parts => uptoBulkAll parts + 1
  | .iface _ d => uptoBulk d + 1
  | .map entries => uptoBulkEntries entries + 1
  | .held _ => 1
def uptoBulkAll {H : Type} : List (DataW H) → Nat
  | [] => 0
  | d :: r => uptoBulk d + uptoBulkAll r
def uptoBulkEntries {H : Type} : List (Lit × DataW H) → Nat
  | [] => 0
  | x :: r => uptoBulkEntry x + uptoBulkEntries r
def uptoBulkEntry {H : Type} : Lit × DataW H → Nat
  | (.string bytes, d) => bytes.length + uptoBulk d + 1
  | (_, d) => uptoBulk d + 1
 end
def uptoSmall : (H : Type) → List (DataW H) → Bool := fun _ ds => decide (uptoBulkAll ds ≤ 1048576)
def OpenSpec.upto (s : _root_.Go.ChangeSpec) : _root_.Go.OpenSpec := { _root_.Go.OpenSpec.ofChange s with cond := some uptoSmall }

/-- 'laws.FnExactValidUnits', WHERE WHAT IT READS IS OF BULK AT MOST 1048576: true; the input reads as it did. -/
def fnExactValidUnitsUptoRow : OpenClaim := { program := "ytjdoejgcimnpjaa", sum := "3f496bbeb1b52c0f293b7b2ca014df007e93556f5c6967b5f5ba374f5313f24f", func := "loop.example/g01011/laws.FnExactValidUnits", spec := "fnExactValidUnits", apart := false, narrowed := true }
def FnExactValidUnitsUptoSaid : Prop := fnExactValidUnitsUptoRow.holds Try.pinned (OpenSpec.upto fnExactValidUnitsSpec)

/-- 'laws.FnExactCountAllowed', WHERE WHAT IT READS IS OF BULK AT MOST 1048576: true; the input reads as it did. -/
def fnExactCountAllowedUptoRow : OpenClaim := { program := "ytjdoejgcimnpjaa", sum := "3f496bbeb1b52c0f293b7b2ca014df007e93556f5c6967b5f5ba374f5313f24f", func := "loop.example/g01011/laws.FnExactCountAllowed", spec := "fnExactCountAllowed", unfollowed := true, recurses := true, apart := false, narrowed := true }
def FnExactCountAllowedUptoSaid : Prop := fnExactCountAllowedUptoRow.holds Try.pinned (OpenSpec.upto fnExactCountAllowedSpec)

/-- 'laws.FnExactPowersOf', WHERE WHAT IT READS IS OF BULK AT MOST 1048576: true; the input reads as it did. -/
def fnExactPowersOfUptoRow : OpenClaim := { program := "ytjdoejgcimnpjaa", sum := "3f496bbeb1b52c0f293b7b2ca014df007e93556f5c6967b5f5ba374f5313f24f", func := "loop.example/g01011/laws.FnExactPowersOf", spec := "fnExactPowersOf", apart := false, narrowed := true }
def FnExactPowersOfUptoSaid : Prop := fnExactPowersOfUptoRow.holds Try.pinned (OpenSpec.upto fnExactPowersOfSpec)

/-- 'laws.FnExactValidDuties', WHERE WHAT IT READS IS OF BULK AT MOST 1048576: true; the input reads as it did. -/
def fnExactValidDutiesUptoRow : OpenClaim := { program := "ytjdoejgcimnpjaa", sum := "3f496bbeb1b52c0f293b7b2ca014df007e93556f5c6967b5f5ba374f5313f24f", func := "loop.example/g01011/laws.FnExactValidDuties", spec := "fnExactValidDuties", apart := false, narrowed := true }
def FnExactValidDutiesUptoSaid : Prop := fnExactValidDutiesUptoRow.holds Try.pinned (OpenSpec.upto fnExactValidDutiesSpec)

/-- 'laws.FnExactSameHistory', WHERE WHAT IT READS IS OF BULK AT MOST 1048576: true; the input reads as it did. -/
def fnExactSameHistoryUptoRow : OpenClaim := { program := "ytjdoejgcimnpjaa", sum := "3f496bbeb1b52c0f293b7b2ca014df007e93556f5c6967b5f5ba374f5313f24f", func := "loop.example/g01011/laws.FnExactSameHistory", spec := "fnExactSameHistory", unfollowed := true, recurses := true, apart := false, narrowed := true }
def FnExactSameHistoryUptoSaid : Prop := fnExactSameHistoryUptoRow.holds Try.pinned (OpenSpec.upto fnExactSameHistorySpec)

/-- 'laws.FnExactLeakBounds', WHERE WHAT IT READS IS OF BULK AT MOST 1048576: true; the input reads as it did. -/
def fnExactLeakBoundsUptoRow : OpenClaim := { program := "ytjdoejgcimnpjaa", sum := "3f496bbeb1b52c0f293b7b2ca014df007e93556f5c6967b5f5ba374f5313f24f", func := "loop.example/g01011/laws.FnExactLeakBounds", spec := "fnExactLeakBounds", apart := false, narrowed := true }
def FnExactLeakBoundsUptoSaid : Prop := fnExactLeakBoundsUptoRow.holds Try.pinned (OpenSpec.upto fnExactLeakBoundsSpec)

/-- 'laws.FnExactIsLeaking', WHERE WHAT IT READS IS OF BULK AT MOST 1048576: true; the input reads as it did. -/
def fnExactIsLeakingUptoRow : OpenClaim := { program := "ytjdoejgcimnpjaa", sum := "3f496bbeb1b52c0f293b7b2ca014df007e93556f5c6967b5f5ba374f5313f24f", func := "loop.example/g01011/laws.FnExactIsLeaking", spec := "fnExactIsLeaking", apart := false, narrowed := true }
def FnExactIsLeakingUptoSaid : Prop := fnExactIsLeakingUptoRow.holds Try.pinned (OpenSpec.upto fnExactIsLeakingSpec)

/-- 'laws.FnExactOddReadings', WHERE WHAT IT READS IS OF BULK AT MOST 1048576: true; the input reads as it did. -/
def fnExactOddReadingsUptoRow : OpenClaim := { program := "ytjdoejgcimnpjaa", sum := "3f496bbeb1b52c0f293b7b2ca014df007e93556f5c6967b5f5ba374f5313f24f", func := "loop.example/g01011/laws.FnExactOddReadings", spec := "fnExactOddReadings", apart := false, narrowed := true }
def FnExactOddReadingsUptoSaid : Prop := fnExactOddReadingsUptoRow.holds Try.pinned (OpenSpec.upto fnExactOddReadingsSpec)

/-- 'laws.FnExactBalanceOf', WHERE WHAT IT READS IS OF BULK AT MOST 1048576: true; the input reads as it did. -/
def fnExactBalanceOfUptoRow : OpenClaim := { program := "ytjdoejgcimnpjaa", sum := "3f496bbeb1b52c0f293b7b2ca014df007e93556f5c6967b5f5ba374f5313f24f", func := "loop.example/g01011/laws.FnExactBalanceOf", spec := "fnExactBalanceOf", unfollowed := true, recurses := true, apart := false, narrowed := true }
def FnExactBalanceOfUptoSaid : Prop := fnExactBalanceOfUptoRow.holds Try.pinned (OpenSpec.upto fnExactBalanceOfSpec)

/-- 'laws.FnExactValidBuildings', WHERE WHAT IT READS IS OF BULK AT MOST 1048576: true; the input reads as it did. -/
def fnExactValidBuildingsUptoRow : OpenClaim := { program := "ytjdoejgcimnpjaa", sum := "3f496bbeb1b52c0f293b7b2ca014df007e93556f5c6967b5f5ba374f5313f24f", func := "loop.example/g01011/laws.FnExactValidBuildings", spec := "fnExactValidBuildings", unfollowed := true, recurses := true, apart := false, narrowed := true }
def FnExactValidBuildingsUptoSaid : Prop := fnExactValidBuildingsUptoRow.holds Try.pinned (OpenSpec.upto fnExactValidBuildingsSpec)

/-- 'laws.FnExactWorkedHours', WHERE WHAT IT READS IS OF BULK AT MOST 1048576: true; the input reads as it did. -/
def fnExactWorkedHoursUptoRow : OpenClaim := { program := "ytjdoejgcimnpjaa", sum := "3f496bbeb1b52c0f293b7b2ca014df007e93556f5c6967b5f5ba374f5313f24f", func := "loop.example/g01011/laws.FnExactWorkedHours", spec := "fnExactWorkedHours", apart := false, narrowed := true }
def FnExactWorkedHoursUptoSaid : Prop := fnExactWorkedHoursUptoRow.holds Try.pinned (OpenSpec.upto fnExactWorkedHoursSpec)

end Rows
end Go.Proofs.Ytjdoejgcimnpjaa
