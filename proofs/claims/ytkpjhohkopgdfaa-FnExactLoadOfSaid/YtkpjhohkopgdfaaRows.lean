/-
  No cell of these rows narrows 'for every input' (looked for: loops, veiled, ifaces, maps, wideKeys, modest, calm, conditions, laid).
  DERIVED. THE GIVEN ROWS OF THIS SEAT. 12 by the template 'for every input the law returns true; each argument reads behind the call as it read before'; 0 by the template 'total and deterministic' (their statements: YtkpjhohkopgdfaaTotals.lean).
  GIVEN WITH THE SEED: the statements are not yours to turn. If you find one false, say at which input.
  Laid BY PROGRAM, IN A SANDBOX (cutbox-rows.mjs): the forced cells as the released guide's own fill.sh prints them over the translation a63b2c8baefd7d3d… (all of the seat's roots in one cut). By AI agents, Wed Nov 11 2026. No macro, syntax, notation, axiom, sorry.
-/
import Derived.Test.YtkpjhohkopgdfaaChecked
import GoSem.Claim
import GoSem.ClaimJoined
import GoSem.ClaimMapViews
import Derived.JoinedTies
import Derived.KernelRfl
namespace Go.Proofs.Ytkpjhohkopgdfaa
/- THE CELL 'sum', in the pinned program and in every row, IS THE sha256 OF THE DUMP (.gsa) THAT YtkpjhohkopgdfaaProg.lean LOADS. Nothing in Lean hashes anything: it is a label: what it is worth is what the hold of that sum in a sandbox is worth. -/
noncomputable def Try.pinned : Pinned := { name := "ytkpjhohkopgdfaa", sum := "a63b2c8baefd7d3da89e5c82151e67de99ecf0f4378271fd5a97a9504e826392", checked := Try.checked }
namespace Rows
def none {H : Type} : Left H := { results := [], args := [] }

/-- 'laws.FnExactBrokenRules': WHATEVER THE INPUT: true; the input reads as it did. -/
def fnExactBrokenRulesSpec : ChangeSpec := { name := "fnExactBrokenRules", fn := fun _ => fun
  | [d1, d2] => { results := [.lit (.bool true)], args := [d1, d2] }
  | _ => none }
def fnExactBrokenRulesRow : OpenClaim := { program := "ytkpjhohkopgdfaa", sum := "a63b2c8baefd7d3da89e5c82151e67de99ecf0f4378271fd5a97a9504e826392", func := "loop.example/g01011/laws.FnExactBrokenRules", spec := "fnExactBrokenRules", plainKeys := false, apart := false }
def FnExactBrokenRulesSaid : Prop := fnExactBrokenRulesRow.holds Try.pinned (OpenSpec.ofChange fnExactBrokenRulesSpec)

/-- ITS FALSE NEIGHBOUR: 'it returns false'. Refute it at one input. -/
def fnExactBrokenRulesWrong : ChangeSpec := { name := "fnExactBrokenRules", fn := fun _ => fun
  | [d1, d2] => { results := [.lit (.bool false)], args := [d1, d2] }
  | _ => none }
def FnExactBrokenRulesWrongFalsely : Prop := fnExactBrokenRulesRow.holds Try.pinned (OpenSpec.ofChange fnExactBrokenRulesWrong)

/-- 'laws.FnExactEmissionsOf': WHATEVER THE INPUT: true; the input reads as it did. -/
def fnExactEmissionsOfSpec : ChangeSpec := { name := "fnExactEmissionsOf", fn := fun _ => fun
  | [d1, d2] => { results := [.lit (.bool true)], args := [d1, d2] }
  | _ => none }
def fnExactEmissionsOfRow : OpenClaim := { program := "ytkpjhohkopgdfaa", sum := "a63b2c8baefd7d3da89e5c82151e67de99ecf0f4378271fd5a97a9504e826392", func := "loop.example/g01011/laws.FnExactEmissionsOf", spec := "fnExactEmissionsOf", plainKeys := false, apart := false }
def FnExactEmissionsOfSaid : Prop := fnExactEmissionsOfRow.holds Try.pinned (OpenSpec.ofChange fnExactEmissionsOfSpec)

/-- ITS FALSE NEIGHBOUR: 'it returns false'. Refute it at one input. -/
def fnExactEmissionsOfWrong : ChangeSpec := { name := "fnExactEmissionsOf", fn := fun _ => fun
  | [d1, d2] => { results := [.lit (.bool false)], args := [d1, d2] }
  | _ => none }
def FnExactEmissionsOfWrongFalsely : Prop := fnExactEmissionsOfRow.holds Try.pinned (OpenSpec.ofChange fnExactEmissionsOfWrong)

/-- 'laws.FnExactFuelCost': WHATEVER THE INPUT: true; the input reads as it did. -/
def fnExactFuelCostSpec : ChangeSpec := { name := "fnExactFuelCost", fn := fun _ => fun
  | [d1, d2] => { results := [.lit (.bool true)], args := [d1, d2] }
  | _ => none }
def fnExactFuelCostRow : OpenClaim := { program := "ytkpjhohkopgdfaa", sum := "a63b2c8baefd7d3da89e5c82151e67de99ecf0f4378271fd5a97a9504e826392", func := "loop.example/g01011/laws.FnExactFuelCost", spec := "fnExactFuelCost", plainKeys := false, apart := false }
def FnExactFuelCostSaid : Prop := fnExactFuelCostRow.holds Try.pinned (OpenSpec.ofChange fnExactFuelCostSpec)

/-- ITS FALSE NEIGHBOUR: 'it returns false'. Refute it at one input. -/
def fnExactFuelCostWrong : ChangeSpec := { name := "fnExactFuelCost", fn := fun _ => fun
  | [d1, d2] => { results := [.lit (.bool false)], args := [d1, d2] }
  | _ => none }
def FnExactFuelCostWrongFalsely : Prop := fnExactFuelCostRow.holds Try.pinned (OpenSpec.ofChange fnExactFuelCostWrong)

/-- 'laws.FnExactLoadOf': WHATEVER THE INPUT: true; the input reads as it did. -/
def fnExactLoadOfSpec : ChangeSpec := { name := "fnExactLoadOf", fn := fun _ => fun
  | [d1, d2, d3] => { results := [.lit (.bool true)], args := [d1, d2, d3] }
  | _ => none }
def fnExactLoadOfRow : OpenClaim := { program := "ytkpjhohkopgdfaa", sum := "a63b2c8baefd7d3da89e5c82151e67de99ecf0f4378271fd5a97a9504e826392", func := "loop.example/g01011/laws.FnExactLoadOf", spec := "fnExactLoadOf", unfollowed := true, recurses := true, plainKeys := false, apart := false }
def FnExactLoadOfSaid : Prop := fnExactLoadOfRow.holds Try.pinned (OpenSpec.ofChange fnExactLoadOfSpec)

/-- ITS FALSE NEIGHBOUR: 'it returns false'. Refute it at one input. -/
def fnExactLoadOfWrong : ChangeSpec := { name := "fnExactLoadOf", fn := fun _ => fun
  | [d1, d2, d3] => { results := [.lit (.bool false)], args := [d1, d2, d3] }
  | _ => none }
def FnExactLoadOfWrongFalsely : Prop := fnExactLoadOfRow.holds Try.pinned (OpenSpec.ofChange fnExactLoadOfWrong)

/-- 'laws.FnExactEstimateAt': WHATEVER THE INPUT: true; the input reads as it did. -/
def fnExactEstimateAtSpec : ChangeSpec := { name := "fnExactEstimateAt", fn := fun _ => fun
  | [d1, d2] => { results := [.lit (.bool true)], args := [d1, d2] }
  | _ => none }
def fnExactEstimateAtRow : OpenClaim := { program := "ytkpjhohkopgdfaa", sum := "a63b2c8baefd7d3da89e5c82151e67de99ecf0f4378271fd5a97a9504e826392", func := "loop.example/g01011/laws.FnExactEstimateAt", spec := "fnExactEstimateAt", unfollowed := true, recurses := true, plainKeys := false, apart := false }
def FnExactEstimateAtSaid : Prop := fnExactEstimateAtRow.holds Try.pinned (OpenSpec.ofChange fnExactEstimateAtSpec)

/-- ITS FALSE NEIGHBOUR: 'it returns false'. Refute it at one input. -/
def fnExactEstimateAtWrong : ChangeSpec := { name := "fnExactEstimateAt", fn := fun _ => fun
  | [d1, d2] => { results := [.lit (.bool false)], args := [d1, d2] }
  | _ => none }
def FnExactEstimateAtWrongFalsely : Prop := fnExactEstimateAtRow.holds Try.pinned (OpenSpec.ofChange fnExactEstimateAtWrong)

/-- 'laws.FnExactMissingHours': WHATEVER THE INPUT: true; the input reads as it did. -/
def fnExactMissingHoursSpec : ChangeSpec := { name := "fnExactMissingHours", fn := fun _ => fun
  | [d1, d2] => { results := [.lit (.bool true)], args := [d1, d2] }
  | _ => none }
def fnExactMissingHoursRow : OpenClaim := { program := "ytkpjhohkopgdfaa", sum := "a63b2c8baefd7d3da89e5c82151e67de99ecf0f4378271fd5a97a9504e826392", func := "loop.example/g01011/laws.FnExactMissingHours", spec := "fnExactMissingHours", unfollowed := true, recurses := true, plainKeys := false, apart := false }
def FnExactMissingHoursSaid : Prop := fnExactMissingHoursRow.holds Try.pinned (OpenSpec.ofChange fnExactMissingHoursSpec)

/-- ITS FALSE NEIGHBOUR: 'it returns false'. Refute it at one input. -/
def fnExactMissingHoursWrong : ChangeSpec := { name := "fnExactMissingHours", fn := fun _ => fun
  | [d1, d2] => { results := [.lit (.bool false)], args := [d1, d2] }
  | _ => none }
def FnExactMissingHoursWrongFalsely : Prop := fnExactMissingHoursRow.holds Try.pinned (OpenSpec.ofChange fnExactMissingHoursWrong)

/-- 'laws.FnExactForecastError': WHATEVER THE INPUT: true; the input reads as it did. -/
def fnExactForecastErrorSpec : ChangeSpec := { name := "fnExactForecastError", fn := fun _ => fun
  | [d1, d2] => { results := [.lit (.bool true)], args := [d1, d2] }
  | _ => none }
def fnExactForecastErrorRow : OpenClaim := { program := "ytkpjhohkopgdfaa", sum := "a63b2c8baefd7d3da89e5c82151e67de99ecf0f4378271fd5a97a9504e826392", func := "loop.example/g01011/laws.FnExactForecastError", spec := "fnExactForecastError", unfollowed := true, recurses := true, plainKeys := false, apart := false }
def FnExactForecastErrorSaid : Prop := fnExactForecastErrorRow.holds Try.pinned (OpenSpec.ofChange fnExactForecastErrorSpec)

/-- ITS FALSE NEIGHBOUR: 'it returns false'. Refute it at one input. -/
def fnExactForecastErrorWrong : ChangeSpec := { name := "fnExactForecastError", fn := fun _ => fun
  | [d1, d2] => { results := [.lit (.bool false)], args := [d1, d2] }
  | _ => none }
def FnExactForecastErrorWrongFalsely : Prop := fnExactForecastErrorRow.holds Try.pinned (OpenSpec.ofChange fnExactForecastErrorWrong)

/-- 'laws.FnExactLeastRest': WHATEVER THE INPUT: true; the input reads as it did. -/
def fnExactLeastRestSpec : ChangeSpec := { name := "fnExactLeastRest", fn := fun _ => fun
  | [d1, d2] => { results := [.lit (.bool true)], args := [d1, d2] }
  | _ => none }
def fnExactLeastRestRow : OpenClaim := { program := "ytkpjhohkopgdfaa", sum := "a63b2c8baefd7d3da89e5c82151e67de99ecf0f4378271fd5a97a9504e826392", func := "loop.example/g01011/laws.FnExactLeastRest", spec := "fnExactLeastRest", plainKeys := false, apart := false }
def FnExactLeastRestSaid : Prop := fnExactLeastRestRow.holds Try.pinned (OpenSpec.ofChange fnExactLeastRestSpec)

/-- ITS FALSE NEIGHBOUR: 'it returns false'. Refute it at one input. -/
def fnExactLeastRestWrong : ChangeSpec := { name := "fnExactLeastRest", fn := fun _ => fun
  | [d1, d2] => { results := [.lit (.bool false)], args := [d1, d2] }
  | _ => none }
def FnExactLeastRestWrongFalsely : Prop := fnExactLeastRestRow.holds Try.pinned (OpenSpec.ofChange fnExactLeastRestWrong)

/-- 'laws.FnExactOnCallAt': WHATEVER THE INPUT: true; the input reads as it did. -/
def fnExactOnCallAtSpec : ChangeSpec := { name := "fnExactOnCallAt", fn := fun _ => fun
  | [d1, d2] => { results := [.lit (.bool true)], args := [d1, d2] }
  | _ => none }
def fnExactOnCallAtRow : OpenClaim := { program := "ytkpjhohkopgdfaa", sum := "a63b2c8baefd7d3da89e5c82151e67de99ecf0f4378271fd5a97a9504e826392", func := "loop.example/g01011/laws.FnExactOnCallAt", spec := "fnExactOnCallAt", plainKeys := false, apart := false }
def FnExactOnCallAtSaid : Prop := fnExactOnCallAtRow.holds Try.pinned (OpenSpec.ofChange fnExactOnCallAtSpec)

/-- ITS FALSE NEIGHBOUR: 'it returns false'. Refute it at one input. -/
def fnExactOnCallAtWrong : ChangeSpec := { name := "fnExactOnCallAt", fn := fun _ => fun
  | [d1, d2] => { results := [.lit (.bool false)], args := [d1, d2] }
  | _ => none }
def FnExactOnCallAtWrongFalsely : Prop := fnExactOnCallAtRow.holds Try.pinned (OpenSpec.ofChange fnExactOnCallAtWrong)

/-- 'laws.FnExactCountReached': WHATEVER THE INPUT: true; the input reads as it did. -/
def fnExactCountReachedSpec : ChangeSpec := { name := "fnExactCountReached", fn := fun _ => fun
  | [d1, d2] => { results := [.lit (.bool true)], args := [d1, d2] }
  | _ => none }
def fnExactCountReachedRow : OpenClaim := { program := "ytkpjhohkopgdfaa", sum := "a63b2c8baefd7d3da89e5c82151e67de99ecf0f4378271fd5a97a9504e826392", func := "loop.example/g01011/laws.FnExactCountReached", spec := "fnExactCountReached", unfollowed := true, recurses := true, plainKeys := false, apart := false }
def FnExactCountReachedSaid : Prop := fnExactCountReachedRow.holds Try.pinned (OpenSpec.ofChange fnExactCountReachedSpec)

/-- ITS FALSE NEIGHBOUR: 'it returns false'. Refute it at one input. -/
def fnExactCountReachedWrong : ChangeSpec := { name := "fnExactCountReached", fn := fun _ => fun
  | [d1, d2] => { results := [.lit (.bool false)], args := [d1, d2] }
  | _ => none }
def FnExactCountReachedWrongFalsely : Prop := fnExactCountReachedRow.holds Try.pinned (OpenSpec.ofChange fnExactCountReachedWrong)

/-- 'laws.FnExactCountMixes': WHATEVER THE INPUT: true; the input reads as it did. -/
def fnExactCountMixesSpec : ChangeSpec := { name := "fnExactCountMixes", fn := fun _ => fun
  | [d1, d2, d3] => { results := [.lit (.bool true)], args := [d1, d2, d3] }
  | _ => none }
def fnExactCountMixesRow : OpenClaim := { program := "ytkpjhohkopgdfaa", sum := "a63b2c8baefd7d3da89e5c82151e67de99ecf0f4378271fd5a97a9504e826392", func := "loop.example/g01011/laws.FnExactCountMixes", spec := "fnExactCountMixes", recurses := true, plainKeys := false, apart := false }
def FnExactCountMixesSaid : Prop := fnExactCountMixesRow.holds Try.pinned (OpenSpec.ofChange fnExactCountMixesSpec)

/-- ITS FALSE NEIGHBOUR: 'it returns false'. Refute it at one input. -/
def fnExactCountMixesWrong : ChangeSpec := { name := "fnExactCountMixes", fn := fun _ => fun
  | [d1, d2, d3] => { results := [.lit (.bool false)], args := [d1, d2, d3] }
  | _ => none }
def FnExactCountMixesWrongFalsely : Prop := fnExactCountMixesRow.holds Try.pinned (OpenSpec.ofChange fnExactCountMixesWrong)

/-- 'laws.FnExactReserveOf': WHATEVER THE INPUT: true; the input reads as it did. -/
def fnExactReserveOfSpec : ChangeSpec := { name := "fnExactReserveOf", fn := fun _ => fun
  | [d1, d2, d3] => { results := [.lit (.bool true)], args := [d1, d2, d3] }
  | _ => none }
def fnExactReserveOfRow : OpenClaim := { program := "ytkpjhohkopgdfaa", sum := "a63b2c8baefd7d3da89e5c82151e67de99ecf0f4378271fd5a97a9504e826392", func := "loop.example/g01011/laws.FnExactReserveOf", spec := "fnExactReserveOf", plainKeys := false, apart := false }
def FnExactReserveOfSaid : Prop := fnExactReserveOfRow.holds Try.pinned (OpenSpec.ofChange fnExactReserveOfSpec)

/-- ITS FALSE NEIGHBOUR: 'it returns false'. Refute it at one input. -/
def fnExactReserveOfWrong : ChangeSpec := { name := "fnExactReserveOf", fn := fun _ => fun
  | [d1, d2, d3] => { results := [.lit (.bool false)], args := [d1, d2, d3] }
  | _ => none }
def FnExactReserveOfWrongFalsely : Prop := fnExactReserveOfRow.holds Try.pinned (OpenSpec.ofChange fnExactReserveOfWrong)

/- THE SECOND FORM. 'bulk': how many values and letters a reading holds, each counted each time it is reached (what is shared counts as often as it is met; a slice's spare places count too). A statement '..UptoSaid' is the law's where the arguments, and the package variables that the reading takes, are together of bulk at most 1048576: NARROWER than '..Said'. Prove '..Said' where nothing that the law and all that it calls make is longer than what came in: it says more and counts as full. Else prove '..UptoSaid'. A law counts once. -/
mutual
def uptoBulk {H : Type} : DataW H → Nat
  | .lit (.string bytes) => bytes.length + 1
  | .lit _ => 1
  | .nil => 1
  | .ptr d => uptoBulk d + 1
  | .slice elems spare => uptoBulkAll elems + uptoBulkAll spare + 1
  | .agg parts => uptoBulkAll parts + 1
  | .iface _ d => uptoBulk d + 1
  | .map entries => uptoBulkEntries entries + 1
  | .held _ => 1
def uptoBulkAll {H : Type} : List (DataW H) → Nat
  | [] => 0
  | d :: r => uptoBulk d + uptoBulkAll r
def uptoBulkEntries {H : Type} : List (Lit × DataW H) → Nat
  | [] => 0
  | x :: r => uptoBulkEntry x + uptoBulkEntries r
def uptoBulkEntry {H : Type} : Lit × DataW H → Nat
  | (.string bytes, d) => bytes.length + uptoBulk d + 1
  | (_, d) => uptoBulk d + 1
 end
def uptoSmall : (H : Type) → List (DataW H) → Bool := fun _ ds => decide (uptoBulkAll ds ≤ 1048576)
def OpenSpec.upto (s : _root_.Go.ChangeSpec) : _root_.Go.OpenSpec := { _root_.Go.OpenSpec.ofChange s with cond := some uptoSmall }

/-- 'laws.FnExactBrokenRules', WHERE WHAT IT READS IS OF BULK AT MOST 1048576: true; the input reads as it did. -/
def fnExactBrokenRulesUptoRow : OpenClaim := { program := "ytkpjhohkopgdfaa", sum := "a63b2c8baefd7d3da89e5c82151e67de99ecf0f4378271fd5a97a9504e826392", func := "loop.example/g01011/laws.FnExactBrokenRules", spec := "fnExactBrokenRules", plainKeys := false, apart := false, narrowed := true }
def FnExactBrokenRulesUptoSaid : Prop := fnExactBrokenRulesUptoRow.holds Try.pinned (OpenSpec.upto fnExactBrokenRulesSpec)

/-- 'laws.FnExactEmissionsOf', WHERE WHAT IT READS IS OF BULK AT MOST 1048576: true; the input reads as it did. -/
def fnExactEmissionsOfUptoRow : OpenClaim := { program := "ytkpjhohkopgdfaa", sum := "a63b2c8baefd7d3da89e5c82151e67de99ecf0f4378271fd5a97a9504e826392", func := "loop.example/g01011/laws.FnExactEmissionsOf", spec := "fnExactEmissionsOf", plainKeys := false, apart := false, narrowed := true }
def FnExactEmissionsOfUptoSaid : Prop := fnExactEmissionsOfUptoRow.holds Try.pinned (OpenSpec.upto fnExactEmissionsOfSpec)

/-- 'laws.FnExactFuelCost', WHERE WHAT IT READS IS OF BULK AT MOST 1048576: true; the input reads as it did. -/
def fnExactFuelCostUptoRow : OpenClaim := { program := "ytkpjhohkopgdfaa", sum := "a63b2c8baefd7d3da89e5c82151e67de99ecf0f4378271fd5a97a9504e826392", func := "loop.example/g01011/laws.FnExactFuelCost", spec := "fnExactFuelCost", plainKeys := false, apart := false, narrowed := true }
def FnExactFuelCostUptoSaid : Prop := fnExactFuelCostUptoRow.holds Try.pinned (OpenSpec.upto fnExactFuelCostSpec)

/-- 'laws.FnExactLoadOf', WHERE WHAT IT READS IS OF BULK AT MOST 1048576: true; the input reads as it did. -/
def fnExactLoadOfUptoRow : OpenClaim := { program := "ytkpjhohkopgdfaa", sum := "a63b2c8baefd7d3da89e5c82151e67de99ecf0f4378271fd5a97a9504e826392", func := "loop.example/g01011/laws.FnExactLoadOf", spec := "fnExactLoadOf", unfollowed := true, recurses := true, plainKeys := false, apart := false, narrowed := true }
def FnExactLoadOfUptoSaid : Prop := fnExactLoadOfUptoRow.holds Try.pinned (OpenSpec.upto fnExactLoadOfSpec)

/-- 'laws.FnExactEstimateAt', WHERE WHAT IT READS IS OF BULK AT MOST 1048576: true; the input reads as it did. -/
def fnExactEstimateAtUptoRow : OpenClaim := { program := "ytkpjhohkopgdfaa", sum := "a63b2c8baefd7d3da89e5c82151e67de99ecf0f4378271fd5a97a9504e826392", func := "loop.example/g01011/laws.FnExactEstimateAt", spec := "fnExactEstimateAt", unfollowed := true, recurses := true, plainKeys := false, apart := false, narrowed := true }
def FnExactEstimateAtUptoSaid : Prop := fnExactEstimateAtUptoRow.holds Try.pinned (OpenSpec.upto fnExactEstimateAtSpec)

/-- 'laws.FnExactMissingHours', WHERE WHAT IT READS IS OF BULK AT MOST 1048576: true; the input reads as it did. -/
def fnExactMissingHoursUptoRow : OpenClaim := { program := "ytkpjhohkopgdfaa", sum := "a63b2c8baefd7d3da89e5c82151e67de99ecf0f4378271fd5a97a9504e826392", func := "loop.example/g01011/laws.FnExactMissingHours", spec := "fnExactMissingHours", unfollowed := true, recurses := true, plainKeys := false, apart := false, narrowed := true }
def FnExactMissingHoursUptoSaid : Prop := fnExactMissingHoursUptoRow.holds Try.pinned (OpenSpec.upto fnExactMissingHoursSpec)

/-- 'laws.FnExactForecastError', WHERE WHAT IT READS IS OF BULK AT MOST 1048576: true; the input reads as it did. -/
def fnExactForecastErrorUptoRow : OpenClaim := { program := "ytkpjhohkopgdfaa", sum := "a63b2c8baefd7d3da89e5c82151e67de99ecf0f4378271fd5a97a9504e826392", func := "loop.example/g01011/laws.FnExactForecastError", spec := "fnExactForecastError", unfollowed := true, recurses := true, plainKeys := false, apart := false, narrowed := true }
def FnExactForecastErrorUptoSaid : Prop := fnExactForecastErrorUptoRow.holds Try.pinned (OpenSpec.upto fnExactForecastErrorSpec)

/-- 'laws.FnExactLeastRest', WHERE WHAT IT READS IS OF BULK AT MOST 1048576: true; the input reads as it did. -/
def fnExactLeastRestUptoRow : OpenClaim := { program := "ytkpjhohkopgdfaa", sum := "a63b2c8baefd7d3da89e5c82151e67de99ecf0f4378271fd5a97a9504e826392", func := "loop.example/g01011/laws.FnExactLeastRest", spec := "fnExactLeastRest", plainKeys := false, apart := false, narrowed := true }
def FnExactLeastRestUptoSaid : Prop := fnExactLeastRestUptoRow.holds Try.pinned (OpenSpec.upto fnExactLeastRestSpec)

/-- 'laws.FnExactOnCallAt', WHERE WHAT IT READS IS OF BULK AT MOST 1048576: true; the input reads as it did. -/
def fnExactOnCallAtUptoRow : OpenClaim := { program := "ytkpjhohkopgdfaa", sum := "a63b2c8baefd7d3da89e5c82151e67de99ecf0f4378271fd5a97a9504e826392", func := "loop.example/g01011/laws.FnExactOnCallAt", spec := "fnExactOnCallAt", plainKeys := false, apart := false, narrowed := true }
def FnExactOnCallAtUptoSaid : Prop := fnExactOnCallAtUptoRow.holds Try.pinned (OpenSpec.upto fnExactOnCallAtSpec)

/-- 'laws.FnExactCountReached', WHERE WHAT IT READS IS OF BULK AT MOST 1048576: true; the input reads as it did. -/
def fnExactCountReachedUptoRow : OpenClaim := { program := "ytkpjhohkopgdfaa", sum := "a63b2c8baefd7d3da89e5c82151e67de99ecf0f4378271fd5a97a9504e826392", func := "loop.example/g01011/laws.FnExactCountReached", spec := "fnExactCountReached", unfollowed := true, recurses := true, plainKeys := false, apart := false, narrowed := true }
def FnExactCountReachedUptoSaid : Prop := fnExactCountReachedUptoRow.holds Try.pinned (OpenSpec.upto fnExactCountReachedSpec)

/-- 'laws.FnExactCountMixes', WHERE WHAT IT READS IS OF BULK AT MOST 1048576: true; the input reads as it did. -/
def fnExactCountMixesUptoRow : OpenClaim := { program := "ytkpjhohkopgdfaa", sum := "a63b2c8baefd7d3da89e5c82151e67de99ecf0f4378271fd5a97a9504e826392", func := "loop.example/g01011/laws.FnExactCountMixes", spec := "fnExactCountMixes", recurses := true, plainKeys := false, apart := false, narrowed := true }
def FnExactCountMixesUptoSaid : Prop := fnExactCountMixesUptoRow.holds Try.pinned (OpenSpec.upto fnExactCountMixesSpec)

/-- 'laws.FnExactReserveOf', WHERE WHAT IT READS IS OF BULK AT MOST 1048576: true; the input reads as it did. -/
def fnExactReserveOfUptoRow : OpenClaim := { program := "ytkpjhohkopgdfaa", sum := "a63b2c8baefd7d3da89e5c82151e67de99ecf0f4378271fd5a97a9504e826392", func := "loop.example/g01011/laws.FnExactReserveOf", spec := "fnExactReserveOf", plainKeys := false, apart := false, narrowed := true }
def FnExactReserveOfUptoSaid : Prop := fnExactReserveOfUptoRow.holds Try.pinned (OpenSpec.upto fnExactReserveOfSpec)

end Rows
end Go.Proofs.Ytkpjhohkopgdfaa
