/-
  No cell of these rows narrows 'for every input' (looked for: loops, veiled, ifaces, maps, wideKeys, modest, calm, conditions, laid).
  DERIVED. THE GIVEN ROWS OF THIS SEAT. 12 by the template 'for every input the law returns true; each argument reads behind the call as it read before'; 0 by the template 'total and deterministic' (their statements: YtnmehknpphoolaaTotals.lean).
  GIVEN WITH THE SEED: the statements are not yours to turn. If you find one false, say at which input.
  Laid BY PROGRAM, IN A SANDBOX (cutbox-rows.mjs): the forced cells as the released guide's own fill.sh prints them over the translation b73e7a32f21c9a34… (all of the seat's roots in one cut). By AI agents, Wed Nov 11 2026. No macro, syntax, notation, axiom, sorry.
-/
import Derived.Test.YtnmehknpphoolaaChecked
import GoSem.Claim
import GoSem.ClaimJoined
import GoSem.ClaimMapViews
import Derived.JoinedTies
import Derived.KernelRfl
namespace Go.Proofs.Ytnmehknpphoolaa
/- THE CELL 'sum', in the pinned program and in every row, IS THE sha256 OF THE DUMP (.gsa) THAT YtnmehknpphoolaaProg.lean LOADS. Nothing in Lean hashes anything: it is a label: what it is worth is what the hold of that sum in a sandbox is worth. -/
noncomputable def Try.pinned : Pinned := { name := "ytnmehknpphoolaa", sum := "b73e7a32f21c9a34a2865fe5d9765b8638266ef77d80d6384043c9ddbaad6915", checked := Try.checked }
namespace Rows
def none {H : Type} : Left H := { results := [], args := [] }

/-- 'laws.FnExactUsedBetween': WHATEVER THE INPUT: true; the input reads as it did. -/
def fnExactUsedBetweenSpec : ChangeSpec := { name := "fnExactUsedBetween", fn := fun _ => fun
  | [d1, d2, d3] => { results := [.lit (.bool true)], args := [d1, d2, d3] }
  | _ => none }
def fnExactUsedBetweenRow : OpenClaim := { program := "ytnmehknpphoolaa", sum := "b73e7a32f21c9a34a2865fe5d9765b8638266ef77d80d6384043c9ddbaad6915", func := "loop.example/g01011/laws.FnExactUsedBetween", spec := "fnExactUsedBetween", unfollowed := true, recurses := true, apart := false }
def FnExactUsedBetweenSaid : Prop := fnExactUsedBetweenRow.holds Try.pinned (OpenSpec.ofChange fnExactUsedBetweenSpec)

/-- ITS FALSE NEIGHBOUR: 'it returns false'. Refute it at one input. -/
def fnExactUsedBetweenWrong : ChangeSpec := { name := "fnExactUsedBetween", fn := fun _ => fun
  | [d1, d2, d3] => { results := [.lit (.bool false)], args := [d1, d2, d3] }
  | _ => none }
def FnExactUsedBetweenWrongFalsely : Prop := fnExactUsedBetweenRow.holds Try.pinned (OpenSpec.ofChange fnExactUsedBetweenWrong)

/-- 'laws.FnExactNextOrders': WHATEVER THE INPUT: true; the input reads as it did. -/
def fnExactNextOrdersSpec : ChangeSpec := { name := "fnExactNextOrders", fn := fun _ => fun
  | [d1, d2] => { results := [.lit (.bool true)], args := [d1, d2] }
  | _ => none }
def fnExactNextOrdersRow : OpenClaim := { program := "ytnmehknpphoolaa", sum := "b73e7a32f21c9a34a2865fe5d9765b8638266ef77d80d6384043c9ddbaad6915", func := "loop.example/g01011/laws.FnExactNextOrders", spec := "fnExactNextOrders", unfollowed := true, recurses := true, apart := false }
def FnExactNextOrdersSaid : Prop := fnExactNextOrdersRow.holds Try.pinned (OpenSpec.ofChange fnExactNextOrdersSpec)

/-- ITS FALSE NEIGHBOUR: 'it returns false'. Refute it at one input. -/
def fnExactNextOrdersWrong : ChangeSpec := { name := "fnExactNextOrders", fn := fun _ => fun
  | [d1, d2] => { results := [.lit (.bool false)], args := [d1, d2] }
  | _ => none }
def FnExactNextOrdersWrongFalsely : Prop := fnExactNextOrdersRow.holds Try.pinned (OpenSpec.ofChange fnExactNextOrdersWrong)

/-- 'laws.FnExactRunOrders': WHATEVER THE INPUT: true; the input reads as it did. -/
def fnExactRunOrdersSpec : ChangeSpec := { name := "fnExactRunOrders", fn := fun _ => fun
  | [d1, d2, d3] => { results := [.lit (.bool true)], args := [d1, d2, d3] }
  | _ => none }
def fnExactRunOrdersRow : OpenClaim := { program := "ytnmehknpphoolaa", sum := "b73e7a32f21c9a34a2865fe5d9765b8638266ef77d80d6384043c9ddbaad6915", func := "loop.example/g01011/laws.FnExactRunOrders", spec := "fnExactRunOrders", unfollowed := true, recurses := true, apart := false }
def FnExactRunOrdersSaid : Prop := fnExactRunOrdersRow.holds Try.pinned (OpenSpec.ofChange fnExactRunOrdersSpec)

/-- ITS FALSE NEIGHBOUR: 'it returns false'. Refute it at one input. -/
def fnExactRunOrdersWrong : ChangeSpec := { name := "fnExactRunOrders", fn := fun _ => fun
  | [d1, d2, d3] => { results := [.lit (.bool false)], args := [d1, d2, d3] }
  | _ => none }
def FnExactRunOrdersWrongFalsely : Prop := fnExactRunOrdersRow.holds Try.pinned (OpenSpec.ofChange fnExactRunOrdersWrong)

/-- 'laws.FnExactSameHistory': WHATEVER THE INPUT: true; the input reads as it did. -/
def fnExactSameHistorySpec : ChangeSpec := { name := "fnExactSameHistory", fn := fun _ => fun
  | [d1, d2] => { results := [.lit (.bool true)], args := [d1, d2] }
  | _ => none }
def fnExactSameHistoryRow : OpenClaim := { program := "ytnmehknpphoolaa", sum := "b73e7a32f21c9a34a2865fe5d9765b8638266ef77d80d6384043c9ddbaad6915", func := "loop.example/g01011/laws.FnExactSameHistory", spec := "fnExactSameHistory", unfollowed := true, recurses := true, apart := false }
def FnExactSameHistorySaid : Prop := fnExactSameHistoryRow.holds Try.pinned (OpenSpec.ofChange fnExactSameHistorySpec)

/-- ITS FALSE NEIGHBOUR: 'it returns false'. Refute it at one input. -/
def fnExactSameHistoryWrong : ChangeSpec := { name := "fnExactSameHistory", fn := fun _ => fun
  | [d1, d2] => { results := [.lit (.bool false)], args := [d1, d2] }
  | _ => none }
def FnExactSameHistoryWrongFalsely : Prop := fnExactSameHistoryRow.holds Try.pinned (OpenSpec.ofChange fnExactSameHistoryWrong)

/-- 'laws.FnExactIsBuildable': WHATEVER THE INPUT: true; the input reads as it did. -/
def fnExactIsBuildableSpec : ChangeSpec := { name := "fnExactIsBuildable", fn := fun _ => fun
  | [d1, d2] => { results := [.lit (.bool true)], args := [d1, d2] }
  | _ => none }
def fnExactIsBuildableRow : OpenClaim := { program := "ytnmehknpphoolaa", sum := "b73e7a32f21c9a34a2865fe5d9765b8638266ef77d80d6384043c9ddbaad6915", func := "loop.example/g01011/laws.FnExactIsBuildable", spec := "fnExactIsBuildable", unfollowed := true, recurses := true, apart := false }
def FnExactIsBuildableSaid : Prop := fnExactIsBuildableRow.holds Try.pinned (OpenSpec.ofChange fnExactIsBuildableSpec)

/-- ITS FALSE NEIGHBOUR: 'it returns false'. Refute it at one input. -/
def fnExactIsBuildableWrong : ChangeSpec := { name := "fnExactIsBuildable", fn := fun _ => fun
  | [d1, d2] => { results := [.lit (.bool false)], args := [d1, d2] }
  | _ => none }
def FnExactIsBuildableWrongFalsely : Prop := fnExactIsBuildableRow.holds Try.pinned (OpenSpec.ofChange fnExactIsBuildableWrong)

/-- 'laws.FnExactStageCost': WHATEVER THE INPUT: true; the input reads as it did. -/
def fnExactStageCostSpec : ChangeSpec := { name := "fnExactStageCost", fn := fun _ => fun
  | [d1, d2] => { results := [.lit (.bool true)], args := [d1, d2] }
  | _ => none }
def fnExactStageCostRow : OpenClaim := { program := "ytnmehknpphoolaa", sum := "b73e7a32f21c9a34a2865fe5d9765b8638266ef77d80d6384043c9ddbaad6915", func := "loop.example/g01011/laws.FnExactStageCost", spec := "fnExactStageCost", unfollowed := true, recurses := true, apart := false }
def FnExactStageCostSaid : Prop := fnExactStageCostRow.holds Try.pinned (OpenSpec.ofChange fnExactStageCostSpec)

/-- ITS FALSE NEIGHBOUR: 'it returns false'. Refute it at one input. -/
def fnExactStageCostWrong : ChangeSpec := { name := "fnExactStageCost", fn := fun _ => fun
  | [d1, d2] => { results := [.lit (.bool false)], args := [d1, d2] }
  | _ => none }
def FnExactStageCostWrongFalsely : Prop := fnExactStageCostRow.holds Try.pinned (OpenSpec.ofChange fnExactStageCostWrong)

/-- 'laws.FnExactReadyStages': WHATEVER THE INPUT: true; the input reads as it did. -/
def fnExactReadyStagesSpec : ChangeSpec := { name := "fnExactReadyStages", fn := fun _ => fun
  | [d1, d2] => { results := [.lit (.bool true)], args := [d1, d2] }
  | _ => none }
def fnExactReadyStagesRow : OpenClaim := { program := "ytnmehknpphoolaa", sum := "b73e7a32f21c9a34a2865fe5d9765b8638266ef77d80d6384043c9ddbaad6915", func := "loop.example/g01011/laws.FnExactReadyStages", spec := "fnExactReadyStages", unfollowed := true, recurses := true, apart := false }
def FnExactReadyStagesSaid : Prop := fnExactReadyStagesRow.holds Try.pinned (OpenSpec.ofChange fnExactReadyStagesSpec)

/-- ITS FALSE NEIGHBOUR: 'it returns false'. Refute it at one input. -/
def fnExactReadyStagesWrong : ChangeSpec := { name := "fnExactReadyStages", fn := fun _ => fun
  | [d1, d2] => { results := [.lit (.bool false)], args := [d1, d2] }
  | _ => none }
def FnExactReadyStagesWrongFalsely : Prop := fnExactReadyStagesRow.holds Try.pinned (OpenSpec.ofChange fnExactReadyStagesWrong)

/-- 'laws.FnExactBuildOrder': WHATEVER THE INPUT: true; the input reads as it did. -/
def fnExactBuildOrderSpec : ChangeSpec := { name := "fnExactBuildOrder", fn := fun _ => fun
  | [d1, d2] => { results := [.lit (.bool true)], args := [d1, d2] }
  | _ => none }
def fnExactBuildOrderRow : OpenClaim := { program := "ytnmehknpphoolaa", sum := "b73e7a32f21c9a34a2865fe5d9765b8638266ef77d80d6384043c9ddbaad6915", func := "loop.example/g01011/laws.FnExactBuildOrder", spec := "fnExactBuildOrder", unfollowed := true, recurses := true, apart := false }
def FnExactBuildOrderSaid : Prop := fnExactBuildOrderRow.holds Try.pinned (OpenSpec.ofChange fnExactBuildOrderSpec)

/-- ITS FALSE NEIGHBOUR: 'it returns false'. Refute it at one input. -/
def fnExactBuildOrderWrong : ChangeSpec := { name := "fnExactBuildOrder", fn := fun _ => fun
  | [d1, d2] => { results := [.lit (.bool false)], args := [d1, d2] }
  | _ => none }
def FnExactBuildOrderWrongFalsely : Prop := fnExactBuildOrderRow.holds Try.pinned (OpenSpec.ofChange fnExactBuildOrderWrong)

/-- 'laws.FnExactYearsOf': WHATEVER THE INPUT: true; the input reads as it did. -/
def fnExactYearsOfSpec : ChangeSpec := { name := "fnExactYearsOf", fn := fun _ => fun
  | [d1, d2, d3] => { results := [.lit (.bool true)], args := [d1, d2, d3] }
  | _ => none }
def fnExactYearsOfRow : OpenClaim := { program := "ytnmehknpphoolaa", sum := "b73e7a32f21c9a34a2865fe5d9765b8638266ef77d80d6384043c9ddbaad6915", func := "loop.example/g01011/laws.FnExactYearsOf", spec := "fnExactYearsOf", unfollowed := true, recurses := true, apart := false }
def FnExactYearsOfSaid : Prop := fnExactYearsOfRow.holds Try.pinned (OpenSpec.ofChange fnExactYearsOfSpec)

/-- ITS FALSE NEIGHBOUR: 'it returns false'. Refute it at one input. -/
def fnExactYearsOfWrong : ChangeSpec := { name := "fnExactYearsOf", fn := fun _ => fun
  | [d1, d2, d3] => { results := [.lit (.bool false)], args := [d1, d2, d3] }
  | _ => none }
def FnExactYearsOfWrongFalsely : Prop := fnExactYearsOfRow.holds Try.pinned (OpenSpec.ofChange fnExactYearsOfWrong)

/-- 'laws.FnExactPayBackYear': WHATEVER THE INPUT: true; the input reads as it did. -/
def fnExactPayBackYearSpec : ChangeSpec := { name := "fnExactPayBackYear", fn := fun _ => fun
  | [d1, d2, d3] => { results := [.lit (.bool true)], args := [d1, d2, d3] }
  | _ => none }
def fnExactPayBackYearRow : OpenClaim := { program := "ytnmehknpphoolaa", sum := "b73e7a32f21c9a34a2865fe5d9765b8638266ef77d80d6384043c9ddbaad6915", func := "loop.example/g01011/laws.FnExactPayBackYear", spec := "fnExactPayBackYear", unfollowed := true, recurses := true, apart := false }
def FnExactPayBackYearSaid : Prop := fnExactPayBackYearRow.holds Try.pinned (OpenSpec.ofChange fnExactPayBackYearSpec)

/-- ITS FALSE NEIGHBOUR: 'it returns false'. Refute it at one input. -/
def fnExactPayBackYearWrong : ChangeSpec := { name := "fnExactPayBackYear", fn := fun _ => fun
  | [d1, d2, d3] => { results := [.lit (.bool false)], args := [d1, d2, d3] }
  | _ => none }
def FnExactPayBackYearWrongFalsely : Prop := fnExactPayBackYearRow.holds Try.pinned (OpenSpec.ofChange fnExactPayBackYearWrong)

/-- 'laws.FnExactCountReached': WHATEVER THE INPUT: true; the input reads as it did. -/
def fnExactCountReachedSpec : ChangeSpec := { name := "fnExactCountReached", fn := fun _ => fun
  | [d1, d2] => { results := [.lit (.bool true)], args := [d1, d2] }
  | _ => none }
def fnExactCountReachedRow : OpenClaim := { program := "ytnmehknpphoolaa", sum := "b73e7a32f21c9a34a2865fe5d9765b8638266ef77d80d6384043c9ddbaad6915", func := "loop.example/g01011/laws.FnExactCountReached", spec := "fnExactCountReached", unfollowed := true, recurses := true, apart := false }
def FnExactCountReachedSaid : Prop := fnExactCountReachedRow.holds Try.pinned (OpenSpec.ofChange fnExactCountReachedSpec)

/-- ITS FALSE NEIGHBOUR: 'it returns false'. Refute it at one input. -/
def fnExactCountReachedWrong : ChangeSpec := { name := "fnExactCountReached", fn := fun _ => fun
  | [d1, d2] => { results := [.lit (.bool false)], args := [d1, d2] }
  | _ => none }
def FnExactCountReachedWrongFalsely : Prop := fnExactCountReachedRow.holds Try.pinned (OpenSpec.ofChange fnExactCountReachedWrong)

/-- 'laws.FnExactFairTurns': WHATEVER THE INPUT: true; the input reads as it did. -/
def fnExactFairTurnsSpec : ChangeSpec := { name := "fnExactFairTurns", fn := fun _ => fun
  | [d1, d2, d3, d4, d5] => { results := [.lit (.bool true)], args := [d1, d2, d3, d4, d5] }
  | _ => none }
def fnExactFairTurnsRow : OpenClaim := { program := "ytnmehknpphoolaa", sum := "b73e7a32f21c9a34a2865fe5d9765b8638266ef77d80d6384043c9ddbaad6915", func := "loop.example/g01011/laws.FnExactFairTurns", spec := "fnExactFairTurns", unfollowed := true, recurses := true, apart := false }
def FnExactFairTurnsSaid : Prop := fnExactFairTurnsRow.holds Try.pinned (OpenSpec.ofChange fnExactFairTurnsSpec)

/-- ITS FALSE NEIGHBOUR: 'it returns false'. Refute it at one input. -/
def fnExactFairTurnsWrong : ChangeSpec := { name := "fnExactFairTurns", fn := fun _ => fun
  | [d1, d2, d3, d4, d5] => { results := [.lit (.bool false)], args := [d1, d2, d3, d4, d5] }
  | _ => none }
def FnExactFairTurnsWrongFalsely : Prop := fnExactFairTurnsRow.holds Try.pinned (OpenSpec.ofChange fnExactFairTurnsWrong)

/- THE SECOND FORM. 'bulk': how many values and letters a reading holds, each counted each time it is reached (what is shared counts as often as it is met; a slice's spare places count too). A statement '..UptoSaid' is the law's where the arguments, and the package variables that the reading takes, are together of bulk at most 1048576: NARROWER than '..Said'. Prove '..Said' where nothing that the law and all that it calls make is longer than what came in: it says more and counts as full. Else prove '..UptoSaid'. A law counts once. -/
mutual
def uptoBulk {H : Type} : DataW H → Nat
  | .lit (.string bytes) => bytes.length + 1
  | .lit _ => 1
  | .nil => 1
  | .ptr d => uptoBulk d + 1
  | .slice elems spare => uptoBulkAll elems + uptoBulkAll spare + 1
  | .agg parts => uptoBulkAll parts + 1
  | .iface _ d => uptoBulk d + 1
  | .map entries => uptoBulkEntries entries + 1
  | .held _ => 1
def uptoBulkAll {H : Type} : List (DataW H) → Nat
  | [] => 0
  | d :: r => uptoBulk d + uptoBulkAll r
def uptoBulkEntries {H : Type} : List (Lit × DataW H) → Nat
  | [] => 0
  | x :: r => uptoBulkEntry x + uptoBulkEntries r
def uptoBulkEntry {H : Type} : Lit × DataW H → Nat
  | (.string bytes, d) => bytes.length + uptoBulk d + 1
  | (_, d) => uptoBulk d + 1
 end
def uptoSmall : (H : Type) → List (DataW H) → Bool := fun _ ds => decide (uptoBulkAll ds ≤ 1048576)
def OpenSpec.upto (s : _root_.Go.ChangeSpec) : _root_.Go.OpenSpec := { _root_.Go.OpenSpec.ofChange s with cond := some uptoSmall }

/-- 'laws.FnExactUsedBetween', WHERE WHAT IT READS IS OF BULK AT MOST 1048576: true; the input reads as it did. -/
def fnExactUsedBetweenUptoRow : OpenClaim := { program := "ytnmehknpphoolaa", sum := "b73e7a32f21c9a34a2865fe5d9765b8638266ef77d80d6384043c9ddbaad6915", func := "loop.example/g01011/laws.FnExactUsedBetween", spec := "fnExactUsedBetween", unfollowed := true, recurses := true, apart := false, narrowed := true }
def FnExactUsedBetweenUptoSaid : Prop := fnExactUsedBetweenUptoRow.holds Try.pinned (OpenSpec.upto fnExactUsedBetweenSpec)

/-- 'laws.FnExactNextOrders', WHERE WHAT IT READS IS OF BULK AT MOST 1048576: true; the input reads as it did. -/
def fnExactNextOrdersUptoRow : OpenClaim := { program := "ytnmehknpphoolaa", sum := "b73e7a32f21c9a34a2865fe5d9765b8638266ef77d80d6384043c9ddbaad6915", func := "loop.example/g01011/laws.FnExactNextOrders", spec := "fnExactNextOrders", unfollowed := true, recurses := true, apart := false, narrowed := true }
def FnExactNextOrdersUptoSaid : Prop := fnExactNextOrdersUptoRow.holds Try.pinned (OpenSpec.upto fnExactNextOrdersSpec)

/-- 'laws.FnExactRunOrders', WHERE WHAT IT READS IS OF BULK AT MOST 1048576: true; the input reads as it did. -/
def fnExactRunOrdersUptoRow : OpenClaim := { program := "ytnmehknpphoolaa", sum := "b73e7a32f21c9a34a2865fe5d9765b8638266ef77d80d6384043c9ddbaad6915", func := "loop.example/g01011/laws.FnExactRunOrders", spec := "fnExactRunOrders", unfollowed := true, recurses := true, apart := false, narrowed := true }
def FnExactRunOrdersUptoSaid : Prop := fnExactRunOrdersUptoRow.holds Try.pinned (OpenSpec.upto fnExactRunOrdersSpec)

/-- 'laws.FnExactSameHistory', WHERE WHAT IT READS IS OF BULK AT MOST 1048576: true; the input reads as it did. -/
def fnExactSameHistoryUptoRow : OpenClaim := { program := "ytnmehknpphoolaa", sum := "b73e7a32f21c9a34a2865fe5d9765b8638266ef77d80d6384043c9ddbaad6915", func := "loop.example/g01011/laws.FnExactSameHistory", spec := "fnExactSameHistory", unfollowed := true, recurses := true, apart := false, narrowed := true }
def FnExactSameHistoryUptoSaid : Prop := fnExactSameHistoryUptoRow.holds Try.pinned (OpenSpec.upto fnExactSameHistorySpec)

/-- 'laws.FnExactIsBuildable', WHERE WHAT IT READS IS OF BULK AT MOST 1048576: true; the input reads as it did. -/
def fnExactIsBuildableUptoRow : OpenClaim := { program := "ytnmehknpphoolaa", sum := "b73e7a32f21c9a34a2865fe5d9765b8638266ef77d80d6384043c9ddbaad6915", func := "loop.example/g01011/laws.FnExactIsBuildable", spec := "fnExactIsBuildable", unfollowed := true, recurses := true, apart := false, narrowed := true }
def FnExactIsBuildableUptoSaid : Prop := fnExactIsBuildableUptoRow.holds Try.pinned (OpenSpec.upto fnExactIsBuildableSpec)

/-- 'laws.FnExactStageCost', WHERE WHAT IT READS IS OF BULK AT MOST 1048576: true; the input reads as it did. -/
def fnExactStageCostUptoRow : OpenClaim := { program := "ytnmehknpphoolaa", sum := "b73e7a32f21c9a34a2865fe5d9765b8638266ef77d80d6384043c9ddbaad6915", func := "loop.example/g01011/laws.FnExactStageCost", spec := "fnExactStageCost", unfollowed := true, recurses := true, apart := false, narrowed := true }
def FnExactStageCostUptoSaid : Prop := fnExactStageCostUptoRow.holds Try.pinned (OpenSpec.upto fnExactStageCostSpec)

/-- 'laws.FnExactReadyStages', WHERE WHAT IT READS IS OF BULK AT MOST 1048576: true; the input reads as it did. -/
def fnExactReadyStagesUptoRow : OpenClaim := { program := "ytnmehknpphoolaa", sum := "b73e7a32f21c9a34a2865fe5d9765b8638266ef77d80d6384043c9ddbaad6915", func := "loop.example/g01011/laws.FnExactReadyStages", spec := "fnExactReadyStages", unfollowed := true, recurses := true, apart := false, narrowed := true }
def FnExactReadyStagesUptoSaid : Prop := fnExactReadyStagesUptoRow.holds Try.pinned (OpenSpec.upto fnExactReadyStagesSpec)

/-- 'laws.FnExactBuildOrder', WHERE WHAT IT READS IS OF BULK AT MOST 1048576: true; the input reads as it did. -/
def fnExactBuildOrderUptoRow : OpenClaim := { program := "ytnmehknpphoolaa", sum := "b73e7a32f21c9a34a2865fe5d9765b8638266ef77d80d6384043c9ddbaad6915", func := "loop.example/g01011/laws.FnExactBuildOrder", spec := "fnExactBuildOrder", unfollowed := true, recurses := true, apart := false, narrowed := true }
def FnExactBuildOrderUptoSaid : Prop := fnExactBuildOrderUptoRow.holds Try.pinned (OpenSpec.upto fnExactBuildOrderSpec)

/-- 'laws.FnExactYearsOf', WHERE WHAT IT READS IS OF BULK AT MOST 1048576: true; the input reads as it did. -/
def fnExactYearsOfUptoRow : OpenClaim := { program := "ytnmehknpphoolaa", sum := "b73e7a32f21c9a34a2865fe5d9765b8638266ef77d80d6384043c9ddbaad6915", func := "loop.example/g01011/laws.FnExactYearsOf", spec := "fnExactYearsOf", unfollowed := true, recurses := true, apart := false, narrowed := true }
def FnExactYearsOfUptoSaid : Prop := fnExactYearsOfUptoRow.holds Try.pinned (OpenSpec.upto fnExactYearsOfSpec)

/-- 'laws.FnExactPayBackYear', WHERE WHAT IT READS IS OF BULK AT MOST 1048576: true; the input reads as it did. -/
def fnExactPayBackYearUptoRow : OpenClaim := { program := "ytnmehknpphoolaa", sum := "b73e7a32f21c9a34a2865fe5d9765b8638266ef77d80d6384043c9ddbaad6915", func := "loop.example/g01011/laws.FnExactPayBackYear", spec := "fnExactPayBackYear", unfollowed := true, recurses := true, apart := false, narrowed := true }
def FnExactPayBackYearUptoSaid : Prop := fnExactPayBackYearUptoRow.holds Try.pinned (OpenSpec.upto fnExactPayBackYearSpec)

/-- 'laws.FnExactCountReached', WHERE WHAT IT READS IS OF BULK AT MOST 1048576: true; the input reads as it did. -/
def fnExactCountReachedUptoRow : OpenClaim := { program := "ytnmehknpphoolaa", sum := "b73e7a32f21c9a34a2865fe5d9765b8638266ef77d80d6384043c9ddbaad6915", func := "loop.example/g01011/laws.FnExactCountReached", spec := "fnExactCountReached", unfollowed := true, recurses := true, apart := false, narrowed := true }
def FnExactCountReachedUptoSaid : Prop := fnExactCountReachedUptoRow.holds Try.pinned (OpenSpec.upto fnExactCountReachedSpec)

/-- 'laws.FnExactFairTurns', WHERE WHAT IT READS IS OF BULK AT MOST 1048576: true; the input reads as it did. -/
def fnExactFairTurnsUptoRow : OpenClaim := { program := "ytnmehknpphoolaa", sum := "b73e7a32f21c9a34a2865fe5d9765b8638266ef77d80d6384043c9ddbaad6915", func := "loop.example/g01011/laws.FnExactFairTurns", spec := "fnExactFairTurns", unfollowed := true, recurses := true, apart := false, narrowed := true }
def FnExactFairTurnsUptoSaid : Prop := fnExactFairTurnsUptoRow.holds Try.pinned (OpenSpec.upto fnExactFairTurnsSpec)

end Rows
end Go.Proofs.Ytnmehknpphoolaa
