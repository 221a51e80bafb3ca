/-
  No cell of these rows narrows 'for every input' (looked for: loops, veiled, ifaces, maps, wideKeys, modest, calm, conditions, laid).
  DERIVED. THE GIVEN ROWS OF THIS SEAT. 12 by the template 'for every input the law returns true; each argument reads behind the call as it read before'; 0 by the template 'total and deterministic' (their statements: YtiioinedejdfcaaTotals.lean).
  GIVEN WITH THE SEED: the statements are not yours to turn. If you find one false, say at which input.
  Laid BY PROGRAM, IN A SANDBOX (cutbox-rows.mjs): the forced cells as the released guide's own fill.sh prints them over the translation e36ed0dcfba0fc82… (all of the seat's roots in one cut). By AI agents, Wed Nov 11 2026. No macro, syntax, notation, axiom, sorry.
-/
import Derived.Test.YtiioinedejdfcaaChecked
import GoSem.Claim
import GoSem.ClaimJoined
import GoSem.ClaimMapViews
import Derived.JoinedTies
import Derived.KernelRfl
namespace Go.Proofs.Ytiioinedejdfcaa
/- THE CELL 'sum', in the pinned program and in every row, IS THE sha256 OF THE DUMP (.gsa) THAT YtiioinedejdfcaaProg.lean LOADS. Nothing in Lean hashes anything: it is a label: what it is worth is what the hold of that sum in a sandbox is worth. -/
noncomputable def Try.pinned : Pinned := { name := "ytiioinedejdfcaa", sum := "e36ed0dcfba0fc82d95013886993ec381bf3dd6f6eb8b563860a0a1fd7d45690", checked := Try.checked }
namespace Rows
def none {H : Type} : Left H := { results := [], args := [] }

/-- 'laws.FnExactValidRules': WHATEVER THE INPUT: true; the input reads as it did. -/
def fnExactValidRulesSpec : ChangeSpec := { name := "fnExactValidRules", fn := fun _ => fun
  | [d1, d2] => { results := [.lit (.bool true)], args := [d1, d2] }
  | _ => none }
def fnExactValidRulesRow : OpenClaim := { program := "ytiioinedejdfcaa", sum := "e36ed0dcfba0fc82d95013886993ec381bf3dd6f6eb8b563860a0a1fd7d45690", func := "loop.example/g01011/laws.FnExactValidRules", spec := "fnExactValidRules", apart := false }
def FnExactValidRulesSaid : Prop := fnExactValidRulesRow.holds Try.pinned (OpenSpec.ofChange fnExactValidRulesSpec)

/-- ITS FALSE NEIGHBOUR: 'it returns false'. Refute it at one input. -/
def fnExactValidRulesWrong : ChangeSpec := { name := "fnExactValidRules", fn := fun _ => fun
  | [d1, d2] => { results := [.lit (.bool false)], args := [d1, d2] }
  | _ => none }
def FnExactValidRulesWrongFalsely : Prop := fnExactValidRulesRow.holds Try.pinned (OpenSpec.ofChange fnExactValidRulesWrong)

/-- 'laws.FnExactValidReadings': WHATEVER THE INPUT: true; the input reads as it did. -/
def fnExactValidReadingsSpec : ChangeSpec := { name := "fnExactValidReadings", fn := fun _ => fun
  | [d] => { results := [.lit (.bool true)], args := [d] }
  | _ => none }
def fnExactValidReadingsRow : OpenClaim := { program := "ytiioinedejdfcaa", sum := "e36ed0dcfba0fc82d95013886993ec381bf3dd6f6eb8b563860a0a1fd7d45690", func := "loop.example/g01011/laws.FnExactValidReadings", spec := "fnExactValidReadings", apart := false }
def FnExactValidReadingsSaid : Prop := fnExactValidReadingsRow.holds Try.pinned (OpenSpec.ofChange fnExactValidReadingsSpec)

/-- ITS FALSE NEIGHBOUR: 'it returns false'. Refute it at one input. -/
def fnExactValidReadingsWrong : ChangeSpec := { name := "fnExactValidReadings", fn := fun _ => fun
  | [d] => { results := [.lit (.bool false)], args := [d] }
  | _ => none }
def FnExactValidReadingsWrongFalsely : Prop := fnExactValidReadingsRow.holds Try.pinned (OpenSpec.ofChange fnExactValidReadingsWrong)

/-- 'laws.FnExactSameState': WHATEVER THE INPUT: true; the input reads as it did. -/
def fnExactSameStateSpec : ChangeSpec := { name := "fnExactSameState", fn := fun _ => fun
  | [d1, d2] => { results := [.lit (.bool true)], args := [d1, d2] }
  | _ => none }
def fnExactSameStateRow : OpenClaim := { program := "ytiioinedejdfcaa", sum := "e36ed0dcfba0fc82d95013886993ec381bf3dd6f6eb8b563860a0a1fd7d45690", func := "loop.example/g01011/laws.FnExactSameState", spec := "fnExactSameState", apart := false }
def FnExactSameStateSaid : Prop := fnExactSameStateRow.holds Try.pinned (OpenSpec.ofChange fnExactSameStateSpec)

/-- ITS FALSE NEIGHBOUR: 'it returns false'. Refute it at one input. -/
def fnExactSameStateWrong : ChangeSpec := { name := "fnExactSameState", fn := fun _ => fun
  | [d1, d2] => { results := [.lit (.bool false)], args := [d1, d2] }
  | _ => none }
def FnExactSameStateWrongFalsely : Prop := fnExactSameStateRow.holds Try.pinned (OpenSpec.ofChange fnExactSameStateWrong)

/-- 'laws.FnExactUndoOrders': WHATEVER THE INPUT: true; the input reads as it did. -/
def fnExactUndoOrdersSpec : ChangeSpec := { name := "fnExactUndoOrders", fn := fun _ => fun
  | [d] => { results := [.lit (.bool true)], args := [d] }
  | _ => none }
def fnExactUndoOrdersRow : OpenClaim := { program := "ytiioinedejdfcaa", sum := "e36ed0dcfba0fc82d95013886993ec381bf3dd6f6eb8b563860a0a1fd7d45690", func := "loop.example/g01011/laws.FnExactUndoOrders", spec := "fnExactUndoOrders", unfollowed := true, recurses := true, apart := false }
def FnExactUndoOrdersSaid : Prop := fnExactUndoOrdersRow.holds Try.pinned (OpenSpec.ofChange fnExactUndoOrdersSpec)

/-- ITS FALSE NEIGHBOUR: 'it returns false'. Refute it at one input. -/
def fnExactUndoOrdersWrong : ChangeSpec := { name := "fnExactUndoOrders", fn := fun _ => fun
  | [d] => { results := [.lit (.bool false)], args := [d] }
  | _ => none }
def FnExactUndoOrdersWrongFalsely : Prop := fnExactUndoOrdersRow.holds Try.pinned (OpenSpec.ofChange fnExactUndoOrdersWrong)

/-- 'laws.FnExactValidState': WHATEVER THE INPUT: true; the input reads as it did. -/
def fnExactValidStateSpec : ChangeSpec := { name := "fnExactValidState", fn := fun _ => fun
  | [d] => { results := [.lit (.bool true)], args := [d] }
  | _ => none }
def fnExactValidStateRow : OpenClaim := { program := "ytiioinedejdfcaa", sum := "e36ed0dcfba0fc82d95013886993ec381bf3dd6f6eb8b563860a0a1fd7d45690", func := "loop.example/g01011/laws.FnExactValidState", spec := "fnExactValidState", apart := false }
def FnExactValidStateSaid : Prop := fnExactValidStateRow.holds Try.pinned (OpenSpec.ofChange fnExactValidStateSpec)

/-- ITS FALSE NEIGHBOUR: 'it returns false'. Refute it at one input. -/
def fnExactValidStateWrong : ChangeSpec := { name := "fnExactValidState", fn := fun _ => fun
  | [d] => { results := [.lit (.bool false)], args := [d] }
  | _ => none }
def FnExactValidStateWrongFalsely : Prop := fnExactValidStateRow.holds Try.pinned (OpenSpec.ofChange fnExactValidStateWrong)

/-- 'laws.FnExactValidTenants': WHATEVER THE INPUT: true; the input reads as it did. -/
def fnExactValidTenantsSpec : ChangeSpec := { name := "fnExactValidTenants", fn := fun _ => fun
  | [d] => { results := [.lit (.bool true)], args := [d] }
  | _ => none }
def fnExactValidTenantsRow : OpenClaim := { program := "ytiioinedejdfcaa", sum := "e36ed0dcfba0fc82d95013886993ec381bf3dd6f6eb8b563860a0a1fd7d45690", func := "loop.example/g01011/laws.FnExactValidTenants", spec := "fnExactValidTenants", apart := false }
def FnExactValidTenantsSaid : Prop := fnExactValidTenantsRow.holds Try.pinned (OpenSpec.ofChange fnExactValidTenantsSpec)

/-- ITS FALSE NEIGHBOUR: 'it returns false'. Refute it at one input. -/
def fnExactValidTenantsWrong : ChangeSpec := { name := "fnExactValidTenants", fn := fun _ => fun
  | [d] => { results := [.lit (.bool false)], args := [d] }
  | _ => none }
def FnExactValidTenantsWrongFalsely : Prop := fnExactValidTenantsRow.holds Try.pinned (OpenSpec.ofChange fnExactValidTenantsWrong)

/-- 'laws.FnExactValidFuels': WHATEVER THE INPUT: true; the input reads as it did. -/
def fnExactValidFuelsSpec : ChangeSpec := { name := "fnExactValidFuels", fn := fun _ => fun
  | [d] => { results := [.lit (.bool true)], args := [d] }
  | _ => none }
def fnExactValidFuelsRow : OpenClaim := { program := "ytiioinedejdfcaa", sum := "e36ed0dcfba0fc82d95013886993ec381bf3dd6f6eb8b563860a0a1fd7d45690", func := "loop.example/g01011/laws.FnExactValidFuels", spec := "fnExactValidFuels", apart := false }
def FnExactValidFuelsSaid : Prop := fnExactValidFuelsRow.holds Try.pinned (OpenSpec.ofChange fnExactValidFuelsSpec)

/-- ITS FALSE NEIGHBOUR: 'it returns false'. Refute it at one input. -/
def fnExactValidFuelsWrong : ChangeSpec := { name := "fnExactValidFuels", fn := fun _ => fun
  | [d] => { results := [.lit (.bool false)], args := [d] }
  | _ => none }
def FnExactValidFuelsWrongFalsely : Prop := fnExactValidFuelsRow.holds Try.pinned (OpenSpec.ofChange fnExactValidFuelsWrong)

/-- 'laws.FnPlans': WHATEVER THE INPUT: true; the input reads as it did. -/
def fnPlansSpec : ChangeSpec := { name := "fnPlans", fn := fun _ => fun
  | [d1, d2] => { results := [.lit (.bool true)], args := [d1, d2] }
  | _ => none }
def fnPlansRow : OpenClaim := { program := "ytiioinedejdfcaa", sum := "e36ed0dcfba0fc82d95013886993ec381bf3dd6f6eb8b563860a0a1fd7d45690", func := "loop.example/g01011/laws.FnPlans", spec := "fnPlans", unfollowed := true, recurses := true, apart := false }
def FnPlansSaid : Prop := fnPlansRow.holds Try.pinned (OpenSpec.ofChange fnPlansSpec)

/-- ITS FALSE NEIGHBOUR: 'it returns false'. Refute it at one input. -/
def fnPlansWrong : ChangeSpec := { name := "fnPlans", fn := fun _ => fun
  | [d1, d2] => { results := [.lit (.bool false)], args := [d1, d2] }
  | _ => none }
def FnPlansWrongFalsely : Prop := fnPlansRow.holds Try.pinned (OpenSpec.ofChange fnPlansWrong)

/-- 'laws.FnExactValidRepairs': WHATEVER THE INPUT: true; the input reads as it did. -/
def fnExactValidRepairsSpec : ChangeSpec := { name := "fnExactValidRepairs", fn := fun _ => fun
  | [d] => { results := [.lit (.bool true)], args := [d] }
  | _ => none }
def fnExactValidRepairsRow : OpenClaim := { program := "ytiioinedejdfcaa", sum := "e36ed0dcfba0fc82d95013886993ec381bf3dd6f6eb8b563860a0a1fd7d45690", func := "loop.example/g01011/laws.FnExactValidRepairs", spec := "fnExactValidRepairs", apart := false }
def FnExactValidRepairsSaid : Prop := fnExactValidRepairsRow.holds Try.pinned (OpenSpec.ofChange fnExactValidRepairsSpec)

/-- ITS FALSE NEIGHBOUR: 'it returns false'. Refute it at one input. -/
def fnExactValidRepairsWrong : ChangeSpec := { name := "fnExactValidRepairs", fn := fun _ => fun
  | [d] => { results := [.lit (.bool false)], args := [d] }
  | _ => none }
def FnExactValidRepairsWrongFalsely : Prop := fnExactValidRepairsRow.holds Try.pinned (OpenSpec.ofChange fnExactValidRepairsWrong)

/-- 'laws.FnExactValidPostings': WHATEVER THE INPUT: true; the input reads as it did. -/
def fnExactValidPostingsSpec : ChangeSpec := { name := "fnExactValidPostings", fn := fun _ => fun
  | [d] => { results := [.lit (.bool true)], args := [d] }
  | _ => none }
def fnExactValidPostingsRow : OpenClaim := { program := "ytiioinedejdfcaa", sum := "e36ed0dcfba0fc82d95013886993ec381bf3dd6f6eb8b563860a0a1fd7d45690", func := "loop.example/g01011/laws.FnExactValidPostings", spec := "fnExactValidPostings", apart := false }
def FnExactValidPostingsSaid : Prop := fnExactValidPostingsRow.holds Try.pinned (OpenSpec.ofChange fnExactValidPostingsSpec)

/-- ITS FALSE NEIGHBOUR: 'it returns false'. Refute it at one input. -/
def fnExactValidPostingsWrong : ChangeSpec := { name := "fnExactValidPostings", fn := fun _ => fun
  | [d] => { results := [.lit (.bool false)], args := [d] }
  | _ => none }
def FnExactValidPostingsWrongFalsely : Prop := fnExactValidPostingsRow.holds Try.pinned (OpenSpec.ofChange fnExactValidPostingsWrong)

/-- 'laws.FnExactValidMeters': WHATEVER THE INPUT: true; the input reads as it did. -/
def fnExactValidMetersSpec : ChangeSpec := { name := "fnExactValidMeters", fn := fun _ => fun
  | [d] => { results := [.lit (.bool true)], args := [d] }
  | _ => none }
def fnExactValidMetersRow : OpenClaim := { program := "ytiioinedejdfcaa", sum := "e36ed0dcfba0fc82d95013886993ec381bf3dd6f6eb8b563860a0a1fd7d45690", func := "loop.example/g01011/laws.FnExactValidMeters", spec := "fnExactValidMeters", apart := false }
def FnExactValidMetersSaid : Prop := fnExactValidMetersRow.holds Try.pinned (OpenSpec.ofChange fnExactValidMetersSpec)

/-- ITS FALSE NEIGHBOUR: 'it returns false'. Refute it at one input. -/
def fnExactValidMetersWrong : ChangeSpec := { name := "fnExactValidMeters", fn := fun _ => fun
  | [d] => { results := [.lit (.bool false)], args := [d] }
  | _ => none }
def FnExactValidMetersWrongFalsely : Prop := fnExactValidMetersRow.holds Try.pinned (OpenSpec.ofChange fnExactValidMetersWrong)

/-- 'laws.FnExactIsSettled': WHATEVER THE INPUT: true; the input reads as it did. -/
def fnExactIsSettledSpec : ChangeSpec := { name := "fnExactIsSettled", fn := fun _ => fun
  | [d] => { results := [.lit (.bool true)], args := [d] }
  | _ => none }
def fnExactIsSettledRow : OpenClaim := { program := "ytiioinedejdfcaa", sum := "e36ed0dcfba0fc82d95013886993ec381bf3dd6f6eb8b563860a0a1fd7d45690", func := "loop.example/g01011/laws.FnExactIsSettled", spec := "fnExactIsSettled", apart := false }
def FnExactIsSettledSaid : Prop := fnExactIsSettledRow.holds Try.pinned (OpenSpec.ofChange fnExactIsSettledSpec)

/-- ITS FALSE NEIGHBOUR: 'it returns false'. Refute it at one input. -/
def fnExactIsSettledWrong : ChangeSpec := { name := "fnExactIsSettled", fn := fun _ => fun
  | [d] => { results := [.lit (.bool false)], args := [d] }
  | _ => none }
def FnExactIsSettledWrongFalsely : Prop := fnExactIsSettledRow.holds Try.pinned (OpenSpec.ofChange fnExactIsSettledWrong)

/- THE SECOND FORM. 'bulk': how many values and letters a reading holds, each counted each time it is reached (what is shared counts as often as it is met; a slice's spare places count too). A statement '..UptoSaid' is the law's where the arguments, and the package variables that the reading takes, are together of bulk at most 1048576: NARROWER than '..Said'. Prove '..Said' where nothing that the law and all that it calls make is longer than what came in: it says more and counts as full. Else prove '..UptoSaid'. A law counts once. -/
mutual
def uptoBulk {H : Type} : DataW H → Nat
  | .lit (.string bytes) => bytes.length + 1
  | .lit _ => 1
  | .nil => 1
  | .ptr d => uptoBulk d + 1
  | .slice elems spare => uptoBulkAll elems + uptoBulkAll spare + 1
  | .agg parts => uptoBulkAll parts + 1
  | .iface _ d => uptoBulk d + 1
  | .map entries => uptoBulkEntries entries + 1
  | .held _ => 1
def uptoBulkAll {H : Type} : List (DataW H) → Nat
  | [] => 0
  | d :: r => uptoBulk d + uptoBulkAll r
def uptoBulkEntries {H : Type} : List (Lit × DataW H) → Nat
  | [] => 0
  | x :: r => uptoBulkEntry x + uptoBulkEntries r
def uptoBulkEntry {H : Type} : Lit × DataW H → Nat
  | (.string bytes, d) => bytes.length + uptoBulk d + 1
  | (_, d) => uptoBulk d + 1
 end
def uptoSmall : (H : Type) → List (DataW H) → Bool := fun _ ds => decide (uptoBulkAll ds ≤ 1048576)
def OpenSpec.upto (s : _root_.Go.ChangeSpec) : _root_.Go.OpenSpec := { _root_.Go.OpenSpec.ofChange s with cond := some uptoSmall }

/-- 'laws.FnExactValidRules', WHERE WHAT IT READS IS OF BULK AT MOST 1048576: true; the input reads as it did. -/
def fnExactValidRulesUptoRow : OpenClaim := { program := "ytiioinedejdfcaa", sum := "e36ed0dcfba0fc82d95013886993ec381bf3dd6f6eb8b563860a0a1fd7d45690", func := "loop.example/g01011/laws.FnExactValidRules", spec := "fnExactValidRules", apart := false, narrowed := true }
def FnExactValidRulesUptoSaid : Prop := fnExactValidRulesUptoRow.holds Try.pinned (OpenSpec.upto fnExactValidRulesSpec)

/-- 'laws.FnExactValidReadings', WHERE WHAT IT READS IS OF BULK AT MOST 1048576: true; the input reads as it did. -/
def fnExactValidReadingsUptoRow : OpenClaim := { program := "ytiioinedejdfcaa", sum := "e36ed0dcfba0fc82d95013886993ec381bf3dd6f6eb8b563860a0a1fd7d45690", func := "loop.example/g01011/laws.FnExactValidReadings", spec := "fnExactValidReadings", apart := false, narrowed := true }
def FnExactValidReadingsUptoSaid : Prop := fnExactValidReadingsUptoRow.holds Try.pinned (OpenSpec.upto fnExactValidReadingsSpec)

/-- 'laws.FnExactSameState', WHERE WHAT IT READS IS OF BULK AT MOST 1048576: true; the input reads as it did. -/
def fnExactSameStateUptoRow : OpenClaim := { program := "ytiioinedejdfcaa", sum := "e36ed0dcfba0fc82d95013886993ec381bf3dd6f6eb8b563860a0a1fd7d45690", func := "loop.example/g01011/laws.FnExactSameState", spec := "fnExactSameState", apart := false, narrowed := true }
def FnExactSameStateUptoSaid : Prop := fnExactSameStateUptoRow.holds Try.pinned (OpenSpec.upto fnExactSameStateSpec)

/-- 'laws.FnExactUndoOrders', WHERE WHAT IT READS IS OF BULK AT MOST 1048576: true; the input reads as it did. -/
def fnExactUndoOrdersUptoRow : OpenClaim := { program := "ytiioinedejdfcaa", sum := "e36ed0dcfba0fc82d95013886993ec381bf3dd6f6eb8b563860a0a1fd7d45690", func := "loop.example/g01011/laws.FnExactUndoOrders", spec := "fnExactUndoOrders", unfollowed := true, recurses := true, apart := false, narrowed := true }
def FnExactUndoOrdersUptoSaid : Prop := fnExactUndoOrdersUptoRow.holds Try.pinned (OpenSpec.upto fnExactUndoOrdersSpec)

/-- 'laws.FnExactValidState', WHERE WHAT IT READS IS OF BULK AT MOST 1048576: true; the input reads as it did. -/
def fnExactValidStateUptoRow : OpenClaim := { program := "ytiioinedejdfcaa", sum := "e36ed0dcfba0fc82d95013886993ec381bf3dd6f6eb8b563860a0a1fd7d45690", func := "loop.example/g01011/laws.FnExactValidState", spec := "fnExactValidState", apart := false, narrowed := true }
def FnExactValidStateUptoSaid : Prop := fnExactValidStateUptoRow.holds Try.pinned (OpenSpec.upto fnExactValidStateSpec)

/-- 'laws.FnExactValidTenants', WHERE WHAT IT READS IS OF BULK AT MOST 1048576: true; the input reads as it did. -/
def fnExactValidTenantsUptoRow : OpenClaim := { program := "ytiioinedejdfcaa", sum := "e36ed0dcfba0fc82d95013886993ec381bf3dd6f6eb8b563860a0a1fd7d45690", func := "loop.example/g01011/laws.FnExactValidTenants", spec := "fnExactValidTenants", apart := false, narrowed := true }
def FnExactValidTenantsUptoSaid : Prop := fnExactValidTenantsUptoRow.holds Try.pinned (OpenSpec.upto fnExactValidTenantsSpec)

/-- 'laws.FnExactValidFuels', WHERE WHAT IT READS IS OF BULK AT MOST 1048576: true; the input reads as it did. -/
def fnExactValidFuelsUptoRow : OpenClaim := { program := "ytiioinedejdfcaa", sum := "e36ed0dcfba0fc82d95013886993ec381bf3dd6f6eb8b563860a0a1fd7d45690", func := "loop.example/g01011/laws.FnExactValidFuels", spec := "fnExactValidFuels", apart := false, narrowed := true }
def FnExactValidFuelsUptoSaid : Prop := fnExactValidFuelsUptoRow.holds Try.pinned (OpenSpec.upto fnExactValidFuelsSpec)

/-- 'laws.FnPlans', WHERE WHAT IT READS IS OF BULK AT MOST 1048576: true; the input reads as it did. -/
def fnPlansUptoRow : OpenClaim := { program := "ytiioinedejdfcaa", sum := "e36ed0dcfba0fc82d95013886993ec381bf3dd6f6eb8b563860a0a1fd7d45690", func := "loop.example/g01011/laws.FnPlans", spec := "fnPlans", unfollowed := true, recurses := true, apart := false, narrowed := true }
def FnPlansUptoSaid : Prop := fnPlansUptoRow.holds Try.pinned (OpenSpec.upto fnPlansSpec)

/-- 'laws.FnExactValidRepairs', WHERE WHAT IT READS IS OF BULK AT MOST 1048576: true; the input reads as it did. -/
def fnExactValidRepairsUptoRow : OpenClaim := { program := "ytiioinedejdfcaa", sum := "e36ed0dcfba0fc82d95013886993ec381bf3dd6f6eb8b563860a0a1fd7d45690", func := "loop.example/g01011/laws.FnExactValidRepairs", spec := "fnExactValidRepairs", apart := false, narrowed := true }
def FnExactValidRepairsUptoSaid : Prop := fnExactValidRepairsUptoRow.holds Try.pinned (OpenSpec.upto fnExactValidRepairsSpec)

/-- 'laws.FnExactValidPostings', WHERE WHAT IT READS IS OF BULK AT MOST 1048576: true; the input reads as it did. -/
def fnExactValidPostingsUptoRow : OpenClaim := { program := "ytiioinedejdfcaa", sum := "e36ed0dcfba0fc82d95013886993ec381bf3dd6f6eb8b563860a0a1fd7d45690", func := "loop.example/g01011/laws.FnExactValidPostings", spec := "fnExactValidPostings", apart := false, narrowed := true }
def FnExactValidPostingsUptoSaid : Prop := fnExactValidPostingsUptoRow.holds Try.pinned (OpenSpec.upto fnExactValidPostingsSpec)

/-- 'laws.FnExactValidMeters', WHERE WHAT IT READS IS OF BULK AT MOST 1048576: true; the input reads as it did. -/
def fnExactValidMetersUptoRow : OpenClaim := { program := "ytiioinedejdfcaa", sum := "e36ed0dcfba0fc82d95013886993ec381bf3dd6f6eb8b563860a0a1fd7d45690", func := "loop.example/g01011/laws.FnExactValidMeters", spec := "fnExactValidMeters", apart := false, narrowed := true }
def FnExactValidMetersUptoSaid : Prop := fnExactValidMetersUptoRow.holds Try.pinned (OpenSpec.upto fnExactValidMetersSpec)

/-- 'laws.FnExactIsSettled', WHERE WHAT IT READS IS OF BULK AT MOST 1048576: true; the input reads as it did. -/
def fnExactIsSettledUptoRow : OpenClaim := { program := "ytiioinedejdfcaa", sum := "e36ed0dcfba0fc82d95013886993ec381bf3dd6f6eb8b563860a0a1fd7d45690", func := "loop.example/g01011/laws.FnExactIsSettled", spec := "fnExactIsSettled", apart := false, narrowed := true }
def FnExactIsSettledUptoSaid : Prop := fnExactIsSettledUptoRow.holds Try.pinned (OpenSpec.upto fnExactIsSettledSpec)

end Rows
end Go.Proofs.Ytiioinedejdfcaa
