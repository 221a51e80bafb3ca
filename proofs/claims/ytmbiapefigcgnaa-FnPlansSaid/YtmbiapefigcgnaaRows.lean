/-
  No cell of these rows narrows 'for every input' (looked for: loops, veiled, ifaces, maps, wideKeys, modest, calm, conditions, laid).
  DERIVED. THE GIVEN ROWS OF THIS SEAT. 6 by the template 'for every input the law returns true; each argument reads behind the call as it read before'; 0 by the template 'total and deterministic' (their statements: YtmbiapefigcgnaaTotals.lean).
  GIVEN WITH THE SEED: the statements are not yours to turn. If you find one false, say at which input.
  Laid BY PROGRAM, IN A SANDBOX (cutbox-rows.mjs): the forced cells as the released guide's own fill.sh prints them over the translation a5d7c1533c1148ee… (all of the seat's roots in one cut). By AI agents, Wed Nov 11 2026. No macro, syntax, notation, axiom, sorry.
-/
import Derived.Test.YtmbiapefigcgnaaChecked
import GoSem.Claim
import GoSem.ClaimJoined
import GoSem.ClaimMapViews
import Derived.JoinedTies
import Derived.KernelRfl
namespace Go.Proofs.Ytmbiapefigcgnaa
/- THE CELL 'sum', in the pinned program and in every row, IS THE sha256 OF THE DUMP (.gsa) THAT YtmbiapefigcgnaaProg.lean LOADS. Nothing in Lean hashes anything: it is a label: what it is worth is what the hold of that sum in a sandbox is worth. -/
noncomputable def Try.pinned : Pinned := { name := "ytmbiapefigcgnaa", sum := "a5d7c1533c1148eebfc290d2459d730d02eae66bae3d5cf30c47499efef4066a", checked := Try.checked }
namespace Rows
def none {H : Type} : Left H := { results := [], args := [] }

/-- 'laws.FnPlans': WHATEVER THE INPUT: true; the input reads as it did. -/
def fnPlansSpec : ChangeSpec := { name := "fnPlans", fn := fun _ => fun
  | [d1, d2] => { results := [.lit (.bool true)], args := [d1, d2] }
  | _ => none }
def fnPlansRow : OpenClaim := { program := "ytmbiapefigcgnaa", sum := "a5d7c1533c1148eebfc290d2459d730d02eae66bae3d5cf30c47499efef4066a", func := "loop.example/g01011/laws.FnPlans", spec := "fnPlans", unfollowed := true, recurses := true, apart := false }
def FnPlansSaid : Prop := fnPlansRow.holds Try.pinned (OpenSpec.ofChange fnPlansSpec)

/-- ITS FALSE NEIGHBOUR: 'it returns false'. Refute it at one input. -/
def fnPlansWrong : ChangeSpec := { name := "fnPlans", fn := fun _ => fun
  | [d1, d2] => { results := [.lit (.bool false)], args := [d1, d2] }
  | _ => none }
def FnPlansWrongFalsely : Prop := fnPlansRow.holds Try.pinned (OpenSpec.ofChange fnPlansWrong)

/-- 'laws.FnExactPayBackYear': WHATEVER THE INPUT: true; the input reads as it did. -/
def fnExactPayBackYearSpec : ChangeSpec := { name := "fnExactPayBackYear", fn := fun _ => fun
  | [d1, d2, d3] => { results := [.lit (.bool true)], args := [d1, d2, d3] }
  | _ => none }
def fnExactPayBackYearRow : OpenClaim := { program := "ytmbiapefigcgnaa", sum := "a5d7c1533c1148eebfc290d2459d730d02eae66bae3d5cf30c47499efef4066a", func := "loop.example/g01011/laws.FnExactPayBackYear", spec := "fnExactPayBackYear", unfollowed := true, recurses := true, apart := false }
def FnExactPayBackYearSaid : Prop := fnExactPayBackYearRow.holds Try.pinned (OpenSpec.ofChange fnExactPayBackYearSpec)

/-- ITS FALSE NEIGHBOUR: 'it returns false'. Refute it at one input. -/
def fnExactPayBackYearWrong : ChangeSpec := { name := "fnExactPayBackYear", fn := fun _ => fun
  | [d1, d2, d3] => { results := [.lit (.bool false)], args := [d1, d2, d3] }
  | _ => none }
def FnExactPayBackYearWrongFalsely : Prop := fnExactPayBackYearRow.holds Try.pinned (OpenSpec.ofChange fnExactPayBackYearWrong)

/-- 'laws.FnExactCountBuildable': WHATEVER THE INPUT: true; the input reads as it did. -/
def fnExactCountBuildableSpec : ChangeSpec := { name := "fnExactCountBuildable", fn := fun _ => fun
  | [d1, d2, d3] => { results := [.lit (.bool true)], args := [d1, d2, d3] }
  | _ => none }
def fnExactCountBuildableRow : OpenClaim := { program := "ytmbiapefigcgnaa", sum := "a5d7c1533c1148eebfc290d2459d730d02eae66bae3d5cf30c47499efef4066a", func := "loop.example/g01011/laws.FnExactCountBuildable", spec := "fnExactCountBuildable", unfollowed := true, recurses := true, apart := false }
def FnExactCountBuildableSaid : Prop := fnExactCountBuildableRow.holds Try.pinned (OpenSpec.ofChange fnExactCountBuildableSpec)

/-- ITS FALSE NEIGHBOUR: 'it returns false'. Refute it at one input. -/
def fnExactCountBuildableWrong : ChangeSpec := { name := "fnExactCountBuildable", fn := fun _ => fun
  | [d1, d2, d3] => { results := [.lit (.bool false)], args := [d1, d2, d3] }
  | _ => none }
def FnExactCountBuildableWrongFalsely : Prop := fnExactCountBuildableRow.holds Try.pinned (OpenSpec.ofChange fnExactCountBuildableWrong)

/-- 'laws.FnExactBestPlan': WHATEVER THE INPUT: true; the input reads as it did. -/
def fnExactBestPlanSpec : ChangeSpec := { name := "fnExactBestPlan", fn := fun _ => fun
  | [d1, d2, d3, d4] => { results := [.lit (.bool true)], args := [d1, d2, d3, d4] }
  | _ => none }
def fnExactBestPlanRow : OpenClaim := { program := "ytmbiapefigcgnaa", sum := "a5d7c1533c1148eebfc290d2459d730d02eae66bae3d5cf30c47499efef4066a", func := "loop.example/g01011/laws.FnExactBestPlan", spec := "fnExactBestPlan", unfollowed := true, recurses := true, apart := false }
def FnExactBestPlanSaid : Prop := fnExactBestPlanRow.holds Try.pinned (OpenSpec.ofChange fnExactBestPlanSpec)

/-- ITS FALSE NEIGHBOUR: 'it returns false'. Refute it at one input. -/
def fnExactBestPlanWrong : ChangeSpec := { name := "fnExactBestPlan", fn := fun _ => fun
  | [d1, d2, d3, d4] => { results := [.lit (.bool false)], args := [d1, d2, d3, d4] }
  | _ => none }
def FnExactBestPlanWrongFalsely : Prop := fnExactBestPlanRow.holds Try.pinned (OpenSpec.ofChange fnExactBestPlanWrong)

/-- 'laws.FnExactBestStages': WHATEVER THE INPUT: true; the input reads as it did. -/
def fnExactBestStagesSpec : ChangeSpec := { name := "fnExactBestStages", fn := fun _ => fun
  | [d1, d2, d3] => { results := [.lit (.bool true)], args := [d1, d2, d3] }
  | _ => none }
def fnExactBestStagesRow : OpenClaim := { program := "ytmbiapefigcgnaa", sum := "a5d7c1533c1148eebfc290d2459d730d02eae66bae3d5cf30c47499efef4066a", func := "loop.example/g01011/laws.FnExactBestStages", spec := "fnExactBestStages", unfollowed := true, recurses := true, apart := false }
def FnExactBestStagesSaid : Prop := fnExactBestStagesRow.holds Try.pinned (OpenSpec.ofChange fnExactBestStagesSpec)

/-- ITS FALSE NEIGHBOUR: 'it returns false'. Refute it at one input. -/
def fnExactBestStagesWrong : ChangeSpec := { name := "fnExactBestStages", fn := fun _ => fun
  | [d1, d2, d3] => { results := [.lit (.bool false)], args := [d1, d2, d3] }
  | _ => none }
def FnExactBestStagesWrongFalsely : Prop := fnExactBestStagesRow.holds Try.pinned (OpenSpec.ofChange fnExactBestStagesWrong)

/-- 'laws.FnStages': WHATEVER THE INPUT: true; the input reads as it did. -/
def fnStagesSpec : ChangeSpec := { name := "fnStages", fn := fun _ => fun
  | [d1, d2] => { results := [.lit (.bool true)], args := [d1, d2] }
  | _ => none }
def fnStagesRow : OpenClaim := { program := "ytmbiapefigcgnaa", sum := "a5d7c1533c1148eebfc290d2459d730d02eae66bae3d5cf30c47499efef4066a", func := "loop.example/g01011/laws.FnStages", spec := "fnStages", unfollowed := true, recurses := true, apart := false }
def FnStagesSaid : Prop := fnStagesRow.holds Try.pinned (OpenSpec.ofChange fnStagesSpec)

/-- ITS FALSE NEIGHBOUR: 'it returns false'. Refute it at one input. -/
def fnStagesWrong : ChangeSpec := { name := "fnStages", fn := fun _ => fun
  | [d1, d2] => { results := [.lit (.bool false)], args := [d1, d2] }
  | _ => none }
def FnStagesWrongFalsely : Prop := fnStagesRow.holds Try.pinned (OpenSpec.ofChange fnStagesWrong)

/- THE SECOND FORM. 'bulk': how many values and letters a reading holds, each counted each time it is reached (what is shared counts as often as it is met; a slice's spare places count too). A statement '..UptoSaid' is the law's where the arguments, and the package variables that the reading takes, are together of bulk at most 1048576: NARROWER than '..Said'. Prove '..Said' where nothing that the law and all that it calls make is longer than what came in: it says more and counts as full. Else prove '..UptoSaid'. A law counts once. -/
mutual
def uptoBulk {H : Type} : DataW H → Nat
  | .lit (.string bytes) => bytes.length + 1
  | .lit _ => 1
  | .nil => 1
  | .ptr d => uptoBulk d + 1
  | .slice elems spare => uptoBulkAll elems + uptoBulkAll spare + 1
  | .agg parts => uptoBulkAll parts + 1
  | .iface _ d => uptoBulk d + 1
  | .map entries => uptoBulkEntries entries + 1
  | .held _ => 1
def uptoBulkAll {H : Type} : List (DataW H) → Nat
  | [] => 0
  | d :: r => uptoBulk d + uptoBulkAll r
def uptoBulkEntries {H : Type} : List (Lit × DataW H) → Nat
  | [] => 0
  | x :: r => uptoBulkEntry x + uptoBulkEntries r
def uptoBulkEntry {H : Type} : Lit × DataW H → Nat
  | (.string bytes, d) => bytes.length + uptoBulk d + 1
  | (_, d) => uptoBulk d + 1
 end
def uptoSmall : (H : Type) → List (DataW H) → Bool := fun _ ds => decide (uptoBulkAll ds ≤ 1048576)
def OpenSpec.upto (s : _root_.Go.ChangeSpec) : _root_.Go.OpenSpec := { _root_.Go.OpenSpec.ofChange s with cond := some uptoSmall }

/-- 'laws.FnPlans', WHERE WHAT IT READS IS OF BULK AT MOST 1048576: true; the input reads as it did. -/
def fnPlansUptoRow : OpenClaim := { program := "ytmbiapefigcgnaa", sum := "a5d7c1533c1148eebfc290d2459d730d02eae66bae3d5cf30c47499efef4066a", func := "loop.example/g01011/laws.FnPlans", spec := "fnPlans", unfollowed := true, recurses := true, apart := false, narrowed := true }
def FnPlansUptoSaid : Prop := fnPlansUptoRow.holds Try.pinned (OpenSpec.upto fnPlansSpec)

/-- 'laws.FnExactPayBackYear', WHERE WHAT IT READS IS OF BULK AT MOST 1048576: true; the input reads as it did. -/
def fnExactPayBackYearUptoRow : OpenClaim := { program := "ytmbiapefigcgnaa", sum := "a5d7c1533c1148eebfc290d2459d730d02eae66bae3d5cf30c47499efef4066a", func := "loop.example/g01011/laws.FnExactPayBackYear", spec := "fnExactPayBackYear", unfollowed := true, recurses := true, apart := false, narrowed := true }
def FnExactPayBackYearUptoSaid : Prop := fnExactPayBackYearUptoRow.holds Try.pinned (OpenSpec.upto fnExactPayBackYearSpec)

/-- 'laws.FnExactCountBuildable', WHERE WHAT IT READS IS OF BULK AT MOST 1048576: true; the input reads as it did. -/
def fnExactCountBuildableUptoRow : OpenClaim := { program := "ytmbiapefigcgnaa", sum := "a5d7c1533c1148eebfc290d2459d730d02eae66bae3d5cf30c47499efef4066a", func := "loop.example/g01011/laws.FnExactCountBuildable", spec := "fnExactCountBuildable", unfollowed := true, recurses := true, apart := false, narrowed := true }
def FnExactCountBuildableUptoSaid : Prop := fnExactCountBuildableUptoRow.holds Try.pinned (OpenSpec.upto fnExactCountBuildableSpec)

/-- 'laws.FnExactBestPlan', WHERE WHAT IT READS IS OF BULK AT MOST 1048576: true; the input reads as it did. -/
def fnExactBestPlanUptoRow : OpenClaim := { program := "ytmbiapefigcgnaa", sum := "a5d7c1533c1148eebfc290d2459d730d02eae66bae3d5cf30c47499efef4066a", func := "loop.example/g01011/laws.FnExactBestPlan", spec := "fnExactBestPlan", unfollowed := true, recurses := true, apart := false, narrowed := true }
def FnExactBestPlanUptoSaid : Prop := fnExactBestPlanUptoRow.holds Try.pinned (OpenSpec.upto fnExactBestPlanSpec)

/-- 'laws.FnExactBestStages', WHERE WHAT IT READS IS OF BULK AT MOST 1048576: true; the input reads as it did. -/
def fnExactBestStagesUptoRow : OpenClaim := { program := "ytmbiapefigcgnaa", sum := "a5d7c1533c1148eebfc290d2459d730d02eae66bae3d5cf30c47499efef4066a", func := "loop.example/g01011/laws.FnExactBestStages", spec := "fnExactBestStages", unfollowed := true, recurses := true, apart := false, narrowed := true }
def FnExactBestStagesUptoSaid : Prop := fnExactBestStagesUptoRow.holds Try.pinned (OpenSpec.upto fnExactBestStagesSpec)

/-- 'laws.FnStages', WHERE WHAT IT READS IS OF BULK AT MOST 1048576: true; the input reads as it did. -/
def fnStagesUptoRow : OpenClaim := { program := "ytmbiapefigcgnaa", sum := "a5d7c1533c1148eebfc290d2459d730d02eae66bae3d5cf30c47499efef4066a", func := "loop.example/g01011/laws.FnStages", spec := "fnStages", unfollowed := true, recurses := true, apart := false, narrowed := true }
def FnStagesUptoSaid : Prop := fnStagesUptoRow.holds Try.pinned (OpenSpec.upto fnStagesSpec)

end Rows
end Go.Proofs.Ytmbiapefigcgnaa
