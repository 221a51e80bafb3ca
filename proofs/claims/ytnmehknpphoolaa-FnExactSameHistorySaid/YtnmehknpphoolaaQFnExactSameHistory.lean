/- The pure statement of the law FnExactSameHistory, and what its parameters are like: written by row.py. -/
import Derived.Test.YtnmehknpphoolaaPFnExactSameHistoryx6
namespace Go.Proofs.Ytnmehknpphoolaa.PFnExactSameHistory
open Go.RowKit Go.Proofs.YtnmehknpphoolaaW.PrintWords
def wfS183 (x : S183) : Prop := (x.f0.size ≤ 140737488351232) ∧ ((Lit.int .i64 x.f1).wf = true)
def wfS105 (x : S105) : Prop := ((Lit.int .i64 x.f0).wf = true) ∧ ((Lit.int .i64 x.f1).wf = true) ∧ (x.f2.size ≤ 140737488351232) ∧ (x.f3.length ≤ maxLen ∧ x.f3.length * 24 ≤ 140737488351232 ∧ ∀ e0 ∈ x.f3, wfS183 e0)
def Pure : Prop := ∀ (x0 : List S105) (x1 : List S105), (x0.length ≤ maxLen ∧ x0.length * 56 ≤ 140737488351232 ∧ ∀ e0 ∈ x0, wfS105 e0) → (x1.length ≤ maxLen ∧ x1.length * 56 ≤ 140737488351232 ∧ ∀ e0 ∈ x1, wfS105 e0) → ∃ k, laws_FnExactSameHistory.f k x0 x1 = some true
end Go.Proofs.Ytnmehknpphoolaa.PFnExactSameHistory
