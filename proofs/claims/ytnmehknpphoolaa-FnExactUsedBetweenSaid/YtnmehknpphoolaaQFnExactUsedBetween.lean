/- The pure statement of the law FnExactUsedBetween, and what its parameters are like: written by row.py. -/
import Derived.Test.YtnmehknpphoolaaPFnExactUsedBetweenx7
namespace Go.Proofs.Ytnmehknpphoolaa.PFnExactUsedBetween
open Go.RowKit Go.Proofs.YtnmehknpphoolaaW.PrintWords
def wfS83 (x : S83) : Prop := ((Lit.int .i64 x.f0).wf = true) ∧ ((Lit.int .i64 x.f1).wf = true)
def Pure : Prop := ∀ (x0 : List S83) (x1 : Int) (x2 : Int), (x0.length ≤ maxLen ∧ x0.length * 16 ≤ 140737488351232 ∧ ∀ e0 ∈ x0, wfS83 e0) → ((Lit.int .i64 x1).wf = true) → ((Lit.int .i64 x2).wf = true) → ∃ k, laws_FnExactUsedBetween.f k x0 x1 x2 = some true
end Go.Proofs.Ytnmehknpphoolaa.PFnExactUsedBetween
