/- The pure statement of the law FnExactCountReached, and what its parameters are like: written by row.py. -/
import Derived.Test.YtnmehknpphoolaaPFnExactCountReachedx5
namespace Go.Proofs.Ytnmehknpphoolaa.PFnExactCountReached
open Go.RowKit Go.Proofs.YtnmehknpphoolaaW.PrintWords
def wfS93 (x : S93) : Prop := ((Lit.int .i64 x.f0).wf = true) ∧ ((Lit.int .i64 x.f1).wf = true) ∧ ((Lit.int .i64 x.f2).wf = true)
def Pure : Prop := ∀ (x0 : List Bool) (x1 : List S93), (x0.length ≤ maxLen ∧ x0.length * 1 ≤ 140737488351232 ∧ ∀ e0 ∈ x0, True) → (x1.length ≤ maxLen ∧ x1.length * 24 ≤ 140737488351232 ∧ ∀ e0 ∈ x1, wfS93 e0) → ∃ k, laws_FnExactCountReached.f k x0 x1 = some true
end Go.Proofs.Ytnmehknpphoolaa.PFnExactCountReached
