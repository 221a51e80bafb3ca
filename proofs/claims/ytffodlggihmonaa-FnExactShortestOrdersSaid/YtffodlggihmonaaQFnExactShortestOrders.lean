/- The pure statement of the law FnExactShortestOrders, and what its parameters are like: written by row.py. -/
import Derived.Test.YtffodlggihmonaaPFnExactShortestOrdersx9
namespace Go.Proofs.Ytffodlggihmonaa.PFnExactShortestOrders
open Go.RowKit Go.Proofs.YtffodlggihmonaaW.PrintWords
def wfS48 (x : S48) : Prop := ((Lit.int .i64 x.f0).wf = true) ∧ ((Lit.int .i64 x.f1).wf = true) ∧ ((Lit.int .i64 x.f2).wf = true)
def Pure : Prop := ∀ (x0 : List Bool) (x1 : List Bool) (x2 : List S48), (x0.length ≤ maxLen ∧ x0.length * 1 ≤ 140737488351232 ∧ ∀ e0 ∈ x0, True) → (x1.length ≤ maxLen ∧ x1.length * 1 ≤ 140737488351232 ∧ ∀ e0 ∈ x1, True) → (x2.length ≤ maxLen ∧ x2.length * 24 ≤ 140737488351232 ∧ ∀ e0 ∈ x2, wfS48 e0) → ∃ k, laws_FnExactShortestOrders.f k x0 x1 x2 = some true
end Go.Proofs.Ytffodlggihmonaa.PFnExactShortestOrders
