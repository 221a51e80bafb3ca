/- The pure statement of the law FnExactRunOrders, and what its parameters are like: written by row.py. -/
import Derived.Test.YtnmehknpphoolaaPFnExactRunOrdersx7
namespace Go.Proofs.Ytnmehknpphoolaa.PFnExactRunOrders
open Go.RowKit Go.Proofs.YtnmehknpphoolaaW.PrintWords
def wfS93 (x : S93) : Prop := ((Lit.int .i64 x.f0).wf = true) ∧ ((Lit.int .i64 x.f1).wf = true) ∧ ((Lit.int .i64 x.f2).wf = true)
def Pure : Prop := ∀ (x0 : List Bool) (x1 : List Int) (x2 : List S93), (x0.length ≤ maxLen ∧ x0.length * 1 ≤ 140737488351232 ∧ ∀ e0 ∈ x0, True) → (x1.length ≤ maxLen ∧ x1.length * 8 ≤ 140737488351232 ∧ ∀ e0 ∈ x1, (Lit.int .i64 e0).wf = true) → (x2.length ≤ maxLen ∧ x2.length * 24 ≤ 140737488351232 ∧ ∀ e0 ∈ x2, wfS93 e0) → ∃ k, laws_FnExactRunOrders.f k x0 x1 x2 = some true
end Go.Proofs.Ytnmehknpphoolaa.PFnExactRunOrders
