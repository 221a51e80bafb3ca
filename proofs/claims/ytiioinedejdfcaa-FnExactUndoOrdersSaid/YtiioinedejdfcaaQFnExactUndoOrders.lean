/- The pure statement of the law FnExactUndoOrders, and what its parameters are like: written by row.py. -/
import Derived.Test.YtiioinedejdfcaaPFnExactUndoOrdersx3
namespace Go.Proofs.Ytiioinedejdfcaa.PFnExactUndoOrders
open Go.RowKit Go.Proofs.YtiioinedejdfcaaW.PrintWords
def Pure : Prop := ∀ (x0 : List Int), (x0.length ≤ maxLen ∧ x0.length * 8 ≤ 140737488351232 ∧ ∀ e0 ∈ x0, (Lit.int .i64 e0).wf = true) → ∃ k, laws_FnExactUndoOrders.f k x0 = some true
end Go.Proofs.Ytiioinedejdfcaa.PFnExactUndoOrders
