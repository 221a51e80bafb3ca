/- The pure statement of the law FnExactValidState, and what its parameters are like: written by row.py. -/
import Derived.Test.YtiioinedejdfcaaPFnExactValidStatex5
namespace Go.Proofs.Ytiioinedejdfcaa.PFnExactValidState
open Go.RowKit Go.Proofs.YtiioinedejdfcaaW.PrintWords
def wfS116 (x : S116) : Prop := (x.f0.size ≤ 140737488351232) ∧ ((Lit.int .i64 x.f1).wf = true)
def Pure : Prop := ∀ (x0 : List S116), (x0.length ≤ maxLen ∧ x0.length * 24 ≤ 140737488351232 ∧ ∀ e0 ∈ x0, wfS116 e0) → ∃ k, laws_FnExactValidState.f k x0 = some true
end Go.Proofs.Ytiioinedejdfcaa.PFnExactValidState
