/- The pure statement of the law FnExactSameState, and what its parameters are like: written by row.py. -/
import Derived.Test.YtiioinedejdfcaaPFnExactSameStatex3
namespace Go.Proofs.Ytiioinedejdfcaa.PFnExactSameState
open Go.RowKit Go.Proofs.YtiioinedejdfcaaW.PrintWords
def wfS116 (x : S116) : Prop := (x.f0.size ≤ 140737488351232) ∧ ((Lit.int .i64 x.f1).wf = true)
def Pure : Prop := ∀ (x0 : List S116) (x1 : List S116), (x0.length ≤ maxLen ∧ x0.length * 24 ≤ 140737488351232 ∧ ∀ e0 ∈ x0, wfS116 e0) → (x1.length ≤ maxLen ∧ x1.length * 24 ≤ 140737488351232 ∧ ∀ e0 ∈ x1, wfS116 e0) → ∃ k, laws_FnExactSameState.f k x0 x1 = some true
end Go.Proofs.Ytiioinedejdfcaa.PFnExactSameState
