/- The pure statement of the law FnExactValidFuels, and what its parameters are like: written by row.py. -/
import Derived.Test.YtiioinedejdfcaaPFnExactValidFuelsx4
namespace Go.Proofs.Ytiioinedejdfcaa.PFnExactValidFuels
open Go.RowKit Go.Proofs.YtiioinedejdfcaaW.PrintWords
def wfS129 (x : S129) : Prop := (x.f0.size ≤ 140737488351232) ∧ ((Lit.int .i64 x.f1).wf = true) ∧ ((Lit.int .i64 x.f2).wf = true) ∧ ((Lit.int .i64 x.f3).wf = true)
def Pure : Prop := ∀ (x0 : List S129), (x0.length ≤ maxLen ∧ x0.length * 40 ≤ 140737488351232 ∧ ∀ e0 ∈ x0, wfS129 e0) → ∃ k, laws_FnExactValidFuels.f k x0 = some true
end Go.Proofs.Ytiioinedejdfcaa.PFnExactValidFuels
