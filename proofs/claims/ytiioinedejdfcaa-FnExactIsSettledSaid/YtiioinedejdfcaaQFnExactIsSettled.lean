/- The pure statement of the law FnExactIsSettled, and what its parameters are like: written by row.py. -/
import Derived.Test.YtiioinedejdfcaaPFnExactIsSettledx5
namespace Go.Proofs.Ytiioinedejdfcaa.PFnExactIsSettled
open Go.RowKit Go.Proofs.YtiioinedejdfcaaW.PrintWords
def wfS158 (x : S158) : Prop := (x.f0.size ≤ 140737488351232) ∧ ((Lit.int .i64 x.f1).wf = true) ∧ ((Lit.int .i64 x.f2).wf = true)
def Pure : Prop := ∀ (x0 : List S158), (x0.length ≤ maxLen ∧ x0.length * 32 ≤ 140737488351232 ∧ ∀ e0 ∈ x0, wfS158 e0) → ∃ k, laws_FnExactIsSettled.f k x0 = some true
end Go.Proofs.Ytiioinedejdfcaa.PFnExactIsSettled
