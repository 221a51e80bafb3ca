/- The pure statement of the law FnExactValidRepairs, and what its parameters are like: written by row.py. -/
import Derived.Test.YtiioinedejdfcaaPFnExactValidRepairsx4
namespace Go.Proofs.Ytiioinedejdfcaa.PFnExactValidRepairs
open Go.RowKit Go.Proofs.YtiioinedejdfcaaW.PrintWords
def wfS152 (x : S152) : Prop := (x.f0.size ≤ 140737488351232) ∧ ((Lit.int .i64 x.f1).wf = true) ∧ ((Lit.int .i64 x.f2).wf = true) ∧ ((Lit.int .i64 x.f3).wf = true)
def Pure : Prop := ∀ (x0 : List S152), (x0.length ≤ maxLen ∧ x0.length * 40 ≤ 140737488351232 ∧ ∀ e0 ∈ x0, wfS152 e0) → ∃ k, laws_FnExactValidRepairs.f k x0 = some true
end Go.Proofs.Ytiioinedejdfcaa.PFnExactValidRepairs
