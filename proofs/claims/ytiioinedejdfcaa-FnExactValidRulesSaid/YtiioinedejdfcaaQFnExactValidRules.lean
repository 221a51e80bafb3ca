/- The pure statement of the law FnExactValidRules, and what its parameters are like: written by row.py. -/
import Derived.Test.YtiioinedejdfcaaPFnExactValidRulesx2
namespace Go.Proofs.Ytiioinedejdfcaa.PFnExactValidRules
open Go.RowKit Go.Proofs.YtiioinedejdfcaaW.PrintWords
def wfS105 (x : S105) : Prop := ((Lit.int .i64 x.f0).wf = true) ∧ ((Lit.int .i64 x.f1).wf = true) ∧ ((Lit.int .i64 x.f2).wf = true)
def Pure : Prop := ∀ (x0 : Int) (x1 : List S105), ((Lit.int .i64 x0).wf = true) → (x1.length ≤ maxLen ∧ x1.length * 24 ≤ 140737488351232 ∧ ∀ e0 ∈ x1, wfS105 e0) → ∃ k, laws_FnExactValidRules.f k x0 x1 = some true
end Go.Proofs.Ytiioinedejdfcaa.PFnExactValidRules
