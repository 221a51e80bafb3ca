/- The pure statement of the law FnExactBrokenRules, and what its parameters are like: written by row.py. -/
import Derived.Test.YtkpjhohkopgdfaaPFnExactBrokenRulesx5
namespace Go.Proofs.Ytkpjhohkopgdfaa.PFnExactBrokenRules
open Go.RowKit Go.Proofs.YtkpjhohkopgdfaaW.PrintWords
def wfS91 (x : S91) : Prop := ((Lit.int .i64 x.f0).wf = true) ∧ ((Lit.int .i64 x.f1).wf = true) ∧ ((Lit.int .i64 x.f2).wf = true)
def Pure : Prop := ∀ (x0 : List Bool) (x1 : List S91), (x0.length ≤ maxLen ∧ x0.length * 1 ≤ 140737488351232 ∧ ∀ e0 ∈ x0, True) → (x1.length ≤ maxLen ∧ x1.length * 24 ≤ 140737488351232 ∧ ∀ e0 ∈ x1, wfS91 e0) → ∃ k, laws_FnExactBrokenRules.f k x0 x1 = some true
end Go.Proofs.Ytkpjhohkopgdfaa.PFnExactBrokenRules
