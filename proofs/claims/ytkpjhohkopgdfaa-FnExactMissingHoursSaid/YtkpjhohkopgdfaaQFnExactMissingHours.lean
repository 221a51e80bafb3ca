/- The pure statement of the law FnExactMissingHours, and what its parameters are like: written by row.py. -/
import Derived.Test.YtkpjhohkopgdfaaPFnExactMissingHoursx7
namespace Go.Proofs.Ytkpjhohkopgdfaa.PFnExactMissingHours
open Go.RowKit Go.Proofs.YtkpjhohkopgdfaaW.PrintWords
def wfS115 (x : S115) : Prop := ((Lit.int .i64 x.f0).wf = true) ∧ ((Lit.int .i64 x.f1).wf = true)
def Pure : Prop := ∀ (x0 : List S115) (x1 : Int), (x0.length ≤ maxLen ∧ x0.length * 16 ≤ 140737488351232 ∧ ∀ e0 ∈ x0, wfS115 e0) → ((Lit.int .i64 x1).wf = true) → ∃ k, laws_FnExactMissingHours.f k x0 x1 = some true
end Go.Proofs.Ytkpjhohkopgdfaa.PFnExactMissingHours
