/- The pure statement of the law FnExactBestPlan, and what its parameters are like: written by row.py. -/
import Derived.Test.YtmbiapefigcgnaaPFnExactBestPlanx11
namespace Go.Proofs.Ytmbiapefigcgnaa.PFnExactBestPlan
open Go.RowKit Go.Proofs.YtmbiapefigcgnaaW.PrintWords
def wfS80 (x : S80) : Prop := (x.f0.size ≤ 140737488351232) ∧ ((Lit.int .i64 x.f1).wf = true) ∧ ((Lit.int .i64 x.f2).wf = true) ∧ (x.f3.length ≤ maxLen ∧ x.f3.length * 16 ≤ 140737488351232 ∧ ∀ e0 ∈ x.f3, e0.size ≤ 140737488351232)
def Pure : Prop := ∀ (x0 : List S80) (x1 : Int) (x2 : Int) (x3 : Int), (x0.length ≤ maxLen ∧ x0.length * 56 ≤ 140737488351232 ∧ ∀ e0 ∈ x0, wfS80 e0) → ((Lit.int .i64 x1).wf = true) → ((Lit.int .i64 x2).wf = true) → ((Lit.int .i64 x3).wf = true) → ∃ k, laws_FnExactBestPlan.f k x0 x1 x2 x3 = some true
end Go.Proofs.Ytmbiapefigcgnaa.PFnExactBestPlan
