/- The pure statement of the law FnExactPayBackYear, and what its parameters are like: written by row.py. -/
import Derived.Test.YtmbiapefigcgnaaPFnExactPayBackYearx10
namespace Go.Proofs.Ytmbiapefigcgnaa.PFnExactPayBackYear
open Go.RowKit Go.Proofs.YtmbiapefigcgnaaW.PrintWords
def wfS80 (x : S80) : Prop := (x.f0.size ≤ 140737488351232) ∧ ((Lit.int .i64 x.f1).wf = true) ∧ ((Lit.int .i64 x.f2).wf = true) ∧ (x.f3.length ≤ maxLen ∧ x.f3.length * 16 ≤ 140737488351232 ∧ ∀ e0 ∈ x.f3, e0.size ≤ 140737488351232)
def Pure : Prop := ∀ (x0 : List S80) (x1 : List Int) (x2 : Int), (x0.length ≤ maxLen ∧ x0.length * 56 ≤ 140737488351232 ∧ ∀ e0 ∈ x0, wfS80 e0) → (x1.length ≤ maxLen ∧ x1.length * 8 ≤ 140737488351232 ∧ ∀ e0 ∈ x1, (Lit.int .i64 e0).wf = true) → ((Lit.int .i64 x2).wf = true) → ∃ k, laws_FnExactPayBackYear.f k x0 x1 x2 = some true
end Go.Proofs.Ytmbiapefigcgnaa.PFnExactPayBackYear
