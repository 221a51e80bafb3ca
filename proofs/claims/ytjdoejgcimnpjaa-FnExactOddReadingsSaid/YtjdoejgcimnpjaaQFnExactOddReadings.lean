/- The pure statement of the law FnExactOddReadings, and what its parameters are like: written by row.py. -/
import Derived.Test.YtjdoejgcimnpjaaPFnExactOddReadingsx8
namespace Go.Proofs.Ytjdoejgcimnpjaa.PFnExactOddReadings
open Go.RowKit Go.Proofs.YtjdoejgcimnpjaaW.PrintWords
def wfS112 (x : S112) : Prop := ((Lit.int .i64 x.f0).wf = true) ∧ ((Lit.int .i64 x.f1).wf = true)
def Pure : Prop := ∀ (x0 : List S112) (x1 : Int), (x0.length ≤ maxLen ∧ x0.length * 16 ≤ 140737488351232 ∧ ∀ e0 ∈ x0, wfS112 e0) → ((Lit.int .i64 x1).wf = true) → ∃ k, laws_FnExactOddReadings.f k x0 x1 = some true
end Go.Proofs.Ytjdoejgcimnpjaa.PFnExactOddReadings
