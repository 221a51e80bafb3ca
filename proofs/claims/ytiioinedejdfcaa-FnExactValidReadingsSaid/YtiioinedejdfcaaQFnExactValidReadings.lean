/- The pure statement of the law FnExactValidReadings, and what its parameters are like: written by row.py. -/
import Derived.Test.YtiioinedejdfcaaPFnExactValidReadingsx5
namespace Go.Proofs.Ytiioinedejdfcaa.PFnExactValidReadings
open Go.RowKit Go.Proofs.YtiioinedejdfcaaW.PrintWords
def wfS111 (x : S111) : Prop := ((Lit.int .i64 x.f0).wf = true) ∧ ((Lit.int .i64 x.f1).wf = true)
def Pure : Prop := ∀ (x0 : List S111), (x0.length ≤ maxLen ∧ x0.length * 16 ≤ 140737488351232 ∧ ∀ e0 ∈ x0, wfS111 e0) → ∃ k, laws_FnExactValidReadings.f k x0 = some true
end Go.Proofs.Ytiioinedejdfcaa.PFnExactValidReadings
