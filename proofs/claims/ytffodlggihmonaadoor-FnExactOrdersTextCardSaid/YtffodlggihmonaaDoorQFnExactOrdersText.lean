/- The pure statement of the law FnExactOrdersText, and what its parameters are like: written by row.py. -/
import Derived.Test.YtffodlggihmonaaDoorPFnExactOrdersTextx3
namespace Go.Proofs.YtffodlggihmonaaDoor.PFnExactOrdersText
open Go.RowKit Go.Proofs.YtffodlggihmonaaDoorW.PrintWords
def Pure : Prop := ∀ (x0 : List Int), (x0.length ≤ maxLen ∧ x0.length * 8 ≤ 140737488351232 ∧ ∀ e0 ∈ x0, (Lit.int .i64 e0).wf = true) → ∃ k, laws_FnExactOrdersText.f k x0 = some true
end Go.Proofs.YtffodlggihmonaaDoor.PFnExactOrdersText
