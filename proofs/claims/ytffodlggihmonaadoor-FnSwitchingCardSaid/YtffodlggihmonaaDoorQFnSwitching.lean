/- The pure statement of the law FnSwitching, and what its parameters are like: written by row.py. -/
import Derived.Test.YtffodlggihmonaaDoorPFnSwitchingx12
namespace Go.Proofs.YtffodlggihmonaaDoor.PFnSwitching
open Go.RowKit Go.Proofs.YtffodlggihmonaaDoorW.PrintWords
def Pure : Prop := ∀ (x0 : List Int) (x1 : List Int), (x0.length ≤ maxLen ∧ x0.length * 1 ≤ 140737488351232 ∧ ∀ e0 ∈ x0, (Lit.int .u8 e0).wf = true) → (x1.length ≤ maxLen ∧ x1.length * 1 ≤ 140737488351232 ∧ ∀ e0 ∈ x1, (Lit.int .u8 e0).wf = true) → ∃ k, laws_FnSwitching.f k x0 x1 = some true
end Go.Proofs.YtffodlggihmonaaDoor.PFnSwitching
