/- The pure statement of the law FnExactLeastRest, and what its parameters are like: written by row.py. -/
import Derived.Test.YtkpjhohkopgdfaaPFnExactLeastRestx7
namespace Go.Proofs.Ytkpjhohkopgdfaa.PFnExactLeastRest
open Go.RowKit Go.Proofs.YtkpjhohkopgdfaaW.PrintWords
def wfS127 (x : S127) : Prop := (x.f0.size ≤ 140737488351232) ∧ ((Lit.int .i64 x.f1).wf = true) ∧ ((Lit.int .i64 x.f2).wf = true) ∧ (True)
def Pure : Prop := ∀ (x0 : List S127) (x1 : ByteArray), (x0.length ≤ maxLen ∧ x0.length * 40 ≤ 140737488351232 ∧ ∀ e0 ∈ x0, wfS127 e0) → (x1.size ≤ 140737488351232) → ∃ k, laws_FnExactLeastRest.f k x0 x1 = some true
end Go.Proofs.Ytkpjhohkopgdfaa.PFnExactLeastRest
