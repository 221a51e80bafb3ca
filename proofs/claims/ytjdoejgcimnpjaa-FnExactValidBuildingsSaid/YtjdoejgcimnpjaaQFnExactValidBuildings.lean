/- The pure statement of the law FnExactValidBuildings, and what its parameters are like: written by row.py. -/
import Derived.Test.YtjdoejgcimnpjaaPFnExactValidBuildingsx6
namespace Go.Proofs.Ytjdoejgcimnpjaa.PFnExactValidBuildings
open Go.RowKit Go.Proofs.YtjdoejgcimnpjaaW.PrintWords
def wfS155 (x : S155) : Prop := (x.f0.size ≤ 140737488351232) ∧ ((Lit.int .i64 x.f1).wf = true) ∧ ((Lit.int .i64 x.f2).wf = true) ∧ ((Lit.int .i64 x.f3).wf = true) ∧ ((Lit.int .i64 x.f4).wf = true) ∧ (x.f5.length ≤ maxLen ∧ x.f5.length * 8 ≤ 140737488351232 ∧ ∀ e0 ∈ x.f5, (Lit.int .i64 e0).wf = true)
def Pure : Prop := ∀ (x0 : List S155), (x0.length ≤ maxLen ∧ x0.length * 72 ≤ 140737488351232 ∧ ∀ e0 ∈ x0, wfS155 e0) → ∃ k, laws_FnExactValidBuildings.f k x0 = some true
end Go.Proofs.Ytjdoejgcimnpjaa.PFnExactValidBuildings
