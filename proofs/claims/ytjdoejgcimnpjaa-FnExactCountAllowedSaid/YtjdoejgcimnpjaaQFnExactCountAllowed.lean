/- The pure statement of the law FnExactCountAllowed, and what its parameters are like: written by row.py. -/
import Derived.Test.YtjdoejgcimnpjaaPFnExactCountAllowedx3
namespace Go.Proofs.Ytjdoejgcimnpjaa.PFnExactCountAllowed
open Go.RowKit Go.Proofs.YtjdoejgcimnpjaaW.PrintWords
def wfS103 (x : S103) : Prop := ((Lit.int .i64 x.f0).wf = true) ∧ ((Lit.int .i64 x.f1).wf = true) ∧ ((Lit.int .i64 x.f2).wf = true)
def Pure : Prop := ∀ (x0 : Int) (x1 : List S103), ((Lit.int .i64 x0).wf = true) → (x1.length ≤ maxLen ∧ x1.length * 24 ≤ 140737488351232 ∧ ∀ e0 ∈ x1, wfS103 e0) → ∃ k, laws_FnExactCountAllowed.f k x0 x1 = some true
end Go.Proofs.Ytjdoejgcimnpjaa.PFnExactCountAllowed
