/- The pure statement of the law FnExactPowersOf, and what its parameters are like: written by row.py. -/
import Derived.Test.YtjdoejgcimnpjaaPFnExactPowersOfx8
namespace Go.Proofs.Ytjdoejgcimnpjaa.PFnExactPowersOf
open Go.RowKit Go.Proofs.YtjdoejgcimnpjaaW.PrintWords
def wfS112 (x : S112) : Prop := ((Lit.int .i64 x.f0).wf = true) ∧ ((Lit.int .i64 x.f1).wf = true)
def Pure : Prop := ∀ (x0 : List S112), (x0.length ≤ maxLen ∧ x0.length * 16 ≤ 140737488351232 ∧ ∀ e0 ∈ x0, wfS112 e0) → ∃ k, laws_FnExactPowersOf.f k x0 = some true
end Go.Proofs.Ytjdoejgcimnpjaa.PFnExactPowersOf
