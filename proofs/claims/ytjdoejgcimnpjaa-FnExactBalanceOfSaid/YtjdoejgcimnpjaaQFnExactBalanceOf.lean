/- The pure statement of the law FnExactBalanceOf, and what its parameters are like: written by row.py. -/
import Derived.Test.YtjdoejgcimnpjaaPFnExactBalanceOfx6
namespace Go.Proofs.Ytjdoejgcimnpjaa.PFnExactBalanceOf
open Go.RowKit Go.Proofs.YtjdoejgcimnpjaaW.PrintWords
def wfS145 (x : S145) : Prop := (x.f0.size ≤ 140737488351232) ∧ ((Lit.int .i64 x.f1).wf = true) ∧ ((Lit.int .i64 x.f2).wf = true)
def Pure : Prop := ∀ (x0 : List S145) (x1 : ByteArray) (x2 : Int), (x0.length ≤ maxLen ∧ x0.length * 32 ≤ 140737488351232 ∧ ∀ e0 ∈ x0, wfS145 e0) → (x1.size ≤ 140737488351232) → ((Lit.int .i64 x2).wf = true) → ∃ k, laws_FnExactBalanceOf.f k x0 x1 x2 = some true
end Go.Proofs.Ytjdoejgcimnpjaa.PFnExactBalanceOf
