/- The pure statement of the law FnExactReserveOf, and what its parameters are like: written by row.py. -/
import Derived.Test.YtjodigojpjmdcaaPFnExactReserveOfx6
namespace Go.Proofs.Ytjodigojpjmdcaa.PFnExactReserveOf
open Go.RowKit Go.Proofs.YtjodigojpjmdcaaW.PrintWords
def wfS66 (x : S66) : Prop := (x.f0.size ≤ 140737488351232) ∧ ((Lit.int .i64 x.f1).wf = true) ∧ ((Lit.int .i64 x.f2).wf = true) ∧ ((Lit.int .i64 x.f3).wf = true) ∧ ((Lit.int .i64 x.f4).wf = true) ∧ ((Lit.int .i64 x.f5).wf = true) ∧ ((Lit.int .i64 x.f6).wf = true)
def Pure : Prop := ∀ (x0 : List S66) (x1 : List Bool) (x2 : Int), (x0.length ≤ maxLen ∧ x0.length * 64 ≤ 140737488351232 ∧ ∀ e0 ∈ x0, wfS66 e0) → (x1.length ≤ maxLen ∧ x1.length * 1 ≤ 140737488351232 ∧ ∀ e0 ∈ x1, True) → ((Lit.int .i64 x2).wf = true) → ∃ k, laws_FnExactReserveOf.f k x0 x1 x2 = some true
end Go.Proofs.Ytjodigojpjmdcaa.PFnExactReserveOf
