/- The pure statement of the law FnExactLoadOf, and what its parameters are like: written by row.py. -/
import Derived.Test.YtkpjhohkopgdfaaPFnExactLoadOfx5
namespace Go.Proofs.Ytkpjhohkopgdfaa.PFnExactLoadOf
open Go.RowKit Go.Proofs.YtkpjhohkopgdfaaW.PrintWords
def wfS48 (x : S48) : Prop := (x.f0.size ≤ 140737488351232) ∧ ((Lit.int .i64 x.f1).wf = true) ∧ ((Lit.int .i64 x.f2).wf = true) ∧ ((Lit.int .i64 x.f3).wf = true) ∧ ((Lit.int .i64 x.f4).wf = true) ∧ (x.f5.length ≤ maxLen ∧ x.f5.length * 8 ≤ 140737488351232 ∧ ∀ e0 ∈ x.f5, (Lit.int .i64 e0).wf = true)
def Pure : Prop := ∀ (x0 : S48) (x1 : Int) (x2 : Int), (wfS48 x0) → ((Lit.int .i64 x1).wf = true) → ((Lit.int .i64 x2).wf = true) → ∃ k, laws_FnExactLoadOf.f k x0.f0 x0.f1 x0.f2 x0.f3 x0.f4 x0.f5 x1 x2 = some true
end Go.Proofs.Ytkpjhohkopgdfaa.PFnExactLoadOf
