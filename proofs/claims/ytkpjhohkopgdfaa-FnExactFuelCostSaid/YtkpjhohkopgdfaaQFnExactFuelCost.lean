/- The pure statement of the law FnExactFuelCost, and what its parameters are like: written by row.py. -/
import Derived.Test.YtkpjhohkopgdfaaPFnExactFuelCostx6
namespace Go.Proofs.Ytkpjhohkopgdfaa.PFnExactFuelCost
open Go.RowKit Go.Proofs.YtkpjhohkopgdfaaW.PrintWords
def wfS98 (x : S98) : Prop := (x.f0.size ≤ 140737488351232) ∧ ((Lit.int .i64 x.f1).wf = true) ∧ ((Lit.int .i64 x.f2).wf = true) ∧ ((Lit.int .i64 x.f3).wf = true)
def Pure : Prop := ∀ (x0 : List S98) (x1 : List Int), (x0.length ≤ maxLen ∧ x0.length * 40 ≤ 140737488351232 ∧ ∀ e0 ∈ x0, wfS98 e0) → (x1.length ≤ maxLen ∧ x1.length * 8 ≤ 140737488351232 ∧ ∀ e0 ∈ x1, (Lit.int .i64 e0).wf = true) → ∃ k, laws_FnExactFuelCost.f k x0 x1 = some true
end Go.Proofs.Ytkpjhohkopgdfaa.PFnExactFuelCost
