/- The pure statement of the law FnExactCheapestPumps, and what its parameters are like: written by row.py. -/
import Derived.Test.YtndbgkcjccejdaaPFnExactCheapestPumpsx14
namespace Go.Proofs.Ytndbgkcjccejdaa.PFnExactCheapestPumps
open Go.RowKit Go.Proofs.YtndbgkcjccejdaaW.PrintWords
def wfS77 (x : S77) : Prop := (x.f0.size ≤ 140737488351232) ∧ (x.f1.length ≤ maxLen ∧ x.f1.length * 24 ≤ 140737488351232 ∧ ∀ e0 ∈ x.f1, e0.length ≤ maxLen ∧ e0.length * 8 ≤ 140737488351232 ∧ ∀ e1 ∈ e0, (Lit.int .i64 e1).wf = true)
def Pure : Prop := ∀ (x0 : List S77) (x1 : Int) (x2 : Int) (x3 : Int) (x4 : Int), (x0.length ≤ maxLen ∧ x0.length * 40 ≤ 140737488351232 ∧ ∀ e0 ∈ x0, wfS77 e0) → ((Lit.int .i64 x1).wf = true) → ((Lit.int .i64 x2).wf = true) → ((Lit.int .i64 x3).wf = true) → ((Lit.int .i64 x4).wf = true) → ∃ k, laws_FnExactCheapestPumps.f k x0 x1 x2 x3 x4 = some true
end Go.Proofs.Ytndbgkcjccejdaa.PFnExactCheapestPumps
