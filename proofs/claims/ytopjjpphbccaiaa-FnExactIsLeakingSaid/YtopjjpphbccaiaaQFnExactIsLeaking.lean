/- The pure statement of the law FnExactIsLeaking, and what its parameters are like: written by row.py. -/
import Derived.Test.YtopjjpphbccaiaaPFnExactIsLeakingx4
namespace Go.Proofs.Ytopjjpphbccaiaa.PFnExactIsLeaking
open Go.RowKit Go.Proofs.YtopjjpphbccaiaaW.PrintWords
def wfS34 (x : S34) : Prop := (x.f0.size ≤ 140737488351232) ∧ ((Lit.int .i64 x.f1).wf = true) ∧ ((Lit.int .i64 x.f2).wf = true)
def Pure : Prop := ∀ (x0 : List S34) (x1 : List S34), (x0.length ≤ maxLen ∧ x0.length * 32 ≤ 140737488351232 ∧ ∀ e0 ∈ x0, wfS34 e0) → (x1.length ≤ maxLen ∧ x1.length * 32 ≤ 140737488351232 ∧ ∀ e0 ∈ x1, wfS34 e0) → ∃ k, laws_FnExactIsLeaking.f k x0 x1 = some true
end Go.Proofs.Ytopjjpphbccaiaa.PFnExactIsLeaking
