/- The pure statement of the law FnExactValidMeters, and what its parameters are like: written by row.py. -/
import Derived.Test.YtopjjpphbccaiaaPFnExactValidMetersx3
namespace Go.Proofs.Ytopjjpphbccaiaa.PFnExactValidMeters
open Go.RowKit Go.Proofs.YtopjjpphbccaiaaW.PrintWords
def wfS34 (x : S34) : Prop := (x.f0.size ≤ 140737488351232) ∧ ((Lit.int .i64 x.f1).wf = true) ∧ ((Lit.int .i64 x.f2).wf = true)
def Pure : Prop := ∀ (x0 : List S34), (x0.length ≤ maxLen ∧ x0.length * 32 ≤ 140737488351232 ∧ ∀ e0 ∈ x0, wfS34 e0) → ∃ k, laws_FnExactValidMeters.f k x0 = some true
end Go.Proofs.Ytopjjpphbccaiaa.PFnExactValidMeters
