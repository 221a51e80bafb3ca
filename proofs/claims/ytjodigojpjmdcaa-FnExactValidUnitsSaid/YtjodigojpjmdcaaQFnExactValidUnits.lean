/- The pure statement of the law FnExactValidUnits, and what its parameters are like: written by row.py. -/
import Derived.Test.YtjodigojpjmdcaaPFnExactValidUnitsx5
namespace Go.Proofs.Ytjodigojpjmdcaa.PFnExactValidUnits
open Go.RowKit Go.Proofs.YtjodigojpjmdcaaW.PrintWords
def wfS66 (x : S66) : Prop := (x.f0.size ≤ 140737488351232) ∧ ((Lit.int .i64 x.f1).wf = true) ∧ ((Lit.int .i64 x.f2).wf = true) ∧ ((Lit.int .i64 x.f3).wf = true) ∧ ((Lit.int .i64 x.f4).wf = true) ∧ ((Lit.int .i64 x.f5).wf = true) ∧ ((Lit.int .i64 x.f6).wf = true)
def Pure : Prop := ∀ (x0 : List S66), (x0.length ≤ maxLen ∧ x0.length * 64 ≤ 140737488351232 ∧ ∀ e0 ∈ x0, wfS66 e0) → ∃ k, laws_FnExactValidUnits.f k x0 = some true
end Go.Proofs.Ytjodigojpjmdcaa.PFnExactValidUnits
