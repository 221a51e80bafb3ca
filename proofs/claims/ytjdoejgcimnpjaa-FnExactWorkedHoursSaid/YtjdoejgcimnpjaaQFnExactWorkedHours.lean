/- The pure statement of the law FnExactWorkedHours, and what its parameters are like: written by row.py. -/
import Derived.Test.YtjdoejgcimnpjaaPFnExactWorkedHoursx6
namespace Go.Proofs.Ytjdoejgcimnpjaa.PFnExactWorkedHours
open Go.RowKit Go.Proofs.YtjdoejgcimnpjaaW.PrintWords
def wfS116 (x : S116) : Prop := (x.f0.size ≤ 140737488351232) ∧ ((Lit.int .i64 x.f1).wf = true) ∧ ((Lit.int .i64 x.f2).wf = true) ∧ (True)
def Pure : Prop := ∀ (x0 : List S116) (x1 : ByteArray), (x0.length ≤ maxLen ∧ x0.length * 40 ≤ 140737488351232 ∧ ∀ e0 ∈ x0, wfS116 e0) → (x1.size ≤ 140737488351232) → ∃ k, laws_FnExactWorkedHours.f k x0 x1 = some true
end Go.Proofs.Ytjdoejgcimnpjaa.PFnExactWorkedHours
