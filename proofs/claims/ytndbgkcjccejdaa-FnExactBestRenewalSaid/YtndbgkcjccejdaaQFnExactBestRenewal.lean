/- The pure statement of the law FnExactBestRenewal, and what its parameters are like: written by row.py. -/
import Derived.Test.YtndbgkcjccejdaaPFnExactBestRenewalx13
namespace Go.Proofs.Ytndbgkcjccejdaa.PFnExactBestRenewal
open Go.RowKit Go.Proofs.YtndbgkcjccejdaaW.PrintWords
def wfS142 (x : S142) : Prop := (x.f0.size ≤ 140737488351232) ∧ ((Lit.int .i64 x.f1).wf = true) ∧ ((Lit.int .i64 x.f2).wf = true) ∧ ((Lit.int .i64 x.f3).wf = true) ∧ ((Lit.int .i64 x.f4).wf = true) ∧ ((Lit.int .i64 x.f5).wf = true)
def wfS54 (x : S54) : Prop := (x.f0.length ≤ maxLen ∧ x.f0.length * 8 ≤ 140737488351232 ∧ ∀ e0 ∈ x.f0, (Lit.int .i64 e0).wf = true) ∧ (x.f1.length ≤ maxLen ∧ x.f1.length * 56 ≤ 140737488351232 ∧ ∀ e0 ∈ x.f1, wfS142 e0)
def Pure : Prop := ∀ (x0 : S54) (x1 : List Int) (x2 : Int) (x3 : Int) (x4 : Int) (x5 : Int) (x6 : Int), (wfS54 x0) → (x1.length ≤ maxLen ∧ x1.length * 8 ≤ 140737488351232 ∧ ∀ e0 ∈ x1, (Lit.int .i64 e0).wf = true) → ((Lit.int .i64 x2).wf = true) → ((Lit.int .i64 x3).wf = true) → ((Lit.int .i64 x4).wf = true) → ((Lit.int .i64 x5).wf = true) → ((Lit.int .i64 x6).wf = true) → ∃ k, laws_FnExactBestRenewal.f k x0.f0 x0.f1 x1 x2 x3 x4 x5 x6 = some true
end Go.Proofs.Ytndbgkcjccejdaa.PFnExactBestRenewal
