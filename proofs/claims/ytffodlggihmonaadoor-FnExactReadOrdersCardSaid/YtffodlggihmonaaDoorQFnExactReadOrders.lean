/- The pure statement of the law FnExactReadOrders, and what its parameters are like: written by row.py. -/
import Derived.Test.YtffodlggihmonaaDoorPFnExactReadOrdersx5
namespace Go.Proofs.YtffodlggihmonaaDoor.PFnExactReadOrders
open Go.RowKit Go.Proofs.YtffodlggihmonaaDoorW.PrintWords
def Pure : Prop := ∀ (x0 : ByteArray), (x0.size ≤ 140737488351232) → ∃ k, laws_FnExactReadOrders.f k x0 = some true
end Go.Proofs.YtffodlggihmonaaDoor.PFnExactReadOrders
