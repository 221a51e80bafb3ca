import Derived.Test.YtffodlggihmonaaDoorVInv
import Derived.Test.YtffodlggihmonaaDoorVFootNe
namespace Go.Proofs.YtffodlggihmonaaDoorW.PrintWords
open Go.RowKit
end Go.Proofs.YtffodlggihmonaaDoorW.PrintWords
namespace Go.Proofs.YtffodlggihmonaaDoorW.PrintLast
section
variable {ops : Array Oper} {a : Act} {o og : Oper} {g : Nat} {t : Tmp} {u : Bool}
end
end Go.Proofs.YtffodlggihmonaaDoorW.PrintLast
