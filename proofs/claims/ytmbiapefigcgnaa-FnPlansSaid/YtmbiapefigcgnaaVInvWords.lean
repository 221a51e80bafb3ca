import Derived.Test.YtmbiapefigcgnaaVInv
import Derived.Test.YtmbiapefigcgnaaVFootNe
namespace Go.Proofs.YtmbiapefigcgnaaW.PrintWords
open Go.RowKit
end Go.Proofs.YtmbiapefigcgnaaW.PrintWords
namespace Go.Proofs.YtmbiapefigcgnaaW.PrintLast
section
variable {ops : Array Oper} {a : Act} {o og : Oper} {g : Nat} {t : Tmp} {u : Bool}
end
end Go.Proofs.YtmbiapefigcgnaaW.PrintLast
