import Derived.Test.YtndbgkcjccejdaaVInv
import Derived.Test.YtndbgkcjccejdaaVFootNe
namespace Go.Proofs.YtndbgkcjccejdaaW.PrintWords
open Go.RowKit
end Go.Proofs.YtndbgkcjccejdaaW.PrintWords
namespace Go.Proofs.YtndbgkcjccejdaaW.PrintLast
section
variable {ops : Array Oper} {a : Act} {o og : Oper} {g : Nat} {t : Tmp} {u : Bool}
end
end Go.Proofs.YtndbgkcjccejdaaW.PrintLast
