/- Words for walks: those that the texts beside it use. -/
import Derived.Test.YtjngclfbhkiecaaVInv
import Derived.Test.YtjngclfbhkiecaaVFootNe
namespace Go.Proofs.YtjngclfbhkiecaaW.PrintWords
open Go.RowKit
end Go.Proofs.YtjngclfbhkiecaaW.PrintWords
namespace Go.Proofs.YtjngclfbhkiecaaW.PrintLast
section
variable {ops : Array Oper} {a : Act} {o og : Oper} {g : Nat} {t : Tmp} {u : Bool}
end
end Go.Proofs.YtjngclfbhkiecaaW.PrintLast
