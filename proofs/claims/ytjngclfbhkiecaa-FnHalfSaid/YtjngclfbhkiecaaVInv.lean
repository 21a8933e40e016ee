/- Words for walks: those that the texts beside it use. -/
import Derived.Test.YtjngclfbhkiecaaVTab
namespace Go.Proofs.YtjngclfbhkiecaaW.PrintLast
section
variable {P : Program} {ops : Array Oper} {Q : Exit → Act → World → Prop} {md : Region.Mode} {T : Bool × List (List Nat × List Nat)} {B : List Nat} {O : List Nat} {b : Nat → Bool} {i j n : Nat}
end
end Go.Proofs.YtjngclfbhkiecaaW.PrintLast
