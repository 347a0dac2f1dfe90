import Derived.Test.YteckcjjkblkfkaaWInv
import Derived.Test.YteckcjjkblkfkaaWFootNe
namespace Go.Proofs.YteckcjjkblkfkaaW.PrintWords
open Go.RowKit
end Go.Proofs.YteckcjjkblkfkaaW.PrintWords
namespace Go.Proofs.YteckcjjkblkfkaaW.PrintLast
section
variable {ops : Array Oper} {a : Act} {o og : Oper} {g : Nat} {t : Tmp} {u : Bool}
end
end Go.Proofs.YteckcjjkblkfkaaW.PrintLast
