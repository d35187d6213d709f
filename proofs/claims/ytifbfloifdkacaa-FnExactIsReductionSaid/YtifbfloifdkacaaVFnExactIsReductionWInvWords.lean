/- Out of the words of the kit's print: those that this claim uses. -/
import Derived.Test.YtifbfloifdkacaaVFnExactIsReductionWInv
import Derived.Test.YtifbfloifdkacaaVFnExactIsReductionWFootNe
namespace Go.Proofs.YtifbfloifdkacaaW.PrintWords
open Go.RowKit
end Go.Proofs.YtifbfloifdkacaaW.PrintWords
namespace Go.Proofs.YtifbfloifdkacaaW.PrintLast
section
variable {ops : Array Oper} {a : Act} {o og : Oper} {g : Nat} {t : Tmp} {u : Bool}
end
end Go.Proofs.YtifbfloifdkacaaW.PrintLast
