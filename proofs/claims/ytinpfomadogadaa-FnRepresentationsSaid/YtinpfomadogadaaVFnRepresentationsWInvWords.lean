/- Out of the words of the kit's print: those that this claim uses. -/
import Derived.Test.YtinpfomadogadaaVFnRepresentationsWInv
import Derived.Test.YtinpfomadogadaaVFnRepresentationsWFootNe
namespace Go.Proofs.YtinpfomadogadaaW.PrintWords
open Go.RowKit
end Go.Proofs.YtinpfomadogadaaW.PrintWords
namespace Go.Proofs.YtinpfomadogadaaW.PrintLast
section
variable {ops : Array Oper} {a : Act} {o og : Oper} {g : Nat} {t : Tmp} {u : Bool}
end
end Go.Proofs.YtinpfomadogadaaW.PrintLast
