/- Out of the words of the kit's print: those that this claim uses. -/
import Derived.Test.YtbcdngjajjgmkaaVFnExactSimplifyPresentationWInv
import Derived.Test.YtbcdngjajjgmkaaVFnExactSimplifyPresentationWFootNe
namespace Go.Proofs.YtbcdngjajjgmkaaW.PrintWords
open Go.RowKit
end Go.Proofs.YtbcdngjajjgmkaaW.PrintWords
namespace Go.Proofs.YtbcdngjajjgmkaaW.PrintLast
section
variable {ops : Array Oper} {a : Act} {o og : Oper} {g : Nat} {t : Tmp} {u : Bool}
end
end Go.Proofs.YtbcdngjajjgmkaaW.PrintLast
