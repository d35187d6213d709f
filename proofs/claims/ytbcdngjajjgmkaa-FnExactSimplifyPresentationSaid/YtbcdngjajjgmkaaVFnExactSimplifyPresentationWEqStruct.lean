/- Out of the words of the kit's print: those that this claim uses. -/
import Derived.Test.YtbcdngjajjgmkaaVFnExactSimplifyPresentationWWords
import Derived.Laws.StructEq
/-! ### 53. '==' of structs as_ one Bool -/
namespace Go.Proofs.YtbcdngjajjgmkaaW.PrintWords
open Go.RowKit
section
variable {P : Program} {d : Nat} {xs ys : Array Value} {f : Field} {fs : List Field} {a b : Value} {r s : Bool} {w : World}
end
end Go.Proofs.YtbcdngjajjgmkaaW.PrintWords
