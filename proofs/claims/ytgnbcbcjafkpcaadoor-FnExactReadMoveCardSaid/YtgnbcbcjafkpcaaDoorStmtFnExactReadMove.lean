/- The one plain statement that is left of the law FnExactReadMove. -/
import Derived.Test.YtgnbcbcjafkpcaaDoorPFnExactReadMovex5
namespace Go.Proofs.YtgnbcbcjafkpcaaDoor.PFnExactReadMove
open Go.RowKit Go.Proofs.YtgnbcbcjafkpcaaDoorW.PrintWords Go.Proofs.YtgnbcbcjafkpcaaDoorW.PrintLast
def laws_FnExactReadMove.PureD : Prop := ∀ (a0 : ByteArray), a0.size ≤ maxLen → ∃ k, laws_FnExactReadMove.f k a0 = some true
end Go.Proofs.YtgnbcbcjafkpcaaDoor.PFnExactReadMove
