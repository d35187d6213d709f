/- The one plain statement that is left of the law FnExactParseMatrix. -/
import Derived.Test.YtgnbcbcjafkpcaaDoorPFnExactParseMatrixx5
namespace Go.Proofs.YtgnbcbcjafkpcaaDoor.PFnExactParseMatrix
open Go.RowKit Go.Proofs.YtgnbcbcjafkpcaaDoorW.PrintWords Go.Proofs.YtgnbcbcjafkpcaaDoorW.PrintLast
def laws_FnExactParseMatrix.PureD : Prop := ∀ (a0 : ByteArray), a0.size ≤ maxLen → ∃ k, laws_FnExactParseMatrix.f k a0 = some true
end Go.Proofs.YtgnbcbcjafkpcaaDoor.PFnExactParseMatrix
