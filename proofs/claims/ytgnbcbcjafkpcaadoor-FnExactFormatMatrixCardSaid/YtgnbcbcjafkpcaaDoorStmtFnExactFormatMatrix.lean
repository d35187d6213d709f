/- The one plain statement that is left of the law FnExactFormatMatrix. -/
import Derived.Test.YtgnbcbcjafkpcaaDoorPFnExactFormatMatrixx4
namespace Go.Proofs.YtgnbcbcjafkpcaaDoor.PFnExactFormatMatrix
open Go.RowKit Go.Proofs.YtgnbcbcjafkpcaaDoorW.PrintWords Go.Proofs.YtgnbcbcjafkpcaaDoorW.PrintLast
def laws_FnExactFormatMatrix.Pure : Prop := ∀ (a0_0 : Int) (a0_1 : Int) (l0_2 : List Int), (Lit.int .i64 a0_0).wf = true → (Lit.int .i64 a0_1).wf = true → l0_2.length ≤ maxLen → (∀ x ∈ l0_2, (Lit.int .i64 x).wf = true) → ∃ k, laws_FnExactFormatMatrix.f k a0_0 a0_1 l0_2 = some true
end Go.Proofs.YtgnbcbcjafkpcaaDoor.PFnExactFormatMatrix
