/- The one plain statement that is left of the law FnExactFormatLaurent. -/
import Derived.Test.YtgnbcbcjafkpcaaDoorPFnExactFormatLaurentx3
namespace Go.Proofs.YtgnbcbcjafkpcaaDoor.PFnExactFormatLaurent
open Go.RowKit Go.Proofs.YtgnbcbcjafkpcaaDoorW.PrintWords Go.Proofs.YtgnbcbcjafkpcaaDoorW.PrintLast
def laws_FnExactFormatLaurent.Pure : Prop := ∀ (a0_0 : Int) (l0_1 : List Int), (Lit.int .i64 a0_0).wf = true → l0_1.length ≤ maxLen → (∀ x ∈ l0_1, (Lit.int .i64 x).wf = true) → ∃ k, laws_FnExactFormatLaurent.f k a0_0 l0_1 = some true
end Go.Proofs.YtgnbcbcjafkpcaaDoor.PFnExactFormatLaurent
