/- The one plain statement that is left of the law FnExactUnitForm. -/
import Derived.Test.YtcpgjhpcoohlgaaPFnExactUnitFormx5
namespace Go.Proofs.Ytcpgjhpcoohlgaa.PFnExactUnitForm
open Go.RowKit Go.Proofs.YtcpgjhpcoohlgaaW.PrintWords Go.Proofs.YtcpgjhpcoohlgaaW.PrintLast
def laws_FnExactUnitForm.Pure : Prop := ∀ (a0_0 : Int) (l0_1 : List Int), (Lit.int .i64 a0_0).wf = true → l0_1.length ≤ maxLen → (∀ x ∈ l0_1, (Lit.int .i64 x).wf = true) → ∃ k, laws_FnExactUnitForm.f k a0_0 l0_1 = some true
end Go.Proofs.Ytcpgjhpcoohlgaa.PFnExactUnitForm
