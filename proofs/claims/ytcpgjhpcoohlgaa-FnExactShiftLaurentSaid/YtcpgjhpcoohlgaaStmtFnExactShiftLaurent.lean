/- The one plain statement that is left of the law FnExactShiftLaurent. -/
import Derived.Test.YtcpgjhpcoohlgaaPFnExactShiftLaurentx5
namespace Go.Proofs.Ytcpgjhpcoohlgaa.PFnExactShiftLaurent
open Go.RowKit Go.Proofs.YtcpgjhpcoohlgaaW.PrintWords Go.Proofs.YtcpgjhpcoohlgaaW.PrintLast
def laws_FnExactShiftLaurent.Pure : Prop := ∀ (a0_0 : Int) (l0_1 : List Int) (a1 : Int), (Lit.int .i64 a0_0).wf = true → l0_1.length ≤ maxLen → (∀ x ∈ l0_1, (Lit.int .i64 x).wf = true) → (Lit.int .i64 a1).wf = true → ∃ k, laws_FnExactShiftLaurent.f k a0_0 l0_1 a1 = some true
end Go.Proofs.Ytcpgjhpcoohlgaa.PFnExactShiftLaurent
