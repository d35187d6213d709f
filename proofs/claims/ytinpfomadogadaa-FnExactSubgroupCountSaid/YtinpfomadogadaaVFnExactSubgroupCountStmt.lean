/- The one plain statement that is left of the law FnExactSubgroupCount. -/
import Derived.Test.YtinpfomadogadaaVFnExactSubgroupCountPx15
namespace Go.Proofs.Ytinpfomadogadaa.PFnExactSubgroupCount
open Go.RowKit Go.Proofs.YtinpfomadogadaaW.PrintWords Go.Proofs.YtinpfomadogadaaW.PrintLast
def laws_FnExactSubgroupCount.Pure : Prop := ∀ (a0_0 : Int) (l0_1 : List (List Int)) (a1 : Int), (Lit.int .i64 a0_0).wf = true → l0_1.length ≤ maxLen → (∀ r ∈ l0_1, r.length ≤ maxLen ∧ ∀ x ∈ r, (Lit.int .i64 x).wf = true) → (Lit.int .i64 a1).wf = true → ∃ k, laws_FnExactSubgroupCount.f k a0_0 l0_1 a1 = some true
end Go.Proofs.Ytinpfomadogadaa.PFnExactSubgroupCount
