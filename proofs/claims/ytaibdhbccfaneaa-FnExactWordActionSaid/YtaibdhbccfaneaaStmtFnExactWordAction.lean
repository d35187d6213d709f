/- The one plain statement that is left of the law FnExactWordAction. -/
import Derived.Test.YtaibdhbccfaneaaPFnExactWordActionx5
namespace Go.Proofs.Ytaibdhbccfaneaa.PFnExactWordAction
open Go.RowKit Go.Proofs.YtaibdhbccfaneaaW.PrintWords Go.Proofs.YtaibdhbccfaneaaW.PrintLast
def laws_FnExactWordAction.Pure : Prop := ∀ (a0 : Int) (l1 : List (List Int)) (l2 : List Int), (Lit.int .i64 a0).wf = true → l1.length ≤ maxLen → (∀ r ∈ l1, r.length ≤ maxLen ∧ ∀ x ∈ r, (Lit.int .i64 x).wf = true) → l2.length ≤ maxLen → (∀ x ∈ l2, (Lit.int .i64 x).wf = true) → ∃ k, laws_FnExactWordAction.f k a0 l1 l2 = some true
end Go.Proofs.Ytaibdhbccfaneaa.PFnExactWordAction
