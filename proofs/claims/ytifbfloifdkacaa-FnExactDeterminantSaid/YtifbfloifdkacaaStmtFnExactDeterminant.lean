/- The one plain statement that is left of the law FnExactDeterminant. -/
import Derived.Test.YtifbfloifdkacaaPFnExactDeterminantx6
namespace Go.Proofs.Ytifbfloifdkacaa.PFnExactDeterminant
open Go.RowKit Go.Proofs.YtifbfloifdkacaaW.PrintWords Go.Proofs.YtifbfloifdkacaaW.PrintLast
def laws_FnExactDeterminant.Pure : Prop := ∀ (a0_0 : Int) (a0_1 : Int) (l0_2 : List Int), (Lit.int .i64 a0_0).wf = true → (Lit.int .i64 a0_1).wf = true → l0_2.length ≤ maxLen → (∀ x ∈ l0_2, (Lit.int .i64 x).wf = true) → ∃ k, laws_FnExactDeterminant.f k a0_0 a0_1 l0_2 = some true
end Go.Proofs.Ytifbfloifdkacaa.PFnExactDeterminant
