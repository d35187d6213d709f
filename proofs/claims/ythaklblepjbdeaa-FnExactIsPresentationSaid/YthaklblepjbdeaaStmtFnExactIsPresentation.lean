/- The one plain statement that is left of the law FnExactIsPresentation. -/
import Derived.Test.YthaklblepjbdeaaPFnExactIsPresentationx5
namespace Go.Proofs.Ythaklblepjbdeaa.PFnExactIsPresentation
open Go.RowKit Go.Proofs.YthaklblepjbdeaaW.PrintWords Go.Proofs.YthaklblepjbdeaaW.PrintLast
def laws_FnExactIsPresentation.Pure : Prop := ∀ (a0_0 : Int) (l0_1 : List (List Int)), (Lit.int .i64 a0_0).wf = true → l0_1.length ≤ maxLen → (∀ r ∈ l0_1, r.length ≤ maxLen ∧ ∀ x ∈ r, (Lit.int .i64 x).wf = true) → ∃ k, laws_FnExactIsPresentation.f k a0_0 l0_1 = some true
end Go.Proofs.Ythaklblepjbdeaa.PFnExactIsPresentation
