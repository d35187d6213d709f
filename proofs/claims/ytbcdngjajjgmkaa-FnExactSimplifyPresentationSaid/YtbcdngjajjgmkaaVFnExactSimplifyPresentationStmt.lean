/- The one plain statement that is left of the law FnExactSimplifyPresentation. -/
import Derived.Test.YtbcdngjajjgmkaaVFnExactSimplifyPresentationPx19
namespace Go.Proofs.Ytbcdngjajjgmkaa.PFnExactSimplifyPresentation
open Go.RowKit Go.Proofs.YtbcdngjajjgmkaaW.PrintWords Go.Proofs.YtbcdngjajjgmkaaW.PrintLast
def laws_FnExactSimplifyPresentation.Pure : Prop := ∀ (a0_0 : Int) (l0_1 : List (List Int)), (Lit.int .i64 a0_0).wf = true → l0_1.length ≤ maxLen → (∀ r ∈ l0_1, r.length ≤ maxLen ∧ ∀ x ∈ r, (Lit.int .i64 x).wf = true) → ∃ k, laws_FnExactSimplifyPresentation.f k a0_0 l0_1 = some true
end Go.Proofs.Ytbcdngjajjgmkaa.PFnExactSimplifyPresentation
