/- The one plain statement that is left of the law FnExactStabilizerPresentation. -/
import Derived.Test.YtbcdngjajjgmkaaVFnExactStabilizerPresentationPx16
namespace Go.Proofs.Ytbcdngjajjgmkaa.PFnExactStabilizerPresentation
open Go.RowKit Go.Proofs.YtbcdngjajjgmkaaW.PrintWords Go.Proofs.YtbcdngjajjgmkaaW.PrintLast
def laws_FnExactStabilizerPresentation.Pure : Prop := ∀ (a0_0 : Int) (l0_1 : List (List Int)) (a1 : Int) (l2 : List (List Int)), (Lit.int .i64 a0_0).wf = true → l0_1.length ≤ maxLen → (∀ r ∈ l0_1, r.length ≤ maxLen ∧ ∀ x ∈ r, (Lit.int .i64 x).wf = true) → (Lit.int .i64 a1).wf = true → l2.length ≤ maxLen → (∀ r ∈ l2, r.length ≤ maxLen ∧ ∀ x ∈ r, (Lit.int .i64 x).wf = true) → ∃ k, laws_FnExactStabilizerPresentation.f k a0_0 l0_1 a1 l2 = some true
end Go.Proofs.Ytbcdngjajjgmkaa.PFnExactStabilizerPresentation
