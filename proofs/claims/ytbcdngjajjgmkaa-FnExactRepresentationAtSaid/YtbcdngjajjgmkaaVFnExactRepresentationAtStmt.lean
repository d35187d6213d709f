/- The one plain statement that is left of the law FnExactRepresentationAt. -/
import Derived.Test.YtbcdngjajjgmkaaVFnExactRepresentationAtPx13
namespace Go.Proofs.Ytbcdngjajjgmkaa.PFnExactRepresentationAt
open Go.RowKit Go.Proofs.YtbcdngjajjgmkaaW.PrintWords Go.Proofs.YtbcdngjajjgmkaaW.PrintLast
def laws_FnExactRepresentationAt.Pure : Prop := ∀ (a0_0 : Int) (l0_1 : List (List Int)) (a1 : Int) (a2 : Int), (Lit.int .i64 a0_0).wf = true → l0_1.length ≤ maxLen → (∀ r ∈ l0_1, r.length ≤ maxLen ∧ ∀ x ∈ r, (Lit.int .i64 x).wf = true) → (Lit.int .i64 a1).wf = true → (Lit.int .i64 a2).wf = true → ∃ k, laws_FnExactRepresentationAt.f k a0_0 l0_1 a1 a2 = some true
end Go.Proofs.Ytbcdngjajjgmkaa.PFnExactRepresentationAt
