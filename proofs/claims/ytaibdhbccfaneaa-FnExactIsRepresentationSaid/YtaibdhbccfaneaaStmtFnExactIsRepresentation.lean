/- The one plain statement that is left of the law FnExactIsRepresentation. -/
import Derived.Test.YtaibdhbccfaneaaPFnExactIsRepresentationx8
namespace Go.Proofs.Ytaibdhbccfaneaa.PFnExactIsRepresentation
open Go.RowKit Go.Proofs.YtaibdhbccfaneaaW.PrintWords Go.Proofs.YtaibdhbccfaneaaW.PrintLast
def laws_FnExactIsRepresentation.Pure : Prop := ∀ (a0_0 : Int) (l0_1 : List (List Int)) (a1 : Int) (l2 : List (List Int)), (Lit.int .i64 a0_0).wf = true → l0_1.length ≤ maxLen → (∀ r ∈ l0_1, r.length ≤ maxLen ∧ ∀ x ∈ r, (Lit.int .i64 x).wf = true) → (Lit.int .i64 a1).wf = true → l2.length ≤ maxLen → (∀ r ∈ l2, r.length ≤ maxLen ∧ ∀ x ∈ r, (Lit.int .i64 x).wf = true) → ∃ k, laws_FnExactIsRepresentation.f k a0_0 l0_1 a1 l2 = some true
end Go.Proofs.Ytaibdhbccfaneaa.PFnExactIsRepresentation
