/- The one plain statement that is left of the law FnExactIsAbelianGroup. -/
import Derived.Test.YtkfblcpiflbkaaaPFnExactIsAbelianGroupx2
namespace Go.Proofs.Ytkfblcpiflbkaaa.PFnExactIsAbelianGroup
open Go.RowKit Go.Proofs.YtkfblcpiflbkaaaW.PrintWords Go.Proofs.YtkfblcpiflbkaaaW.PrintLast
def laws_FnExactIsAbelianGroup.Pure : Prop := ∀ (a0_0 : Int) (l0_1 : List Int), (Lit.int .i64 a0_0).wf = true → l0_1.length ≤ maxLen → (∀ x ∈ l0_1, (Lit.int .i64 x).wf = true) → ∃ k, laws_FnExactIsAbelianGroup.f k a0_0 l0_1 = some true
end Go.Proofs.Ytkfblcpiflbkaaa.PFnExactIsAbelianGroup
