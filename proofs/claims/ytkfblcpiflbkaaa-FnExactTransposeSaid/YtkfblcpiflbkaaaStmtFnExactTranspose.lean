/- The one plain statement that is left of the law FnExactTranspose. -/
import Derived.Test.YtkfblcpiflbkaaaPFnExactTransposex4
namespace Go.Proofs.Ytkfblcpiflbkaaa.PFnExactTranspose
open Go.RowKit Go.Proofs.YtkfblcpiflbkaaaW.PrintWords Go.Proofs.YtkfblcpiflbkaaaW.PrintLast
def laws_FnExactTranspose.Pure : Prop := ∀ (a0_0 : Int) (a0_1 : Int) (l0_2 : List Int), (Lit.int .i64 a0_0).wf = true → (Lit.int .i64 a0_1).wf = true → l0_2.length ≤ maxLen → (∀ x ∈ l0_2, (Lit.int .i64 x).wf = true) → ∃ k, laws_FnExactTranspose.f k a0_0 a0_1 l0_2 = some true
end Go.Proofs.Ytkfblcpiflbkaaa.PFnExactTranspose
