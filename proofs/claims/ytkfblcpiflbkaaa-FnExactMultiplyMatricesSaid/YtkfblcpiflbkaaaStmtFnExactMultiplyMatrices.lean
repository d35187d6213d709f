/- The one plain statement that is left of the law FnExactMultiplyMatrices. -/
import Derived.Test.YtkfblcpiflbkaaaPFnExactMultiplyMatricesx7
namespace Go.Proofs.Ytkfblcpiflbkaaa.PFnExactMultiplyMatrices
open Go.RowKit Go.Proofs.YtkfblcpiflbkaaaW.PrintWords Go.Proofs.YtkfblcpiflbkaaaW.PrintLast
def laws_FnExactMultiplyMatrices.Pure : Prop := ∀ (a0_0 : Int) (a0_1 : Int) (l0_2 : List Int) (a1_0 : Int) (a1_1 : Int) (l1_2 : List Int), (Lit.int .i64 a0_0).wf = true → (Lit.int .i64 a0_1).wf = true → l0_2.length ≤ maxLen → (∀ x ∈ l0_2, (Lit.int .i64 x).wf = true) → (Lit.int .i64 a1_0).wf = true → (Lit.int .i64 a1_1).wf = true → l1_2.length ≤ maxLen → (∀ x ∈ l1_2, (Lit.int .i64 x).wf = true) → ∃ k, laws_FnExactMultiplyMatrices.f k a0_0 a0_1 l0_2 a1_0 a1_1 l1_2 = some true
end Go.Proofs.Ytkfblcpiflbkaaa.PFnExactMultiplyMatrices
