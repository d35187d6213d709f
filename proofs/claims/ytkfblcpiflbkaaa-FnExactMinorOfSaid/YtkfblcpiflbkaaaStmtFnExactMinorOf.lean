/- The one plain statement that is left of the law FnExactMinorOf. -/
import Derived.Test.YtkfblcpiflbkaaaPFnExactMinorOfx5
namespace Go.Proofs.Ytkfblcpiflbkaaa.PFnExactMinorOf
open Go.RowKit Go.Proofs.YtkfblcpiflbkaaaW.PrintWords Go.Proofs.YtkfblcpiflbkaaaW.PrintLast
def laws_FnExactMinorOf.Pure : Prop := ∀ (a0_0 : Int) (a0_1 : Int) (l0_2 : List Int) (a1 : Int) (a2 : Int), (Lit.int .i64 a0_0).wf = true → (Lit.int .i64 a0_1).wf = true → l0_2.length ≤ maxLen → (∀ x ∈ l0_2, (Lit.int .i64 x).wf = true) → (Lit.int .i64 a1).wf = true → (Lit.int .i64 a2).wf = true → ∃ k, laws_FnExactMinorOf.f k a0_0 a0_1 l0_2 a1 a2 = some true
end Go.Proofs.Ytkfblcpiflbkaaa.PFnExactMinorOf
