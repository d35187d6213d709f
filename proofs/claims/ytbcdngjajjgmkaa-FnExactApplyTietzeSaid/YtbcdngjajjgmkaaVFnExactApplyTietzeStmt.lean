/- The one plain statement that is left of the law FnExactApplyTietze. -/
import Derived.Test.YtbcdngjajjgmkaaVFnExactApplyTietzePx18
namespace Go.Proofs.Ytbcdngjajjgmkaa.PFnExactApplyTietze
open Go.RowKit Go.Proofs.YtbcdngjajjgmkaaW.PrintWords Go.Proofs.YtbcdngjajjgmkaaW.PrintLast
def laws_FnExactApplyTietze.Pure : Prop := ∀ (a0_0 : Int) (l0_1 : List (List Int)) (a1_0 : Int) (a1_1 : Int) (a1_2 : Int) (l1_3 : List Int), (Lit.int .i64 a0_0).wf = true → l0_1.length ≤ maxLen → (∀ r ∈ l0_1, r.length ≤ maxLen ∧ ∀ x ∈ r, (Lit.int .i64 x).wf = true) → (Lit.int .i64 a1_0).wf = true → (Lit.int .i64 a1_1).wf = true → (Lit.int .i64 a1_2).wf = true → l1_3.length ≤ maxLen → (∀ x ∈ l1_3, (Lit.int .i64 x).wf = true) → ∃ k, laws_FnExactApplyTietze.f k a0_0 l0_1 a1_0 a1_1 a1_2 l1_3 = some true
end Go.Proofs.Ytbcdngjajjgmkaa.PFnExactApplyTietze
