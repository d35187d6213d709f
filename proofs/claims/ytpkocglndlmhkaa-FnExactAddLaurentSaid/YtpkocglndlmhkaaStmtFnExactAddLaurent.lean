/- The one plain statement that is left of the law FnExactAddLaurent. -/
import Derived.Test.YtpkocglndlmhkaaPFnExactAddLaurentx8
namespace Go.Proofs.Ytpkocglndlmhkaa.PFnExactAddLaurent
open Go.RowKit Go.Proofs.YtpkocglndlmhkaaW.PrintWords Go.Proofs.YtpkocglndlmhkaaW.PrintLast
def laws_FnExactAddLaurent.Pure : Prop := ∀ (a0_0 : Int) (l0_1 : List Int) (a1_0 : Int) (l1_1 : List Int), (Lit.int .i64 a0_0).wf = true → l0_1.length ≤ maxLen → (∀ x ∈ l0_1, (Lit.int .i64 x).wf = true) → (Lit.int .i64 a1_0).wf = true → l1_1.length ≤ maxLen → (∀ x ∈ l1_1, (Lit.int .i64 x).wf = true) → ∃ k, laws_FnExactAddLaurent.f k a0_0 l0_1 a1_0 l1_1 = some true
end Go.Proofs.Ytpkocglndlmhkaa.PFnExactAddLaurent
