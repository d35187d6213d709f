/- The one plain statement that is left of the law FnExactOrbitsOf. -/
import Derived.Test.YtinpfomadogadaaPFnExactOrbitsOfx6
namespace Go.Proofs.Ytinpfomadogadaa.PFnExactOrbitsOf
open Go.RowKit Go.Proofs.YtinpfomadogadaaW.PrintWords Go.Proofs.YtinpfomadogadaaW.PrintLast
def laws_FnExactOrbitsOf.Pure : Prop := ∀ (a0 : Int) (l1 : List (List Int)), (Lit.int .i64 a0).wf = true → l1.length ≤ maxLen → (∀ r ∈ l1, r.length ≤ maxLen ∧ ∀ x ∈ r, (Lit.int .i64 x).wf = true) → ∃ k, laws_FnExactOrbitsOf.f k a0 l1 = some true
end Go.Proofs.Ytinpfomadogadaa.PFnExactOrbitsOf
