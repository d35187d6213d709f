/- Program and reference count the same number of matchings. No condition: for every input. -/
import Derived.Test.YtocjdbahfnfjlaaPFnExactMatchingCountx1
namespace Go.Proofs.Ytocjdbahfnfjlaa.Pure
open Go.RowKit Go.Proofs.Ytocjdbahfnfjlaa.PFnExactMatchingCount Go.Proofs.YtocjdbahfnfjlaaW.PrintWords Go.Proofs.YtocjdbahfnfjlaaW.PrintLast

theorem mc_in : ∀ n : Nat, n < 17 → laws_FnExactMatchingCount.f 40 (n : Int) = some true := by decide +kernel
theorem mc_out (a : Int) (h : ¬ (0 ≤ a ∧ a ≤ 16)) : laws_FnExactMatchingCount.f 0 a = some true := by
  unfold laws_FnExactMatchingCount.f spec_MatchingCount.f impl_MatchingCount.f impl_isEven.f spec_l07In.f impl_inRange.f
  by_cases h1 : 0 ≤ a
  · have h2 : ¬ a ≤ 16 := fun h2 => h ⟨h1, h2⟩
    simp [h1, h2]
  · simp [h1]
theorem FnExactMatchingCount : laws_FnExactMatchingCount.Pure := by
  intro a _
  by_cases h : 0 ≤ a ∧ a ≤ 16
  · obtain ⟨n, rfl⟩ : ∃ n : Nat, a = n := ⟨a.toNat, by omega⟩
    exact ⟨40, mc_in n (by omega)⟩
  · exact ⟨0, mc_out a h⟩

end Go.Proofs.Ytocjdbahfnfjlaa.Pure
