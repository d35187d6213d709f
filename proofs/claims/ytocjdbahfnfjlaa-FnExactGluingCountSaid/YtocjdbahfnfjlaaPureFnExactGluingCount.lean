/- Program and reference count the same number of gluings. No condition: for every input. -/
import Derived.Test.YtocjdbahfnfjlaaPFnExactGluingCountx1
namespace Go.Proofs.Ytocjdbahfnfjlaa.Pure
open Go.RowKit Go.Proofs.Ytocjdbahfnfjlaa.PFnExactGluingCount Go.Proofs.YtocjdbahfnfjlaaW.PrintWords Go.Proofs.YtocjdbahfnfjlaaW.PrintLast

theorem gc_in : ∀ n : Nat, n < 5 → 1 ≤ n → laws_FnExactGluingCount.f 40 (n : Int) = some true := by decide +kernel
theorem gc_out (a : Int) (h : ¬ (1 ≤ a ∧ a ≤ 4)) : laws_FnExactGluingCount.f 0 a = some true := by
  unfold laws_FnExactGluingCount.f spec_GluingCount.f impl_GluingCount.f spec_l07In.f impl_inRange.f
  by_cases h1 : 1 ≤ a
  · have h2 : ¬ a ≤ 4 := fun h2 => h ⟨h1, h2⟩
    simp [h1, h2]
  · simp [h1]
theorem FnExactGluingCount : laws_FnExactGluingCount.Pure := by
  intro a _
  by_cases h : 1 ≤ a ∧ a ≤ 4
  · obtain ⟨n, rfl⟩ : ∃ n : Nat, a = n := ⟨a.toNat, by omega⟩
    exact ⟨40, gc_in n (by omega) (by omega)⟩
  · exact ⟨0, gc_out a h⟩

end Go.Proofs.Ytocjdbahfnfjlaa.Pure
