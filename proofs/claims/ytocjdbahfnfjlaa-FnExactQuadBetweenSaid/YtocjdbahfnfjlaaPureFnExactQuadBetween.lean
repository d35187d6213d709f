/- Program and reference name the same type of quadrilaterals between two vertices. No condition: for every input. -/
import Derived.Test.YtocjdbahfnfjlaaPFnExactQuadBetweenx1
namespace Go.Proofs.Ytocjdbahfnfjlaa.Pure
open Go.RowKit Go.Proofs.Ytocjdbahfnfjlaa.PFnExactQuadBetween Go.Proofs.YtocjdbahfnfjlaaW.PrintWords Go.Proofs.YtocjdbahfnfjlaaW.PrintLast

theorem qb_in : ∀ n : Nat, n < 4 → ∀ m : Nat, m < 4 → laws_FnExactQuadBetween.f (n : Int) (m : Int) = some true := by decide +kernel
theorem qb_out (a b : Int) (h : ¬ (0 ≤ a ∧ a ≤ 3 ∧ 0 ≤ b ∧ b ≤ 3)) : laws_FnExactQuadBetween.f a b = some true := by
  unfold laws_FnExactQuadBetween.f spec_QuadBetween.f impl_QuadBetween.f impl_isVertex.f spec_l01In.f impl_inRange.f
  by_cases h1 : 0 ≤ a <;> by_cases h2 : a ≤ 3 <;> by_cases h3 : 0 ≤ b <;> by_cases h4 : b ≤ 3 <;> first | (simp [h1, h2, h3, h4]; done) | exact absurd ⟨h1, h2, h3, h4⟩ h
theorem FnExactQuadBetween : laws_FnExactQuadBetween.Pure := by
  intro a b _ _
  by_cases h : 0 ≤ a ∧ a ≤ 3 ∧ 0 ≤ b ∧ b ≤ 3
  · obtain ⟨n, rfl⟩ : ∃ n : Nat, a = n := ⟨a.toNat, by omega⟩
    obtain ⟨m, rfl⟩ : ∃ m : Nat, b = m := ⟨b.toNat, by omega⟩
    exact qb_in n (by omega) m (by omega)
  · exact qb_out a b h

end Go.Proofs.Ytocjdbahfnfjlaa.Pure
