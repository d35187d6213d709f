/- Program and reference find the same product of two permutations. No condition: for every input that the statement lets in. -/
import Derived.Test.YtmffjekpnibnfaaPFnExactComposePerm4x3
namespace Go.Proofs.Ytmffjekpnibnfaa.Pure
open Go.RowKit Go.Proofs.Ytmffjekpnibnfaa.PFnExactComposePerm4 Go.Proofs.YtmffjekpnibnfaaW.PrintWords Go.Proofs.YtmffjekpnibnfaaW.PrintLast

set_option linter.unusedSimpArgs false
set_option linter.unusedVariables false
theorem valid_g (a : Int) : spec_l06Valid.f a = some (decide (0 ≤ a ∧ a < 24)) := by
  unfold spec_l06Valid.f
  by_cases h : 0 ≤ a
  · rw [if_pos h]
    congr 1
    exact decide_eq_decide.2 ⟨fun h1 => ⟨h, by omega⟩, fun h1 => by omega⟩
  · rw [if_neg h]
    congr 1
    exact (decide_eq_false fun h1 => h h1.1).symm
theorem isPerm_g (a : Int) : impl_isPerm.f a = some (decide (0 ≤ a ∧ a < 24)) := by
  unfold impl_isPerm.f impl_inRange.f
  by_cases h : 0 ≤ a
  · rw [if_pos h]
    simp only [Option.bind_some]
    congr 1
    exact decide_eq_decide.2 ⟨fun h1 => ⟨h, by omega⟩, fun h1 => by omega⟩
  · rw [if_neg h]
    simp only [Option.bind_some]
    congr 1
    exact (decide_eq_false fun h1 => h h1.1).symm

theorem all_p : ∀ n, n < 24 → ∀ m, m < 24 → laws_FnExactComposePerm4.f 60 ((n : Nat) : Int) ((m : Nat) : Int) = some true := by decide +kernel
theorem FnExactComposePerm4 : laws_FnExactComposePerm4.Pure := by
  intro a b _ _
  by_cases ha : 0 ≤ a ∧ a < 24
  · by_cases hb : 0 ≤ b ∧ b < 24
    · obtain ⟨n, rfl⟩ : ∃ n : Nat, a = n := ⟨a.toNat, by omega⟩
      obtain ⟨m, rfl⟩ : ∃ m : Nat, b = m := ⟨b.toNat, by omega⟩
      exact ⟨60, all_p n (by omega) m (by omega)⟩
    · refine ⟨1, ?_⟩
      unfold laws_FnExactComposePerm4.f spec_ComposePerm4.f impl_ComposePerm4.f
      rw [valid_g, valid_g, isPerm_g, isPerm_g, decide_eq_true ha, decide_eq_false hb]
      rfl
  · refine ⟨1, ?_⟩
    unfold laws_FnExactComposePerm4.f spec_ComposePerm4.f impl_ComposePerm4.f
    rw [valid_g, isPerm_g, decide_eq_false ha]
    rfl

end Go.Proofs.Ytmffjekpnibnfaa.Pure
