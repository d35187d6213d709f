/- Program and reference find the same order of a permutation. No condition: for every input that the statement lets in. -/
import Derived.Test.YtmffjekpnibnfaaPFnExactOrderPerm4x3
namespace Go.Proofs.Ytmffjekpnibnfaa.Pure
open Go.RowKit Go.Proofs.Ytmffjekpnibnfaa.PFnExactOrderPerm4 Go.Proofs.YtmffjekpnibnfaaW.PrintWords Go.Proofs.YtmffjekpnibnfaaW.PrintLast

set_option linter.unusedSimpArgs false
set_option linter.unusedVariables false
theorem valid_g (a : Int) : spec_l06Valid.f a = some (decide (0 ≤ a ∧ a < 24)) := by
  unfold spec_l06Valid.f
  by_cases h : 0 ≤ a
  · rw [if_pos h]
    congr 1
    exact decide_eq_decide.2 ⟨fun h1 => ⟨h, by omega⟩, fun h1 => by omega⟩
  · rw [if_neg h]
    congr 1
    exact (decide_eq_false fun h1 => h h1.1).symm
theorem isPerm_g (a : Int) : impl_isPerm.f a = some (decide (0 ≤ a ∧ a < 24)) := by
  unfold impl_isPerm.f impl_inRange.f
  by_cases h : 0 ≤ a
  · rw [if_pos h]
    simp only [Option.bind_some]
    congr 1
    exact decide_eq_decide.2 ⟨fun h1 => ⟨h, by omega⟩, fun h1 => by omega⟩
  · rw [if_neg h]
    simp only [Option.bind_some]
    congr 1
    exact (decide_eq_false fun h1 => h h1.1).symm

theorem all_p : ∀ n, n < 24 → laws_FnExactOrderPerm4.f 60 ((n : Nat) : Int) = some true := by decide +kernel
theorem FnExactOrderPerm4 : laws_FnExactOrderPerm4.Pure := by
  intro a _
  by_cases ha : 0 ≤ a ∧ a < 24
  · obtain ⟨n, rfl⟩ : ∃ n : Nat, a = n := ⟨a.toNat, by omega⟩
    exact ⟨60, all_p n (by omega)⟩
  · refine ⟨1, ?_⟩
    unfold laws_FnExactOrderPerm4.f spec_OrderPerm4.f impl_OrderPerm4.f
    rw [valid_g, isPerm_g, decide_eq_false ha]
    rfl

end Go.Proofs.Ytmffjekpnibnfaa.Pure
