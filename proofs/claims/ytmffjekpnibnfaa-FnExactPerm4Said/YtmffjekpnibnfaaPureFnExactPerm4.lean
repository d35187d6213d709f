/- Program and reference find the same images of a permutation; the results are new memory. No condition: for every input that the statement lets in. -/
import Derived.Test.YtmffjekpnibnfaaPFnExactPerm4x2
namespace Go.Proofs.Ytmffjekpnibnfaa.Pure
open Go.RowKit Go.Proofs.Ytmffjekpnibnfaa.PFnExactPerm4 Go.Proofs.YtmffjekpnibnfaaW.PrintWords Go.Proofs.YtmffjekpnibnfaaW.PrintLast

set_option linter.unusedSimpArgs false
set_option linter.unusedVariables false
theorem valid_f (a : Int) : spec_l06Valid.f a = some (decide (0 ≤ a ∧ a < 24)) := by
  unfold spec_l06Valid.f
  by_cases h : 0 ≤ a
  · rw [if_pos h]
    congr 1
    exact decide_eq_decide.2 ⟨fun h1 => ⟨h, by omega⟩, fun h1 => by omega⟩
  · rw [if_neg h]
    congr 1
    exact (decide_eq_false fun h1 => h h1.1).symm

theorem all_p : ∀ n, n < 24 → laws_FnExactPerm4.f 60 ((n : Nat) : Int) = some true := by decide +kernel
theorem none_p : ((laws_eqInt64S.f 60 [] []).bind fun t143 => (if t143 = true then ((laws_markInt64S.f 60 [] 1).bind fun bt144 => ((laws_heldInt64S.f 60 bt144.2 1).bind fun t146 => (if t146 < 0 then (some false) else (if t146 = bt144.1 then ((some ([] : List Int)).bind fun t147 => ((laws_eqInt64S.f 60 t147 []).bind fun t150 => (if t150 = true then ((laws_heldInt64S.f 60 bt144.2 1).bind fun t151 => (if t151 < 0 then (some false) else (if t151 = bt144.1 then (some true) else (some false)))) else (some false)))) else (some false))))) else (some false))) = some true := by decide +kernel
theorem FnExactPerm4 : laws_FnExactPerm4.Pure := by
  intro a _
  by_cases ha : 0 ≤ a ∧ a < 24
  · obtain ⟨n, rfl⟩ : ∃ n : Nat, a = n := ⟨a.toNat, by omega⟩
    exact ⟨60, all_p n (by omega)⟩
  · refine ⟨60, ?_⟩
    unfold laws_FnExactPerm4.f spec_Perm4.f impl_Perm4.f
    rw [valid_f, decide_eq_false ha, if_neg ha]
    exact none_p

end Go.Proofs.Ytmffjekpnibnfaa.Pure
