/- Program and reference find the same image of a number under a permutation. No condition: for every input that the statement lets in. -/
import Derived.Test.YtmffjekpnibnfaaPFnExactApplyPerm4x2
namespace Go.Proofs.Ytmffjekpnibnfaa.Pure
open Go.RowKit Go.Proofs.Ytmffjekpnibnfaa.PFnExactApplyPerm4 Go.Proofs.YtmffjekpnibnfaaW.PrintWords Go.Proofs.YtmffjekpnibnfaaW.PrintLast

set_option linter.unusedSimpArgs false
set_option linter.unusedVariables false
theorem images_all : ∀ n, n < 24 → spec_l06Images.f 40 ((n : Nat) : Int) = some (permL n) := by decide +kernel
theorem images_at (n : Nat) (hn : n < 24) (k : Nat) (hk : 40 ≤ k) : spec_l06Images.f k (n : Int) = some (permL n) :=
  at_rounds (g := fun k => spec_l06Images.f k (n : Int)) (fun k => spec_l06Images.mono _ k) hk (images_all n hn)
theorem valid_f (a : Int) : spec_l06Valid.f a = some (decide (0 ≤ a ∧ a < 24)) := by
  unfold spec_l06Valid.f
  by_cases h : 0 ≤ a
  · rw [if_pos h]
    congr 1
    exact decide_eq_decide.2 ⟨fun h1 => ⟨h, by omega⟩, fun h1 => by omega⟩
  · rw [if_neg h]
    congr 1
    exact (decide_eq_false fun h1 => h h1.1).symm

theorem spec_at (n m : Nat) (hn : n < 24) (hm : m < 4) (k : Nat) (hk : 40 ≤ k) : spec_l06At.f k (n : Int) (m : Int) = some (rd (permL n) m) := by
  unfold spec_l06At.f
  rw [images_at n hn k hk, Option.bind_some, if_pos (by omega), if_pos (by rw [(permL_ok n hn).1]; omega)]

theorem FnExactApplyPerm4 : laws_FnExactApplyPerm4.Pure := by
  intro a b _ _
  refine ⟨40, ?_⟩
  unfold laws_FnExactApplyPerm4.f spec_ApplyPerm4.f impl_ApplyPerm4.f
  rw [valid_f]
  by_cases ha : 0 ≤ a ∧ a < 24
  · rw [decide_eq_true ha, if_pos ha]
    obtain ⟨n, rfl⟩ : ∃ n : Nat, a = n := ⟨a.toNat, by omega⟩
    by_cases hb : 0 ≤ b ∧ b < 4
    · obtain ⟨m, rfl⟩ : ∃ m : Nat, b = m := ⟨b.toNat, by omega⟩
      rw [spec_at n m (by omega) (by omega) 40 (by omega), if_pos hb, Int.toNat_natCast]
      simp [show ¬ ((m : Int) < 0) by omega, show ¬ ((m : Int) > 3) by omega, show ¬ (3 < m) by omega]
    · rw [if_neg hb]
      by_cases c : b < 0
      · simp [c]
      · simp [c, show b > 3 by omega]
  · rw [decide_eq_false ha, if_neg ha]
    simp

end Go.Proofs.Ytmffjekpnibnfaa.Pure
