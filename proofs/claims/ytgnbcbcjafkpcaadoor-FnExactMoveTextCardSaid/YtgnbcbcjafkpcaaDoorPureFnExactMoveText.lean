/- Program and reference write the same text of a move. No condition: for every input that the statement lets in. -/
import Derived.Test.YtgnbcbcjafkpcaaDoorStmtFnExactMoveText
namespace Go.Proofs.YtgnbcbcjafkpcaaDoor.Pure
open Go.RowKit Go.Proofs.YtgnbcbcjafkpcaaDoor.PFnExactMoveText Go.Proofs.YtgnbcbcjafkpcaaDoorW.PrintWords Go.Proofs.YtgnbcbcjafkpcaaDoorW.PrintLast

set_option linter.unusedSimpArgs false
set_option linter.unusedVariables false
set_option linter.unusedSectionVars false
theorem digit_tab : ∀ n : Fin 10, (⟨[UInt8.ofNat (48 + n.val)].toArray⟩ : ByteArray) = strOfNums [(wrap64 (48 + (n.val : Int))) % 256] := by decide +kernel
theorem dec_small (x : Int) (h0 : 0 ≤ x) (h1 : x < 10) : impl_decimal.f x = spec_l07Digit.f x := by
  obtain ⟨n, rfl⟩ : ∃ n : Nat, x = n := ⟨x.toNat, by omega⟩
  have hn : n < 10 := by omega
  unfold impl_decimal.f spec_l07Digit.f
  rw [if_pos (by omega), ← digit_tab ⟨n, hn⟩]
  have e : Lib.itoa (n : Int) = [UInt8.ofNat (48 + n)] := by
    unfold Lib.itoa
    rw [if_neg (by omega), Int.toNat_natCast, Lib.decDigits, dif_pos hn]
  rw [e]

theorem most_eq (k : Nat) (a : Int) : spec_l12Most.f (k + 1) a = some (if a = 1 then 3 else if a = 4 then 3 else if a = 2 then 5 else if a = 3 then 0 else -1) := by
  unfold spec_l12Most.f
  by_cases c1 : a = 1
  · subst c1; rfl
  · by_cases c4 : a = 4
    · subst c4; rfl
    · have e4 : (a == 4) = false := beq_eq_false_iff_ne.2 c4
      rw [if_neg c1, if_neg c1, e4]
      show (if false = true then some (3 : Int) else if a = 2 then some 5 else if a = 3 then some 0 else some (-1)) = _
      rw [if_neg (by simp), if_neg c4]
      by_cases c2 : a = 2
      · rw [if_pos c2, if_pos c2]
      · rw [if_neg c2, if_neg c2]
        by_cases c3 : a = 3
        · rw [if_pos c3, if_pos c3]
        · rw [if_neg c3, if_neg c3]
theorem indices_eq (k : Nat) (a : Int) : impl_indices.f (k + 1) a = some (if a = 1 then 4 else if a = 4 then 4 else if a = 2 then 6 else if a = 3 then 1 else 0) := by
  unfold impl_indices.f
  by_cases c1 : a = 1
  · subst c1; rfl
  · by_cases c4 : a = 4
    · subst c4; rfl
    · have e4 : (a == 4) = false := beq_eq_false_iff_ne.2 c4
      rw [if_neg c1, if_neg c1, e4]
      show (if false = true then some (4 : Int) else if a = 2 then some 6 else if a = 3 then some 1 else some (0)) = _
      rw [if_neg (by simp), if_neg c4]
      by_cases c2 : a = 2
      · rw [if_pos c2, if_pos c2]
      · rw [if_neg c2, if_neg c2]
        by_cases c3 : a = 3
        · rw [if_pos c3, if_pos c3]
        · rw [if_neg c3, if_neg c3]
/-- The program's text with the reference's digits. -/
def moveT (a b c : Int) : Option ByteArray := if 0 ≤ (wrap64 ((wrap64 (2 * a)) - 2)) then (if (wrap64 ((wrap64 (2 * a)) - 2)) ≤ (wrap64 (2 * a)) then (if (wrap64 (2 * a)) ≤ 8 then (if ((⟨#[50, 51, 51, 50, 49, 52, 52, 49]⟩ : ByteArray).extract ((wrap64 ((wrap64 (2 * a)) - 2)) : Int).toNat ((wrap64 (2 * a)) : Int).toNat).size + 1 ≤ 9223372036854775807 then ((spec_l07Digit.f b).bind fun t125 => (if (((⟨#[50, 51, 51, 50, 49, 52, 52, 49]⟩ : ByteArray).extract ((wrap64 ((wrap64 (2 * a)) - 2)) : Int).toNat ((wrap64 (2 * a)) : Int).toNat) ++ (⟨#[32]⟩ : ByteArray)).size + t125.size ≤ 9223372036854775807 then (if ((((⟨#[50, 51, 51, 50, 49, 52, 52, 49]⟩ : ByteArray).extract ((wrap64 ((wrap64 (2 * a)) - 2)) : Int).toNat ((wrap64 (2 * a)) : Int).toNat) ++ (⟨#[32]⟩ : ByteArray)) ++ t125).size + 1 ≤ 9223372036854775807 then ((spec_l07Digit.f c).bind fun t126 => (if (((((⟨#[50, 51, 51, 50, 49, 52, 52, 49]⟩ : ByteArray).extract ((wrap64 ((wrap64 (2 * a)) - 2)) : Int).toNat ((wrap64 (2 * a)) : Int).toNat) ++ (⟨#[32]⟩ : ByteArray)) ++ t125) ++ (⟨#[32]⟩ : ByteArray)).size + t126.size ≤ 9223372036854775807 then (some ((((((⟨#[50, 51, 51, 50, 49, 52, 52, 49]⟩ : ByteArray).extract ((wrap64 ((wrap64 (2 * a)) - 2)) : Int).toNat ((wrap64 (2 * a)) : Int).toNat) ++ (⟨#[32]⟩ : ByteArray)) ++ t125) ++ (⟨#[32]⟩ : ByteArray)) ++ t126)) else (none))) else (none)) else (none))) else (none)) else (none)) else (none)) else (none)
theorem moveT_eq (k : Nat) (a b c : Int) (hb : 0 ≤ b ∧ b < 10) (hc : 0 ≤ c ∧ c < 10) : impl_MoveText.j0 (k + 1) false a b c = moveT a b c := by
  rw [impl_MoveText.j0, if_neg (by simp), dec_small b hb.1 hb.2, dec_small c hc.1 hc.2]
  unfold moveT
  rfl
theorem move_tab : ∀ a : Fin 4, ∀ b : Fin 8, ∀ c : Fin 6, spec_MoveText.j0 1 false ((a.val : Int) + 1) (b.val : Int) (c.val : Int) = moveT ((a.val : Int) + 1) (b.val : Int) (c.val : Int) ∧ (moveT ((a.val : Int) + 1) (b.val : Int) (c.val : Int)).isSome = true := by decide +kernel
theorem idx_most (x : Int) : wrap64 ((if x = 1 then 4 else if x = 4 then 4 else if x = 2 then 6 else if x = 3 then 1 else 0) - 1) = (if x = 1 then 3 else if x = 4 then 3 else if x = 2 then 5 else if x = 3 then 0 else -1) := by
  split
  · decide +kernel
  · split
    · decide +kernel
    · split
      · decide +kernel
      · split <;> decide +kernel
/-- Program and reference write the same text of a move. -/
theorem moveText_both (a b c : Int) : ∃ s, ∀ k, spec_MoveText.f (k + 1) a b c = some s ∧ impl_MoveText.f (k + 1) a b c = some s := by
  by_cases hv : (1 ≤ a ∧ a ≤ 4) ∧ (0 ≤ b ∧ b ≤ 7) ∧ 0 ≤ c ∧ c ≤ (if a = 1 then 3 else if a = 4 then 3 else if a = 2 then 5 else if a = 3 then 0 else -1)
  · obtain ⟨ha, hb, hc0, hc⟩ := hv
    have hc5 : c < 6 := by
      revert hc
      split <;> try split <;> try split <;> try split
      all_goals omega
    obtain ⟨n, rfl⟩ : ∃ n : Nat, a = (n : Int) + 1 := ⟨(a - 1).toNat, by omega⟩
    obtain ⟨m, rfl⟩ : ∃ m : Nat, b = m := ⟨b.toNat, by omega⟩
    obtain ⟨l, rfl⟩ : ∃ l : Nat, c = l := ⟨c.toNat, by omega⟩
    have T := move_tab ⟨n, by omega⟩ ⟨m, by omega⟩ ⟨l, by omega⟩
    simp only at T
    obtain ⟨s, hs⟩ := Option.isSome_iff_exists.1 T.2
    refine ⟨s, fun k => ⟨?_, ?_⟩⟩
    · have hmono : spec_MoveText.j0 (k + 1) false ((n : Int) + 1) m l = some s := by
        have e : spec_MoveText.j0 (k + 1) false ((n : Int) + 1) m l = spec_MoveText.j0 1 false ((n : Int) + 1) m l := rfl
        rw [e, T.1, hs]
      unfold spec_MoveText.f
      rw [most_eq, Option.bind_some, if_neg (by revert hc; split <;> try split <;> try split <;> try split
                                                all_goals omega)]
      unfold spec_l07In.f
      rw [if_pos (by omega), Option.bind_some, decide_eq_true (by omega : (m : Int) ≤ 7), if_pos rfl, Option.bind_some, if_pos (by omega), Option.bind_some, decide_eq_true hc, Bool.not_true]
      exact hmono
    · unfold impl_MoveText.f impl_inRange.f
      have e2 := idx_most
      rw [if_pos (by omega), Option.bind_some, decide_eq_true (by omega : (m : Int) ≤ 7), if_pos rfl, indices_eq, Option.bind_some, e2, if_pos (by omega), Option.bind_some, decide_eq_true hc, Bool.not_true, moveT_eq _ _ _ _ (by omega) (by omega), hs]
  · refine ⟨⟨#[]⟩, fun k => ⟨?_, ?_⟩⟩
    · unfold spec_MoveText.f
      rw [most_eq, Option.bind_some]
      by_cases c1 : (if a = 1 then 3 else if a = 4 then 3 else if a = 2 then 5 else if a = 3 then (0 : Int) else -1) < 0
      · rw [if_pos c1]
        rfl
      · rw [if_neg c1]
        unfold spec_l07In.f
        by_cases c2 : 0 ≤ b ∧ b ≤ 7
        · rw [if_pos (show b ≥ 0 from c2.1), Option.bind_some, decide_eq_true c2.2, if_pos rfl, Option.bind_some]
          have ha : 1 ≤ a ∧ a ≤ 4 := by
            revert c1
            split <;> try split <;> try split <;> try split
            all_goals omega
          by_cases c3 : c ≥ 0
          · rw [if_pos c3, Option.bind_some, decide_eq_false (fun h => hv ⟨ha, c2, c3, h⟩), Bool.not_false]
            rfl
          · rw [if_neg c3, Option.bind_some, Bool.not_false]
            rfl
        · by_cases c3 : b ≥ 0
          · rw [if_pos c3, Option.bind_some, decide_eq_false (by omega), if_neg (by simp)]
            rfl
          · rw [if_neg c3, Option.bind_some, if_neg (by simp)]
            rfl
    · unfold impl_MoveText.f impl_inRange.f
      by_cases c2 : 0 ≤ b ∧ b ≤ 7
      · rw [if_pos c2.1, Option.bind_some, decide_eq_true c2.2, if_pos rfl, indices_eq, Option.bind_some]
        have e2 := idx_most
        rw [e2]
        by_cases c3 : 0 ≤ c
        · rw [if_pos c3, Option.bind_some, decide_eq_false (fun h => hv ⟨by
            revert h
            split <;> try split <;> try split <;> try split
            all_goals omega, c2, c3, h⟩), Bool.not_false]
          rfl
        · rw [if_neg c3, Option.bind_some, Bool.not_false]
          rfl
      · by_cases c3 : 0 ≤ b
        · rw [if_pos c3, Option.bind_some, decide_eq_false (by omega), if_neg (by simp)]
          rfl
        · rw [if_neg c3, Option.bind_some, if_neg (by simp)]
          rfl

theorem FnExactMoveText : laws_FnExactMoveText.Pure := by
  intro a b c _ _ _
  obtain ⟨s, h⟩ := moveText_both a b c
  refine ⟨1, ?_⟩
  unfold laws_FnExactMoveText.f laws_toMove.f
  rw [Option.bind_some, (h 0).1, Option.bind_some, Option.bind_some, (h 0).2, Option.bind_some, if_pos rfl]

end Go.Proofs.YtgnbcbcjafkpcaaDoor.Pure
