/- Program and reference call the same values abelian groups. No condition: for every input that the statement lets in. -/
import Derived.Test.YtkfblcpiflbkaaaStmtFnExactIsAbelianGroup
namespace Go.Proofs.Ytkfblcpiflbkaaa.Pure
open Go.RowKit Go.Proofs.Ytkfblcpiflbkaaa.PFnExactIsAbelianGroup Go.Proofs.YtkfblcpiflbkaaaW.PrintWords Go.Proofs.YtkfblcpiflbkaaaW.PrintLast

set_option linter.unusedSimpArgs false
set_option linter.unusedVariables false
theorem w64 (x : Int) (h0 : -9223372036854775808 ≤ x) (h1 : x ≤ 9223372036854775807) : wrap64 x = x := by
  unfold wrap64
  omega
theorem rd_nat (l : List Int) (i : Nat) (h : i < l.length) : rd l (i : Int) = l[i] := by
  simp [rd, List.getD, List.getElem?_eq_getElem h]
theorem succ_k {k n : Nat} (h : n < k) : ∃ m, k = m + 1 := ⟨k - 1, by omega⟩
theorem cast_succ (i : Nat) : ((i : Int) + 1) = ((i + 1 : Nat) : Int) := by omega
theorem drop_rd (l : List Int) (k : Nat) (h : k < l.length) : l.drop k = rd l (k : Int) :: l.drop (k + 1) := by
  rw [List.drop_eq_getElem_cons h, rd_nat l k h]


theorem szInt64S_eq (l : List Int) (a : Int) (h0 : 0 ≤ a) (h1 : a ≤ 1048576) (hl : l.length ≤ maxLen) : laws_szInt64S.f l a = some (if a < l.length then -1 else a - l.length) := by
  unfold maxLen at hl
  unfold laws_szInt64S.f
  rw [w64 _ (by omega) (by omega)]
  by_cases h : a < l.length
  · rw [if_pos (by omega), if_pos h]
  · rw [if_neg (by omega), if_neg h]


theorem toInt64S_l0 (l : List Int) (hl : l.length ≤ 4611686018427387904) : ∀ (d i : Nat) (x3 : List Int) (k : Nat), x3.length = l.length → i + d = l.length → x3.take i = l.take i → d < k → laws_toInt64S.l0 k l x3 (i : Int) = some l := by
  intro d
  induction d with
  | zero =>
    intro i x3 k h3 hd ht hk
    obtain ⟨k, rfl⟩ := succ_k hk
    simp only [laws_toInt64S.l0]
    rw [if_neg (by omega)]
    have e : i = l.length := by omega
    subst e
    rw [List.take_length, List.take_of_length_le (by omega)] at ht
    rw [ht]
  | succ d ih =>
    intro i x3 k h3 hd ht hk
    obtain ⟨k, rfl⟩ := succ_k hk
    simp only [laws_toInt64S.l0]
    rw [if_pos (by omega), if_pos (by omega), if_pos (by omega), w64 _ (by omega) (by omega), cast_succ]
    refine ih (i + 1) _ k (by simp [h3]) (by omega) ?_ (by omega)
    rw [Int.toNat_natCast, rd_nat l i (by omega)]
    rw [List.take_succ_eq_append_getElem (by simp; omega), List.take_succ_eq_append_getElem (by omega), List.take_set_of_le (by omega), ht]
    simp
theorem toInt64S_eq (l : List Int) (k : Nat) (hl : l.length ≤ 1048576) (hk : l.length < k) : laws_toInt64S.f k l = some l := by
  unfold laws_toInt64S.f
  rw [if_pos (by omega), if_pos (by omega)]
  exact toInt64S_l0 l (by omega) l.length 0 _ k (by simp) (by omega) (by simp) hk


theorem eqInt64S_l0 (l r : List Int) (hr : r.length = l.length) (hl : l.length ≤ 4611686018427387904) : ∀ (d i k : Nat), i + d = l.length → d < k → laws_eqInt64S.l0 k l r (i : Int) = some (decide (l.drop i = r.drop i)) := by
  intro d
  induction d with
  | zero =>
    intro i k hd hk
    obtain ⟨k, rfl⟩ := succ_k hk
    simp only [laws_eqInt64S.l0]
    rw [if_neg (by omega), List.drop_of_length_le (by omega), List.drop_of_length_le (by omega)]
    simp
  | succ d ih =>
    intro i k hd hk
    obtain ⟨k, rfl⟩ := succ_k hk
    simp only [laws_eqInt64S.l0]
    rw [if_pos (by omega), if_pos (by omega), if_pos (by omega), w64 _ (by omega) (by omega), cast_succ, ih (i + 1) k (by omega) (by omega), drop_rd l i (by omega), drop_rd r i (by omega)]
    by_cases h : rd l (i : Int) = rd r (i : Int)
    · simp [h]
    · simp [h]
theorem eqInt64S_eq (l r : List Int) (k : Nat) (hl : l.length ≤ 4611686018427387904) (hk : l.length < k) : laws_eqInt64S.f k l r = some (decide (l = r)) := by
  unfold laws_eqInt64S.f
  by_cases h : l.length = r.length
  · rw [if_pos (by omega)]
    have := eqInt64S_l0 l r h.symm hl l.length 0 k (by omega) hk
    simpa using this
  · rw [if_neg (by omega)]
    have : ¬ l = r := fun e => h (by rw [e])
    simp [this]
theorem eqInt64S_self (l : List Int) (k : Nat) (hl : l.length ≤ 4611686018427387904) (hk : l.length < k) : laws_eqInt64S.f k l l = some true := by
  rw [eqInt64S_eq l l k hl hk]
  simp


def grpB (l : List Int) : Nat → List Int → Bool
  | _, [] => true
  | i, x :: r => (decide (2 ≤ x) && decide (x ≤ 1000000000000)) && ((if 0 < i then decide (Int.tmod x (rd l ((i - 1 : Nat) : Int)) = 0) else true) && grpB l (i + 1) r)
def okG (l : List Int) (i : Nat) : Prop := 0 < i → rd l ((i - 1 : Nat) : Int) ≠ 0
theorem spec_loop (g : Int) (l : List Int) (hl : l.length ≤ 1048576) : ∀ (d i k : Nat), i + d = l.length → d < k → okG l i →
    spec_IsAbelianGroup.l0 k (i : Int) g l = some (grpB l i (l.drop i) && (decide (0 ≤ g) && decide (g ≤ 48)) && decide (l.length ≤ 48)) := by
  intro d
  induction d with
  | zero =>
    intro i k hd hk hg
    obtain ⟨k, rfl⟩ := succ_k hk
    simp only [spec_IsAbelianGroup.l0]
    rw [if_neg (by omega), List.drop_of_length_le (by omega)]
    unfold spec_l01In.f
    have e : decide ((l.length : Int) ≤ 48) = decide (l.length ≤ 48) := decide_eq_decide.mpr (by omega)
    rw [e]
    by_cases h1 : 0 ≤ g <;> by_cases h2 : g ≤ 48 <;> simp [h1, h2, grpB]
  | succ d ih =>
    intro i k hd hk hg
    obtain ⟨k, rfl⟩ := succ_k hk
    simp only [spec_IsAbelianGroup.l0]
    rw [if_pos (by omega), if_pos (by omega), drop_rd l i (by omega), w64 ((i : Int) + 1) (by omega) (by omega), cast_succ]
    unfold spec_l01In.f
    have ih' := ih (i + 1) k (by omega) (by omega)
    simp only [grpB]
    by_cases h1 : 2 ≤ rd l (i : Int)
    · by_cases h2 : rd l (i : Int) ≤ 1000000000000
      · have hok : okG l (i + 1) := fun _ => by rw [Nat.add_sub_cancel]; omega
        rw [ih' hok]
        by_cases hi : 0 < i
        · have e1 : wrap64 ((i : Int) - 1) = ((i - 1 : Nat) : Int) := by rw [w64 _ (by omega) (by omega)]; omega
          have hz := hg hi
          have hi3 : (i : Int) > 0 := by omega
          have hi1 : (0 : Int) ≤ ((i - 1 : Nat) : Int) := by omega
          have hi2 : ((i - 1 : Nat) : Int) < (l.length : Int) := by omega
          rw [e1]
          generalize rd l ((i - 1 : Nat) : Int) = z at hz
          generalize ((i - 1 : Nat) : Int) = m at hi1 hi2
          by_cases h3 : Int.tmod (rd l (i : Int)) z = 0 <;> simp [h1, h2, hi, hi1, hi2, hz, h3]
        · have hi0 : i = 0 := by omega
          subst hi0
          simp at h1 h2
          simp [h1, h2]
      · simp [h1, h2]
    · simp [h1]
theorem impl_loop (g : Int) (l : List Int) (hl : l.length ≤ 1048576) : ∀ (d i k : Nat), i + d = l.length → d < k → okG l i →
    impl_isAbelianGroup.l0 k l (l.length : Int) (i : Int) g l = some (grpB l i (l.drop i) && (decide (0 ≤ g) && decide (g ≤ 48)) && decide (l.length ≤ 48)) := by
  intro d
  induction d with
  | zero =>
    intro i k hd hk hg
    obtain ⟨k, rfl⟩ := succ_k hk
    simp only [impl_isAbelianGroup.l0]
    rw [if_neg (by omega), List.drop_of_length_le (by omega)]
    unfold impl_inRange.f
    have e : decide ((l.length : Int) ≤ 48) = decide (l.length ≤ 48) := decide_eq_decide.mpr (by omega)
    rw [e]
    by_cases h1 : 0 ≤ g <;> by_cases h2 : g ≤ 48 <;> simp [h1, h2, grpB]
  | succ d ih =>
    intro i k hd hk hg
    obtain ⟨k, rfl⟩ := succ_k hk
    simp only [impl_isAbelianGroup.l0]
    rw [if_pos (by omega), if_pos (by omega), if_pos (by omega), drop_rd l i (by omega), w64 ((i : Int) + 1) (by omega) (by omega), cast_succ]
    unfold impl_inRange.f
    have ih' := ih (i + 1) k (by omega) (by omega)
    simp only [grpB]
    by_cases h1 : 2 ≤ rd l (i : Int)
    · by_cases h2 : rd l (i : Int) ≤ 1000000000000
      · have hok : okG l (i + 1) := fun _ => by rw [Nat.add_sub_cancel]; omega
        rw [ih' hok]
        by_cases hi : 0 < i
        · have e1 : wrap64 ((i : Int) - 1) = ((i - 1 : Nat) : Int) := by rw [w64 _ (by omega) (by omega)]; omega
          have hz := hg hi
          have hi3 : (i : Int) > 0 := by omega
          have hi1 : (0 : Int) ≤ ((i - 1 : Nat) : Int) := by omega
          have hi2 : ((i - 1 : Nat) : Int) < (l.length : Int) := by omega
          rw [e1]
          generalize rd l ((i - 1 : Nat) : Int) = z at hz
          generalize ((i - 1 : Nat) : Int) = m at hi1 hi2
          by_cases h3 : Int.tmod (rd l (i : Int)) z = 0 <;> simp [h1, h2, hi, hi1, hi2, hz, h3]
        · have hi0 : i = 0 := by omega
          subst hi0
          simp at h1 h2
          simp [h1, h2]
      · simp [h1, h2]
    · simp [h1]
theorem FnExactIsAbelianGroup : laws_FnExactIsAbelianGroup.Pure := by
  intro g l _ hl _
  obtain ⟨K, hK⟩ : ∃ K : Nat, K = 1048600 := ⟨_, rfl⟩
  refine ⟨K, ?_⟩
  unfold laws_FnExactIsAbelianGroup.f laws_szAbelianGroup.f
  rw [szInt64S_eq l 1048576 (by omega) (by omega) hl]
  simp only [Option.bind_some]
  by_cases h : (1048576 : Int) < l.length
  · simp [h]
  · have hl' : l.length ≤ 1048576 := by omega
    rw [if_neg h, if_neg (by omega)]
    unfold laws_toAbelianGroup.f laws_eqAbelianGroup.f spec_IsAbelianGroup.f impl_IsAbelianGroup.f impl_isAbelianGroup.f
    have hs := spec_loop g l hl' l.length 0 K (by omega) (by omega) (fun h => by omega)
    have hi := impl_loop g l hl' l.length 0 K (by omega) (by omega) (fun h => by omega)
    rw [Int.natCast_zero] at hs hi
    simp only [Option.bind_some]
    rw [if_neg (by omega), toInt64S_eq l K hl' (by omega)]
    simp only [Option.bind_some]
    rw [hs, hi, eqInt64S_self l K (by omega) (by omega)]
    simp

end Go.Proofs.Ytkfblcpiflbkaaa.Pure
