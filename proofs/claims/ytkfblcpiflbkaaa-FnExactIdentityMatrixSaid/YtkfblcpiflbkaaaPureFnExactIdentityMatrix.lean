/- Program and reference make the same identity matrix, in new memory. No condition: for every input that the statement lets in. -/
import Derived.Test.YtkfblcpiflbkaaaPFnExactIdentityMatrixx2
namespace Go.Proofs.Ytkfblcpiflbkaaa.Pure
open Go.RowKit Go.Proofs.Ytkfblcpiflbkaaa.PFnExactIdentityMatrix Go.Proofs.YtkfblcpiflbkaaaW.PrintWords Go.Proofs.YtkfblcpiflbkaaaW.PrintLast

set_option linter.unusedSimpArgs false
set_option linter.unusedVariables false
theorem w64 (x : Int) (h0 : -9223372036854775808 ≤ x) (h1 : x ≤ 9223372036854775807) : wrap64 x = x := by
  unfold wrap64
  omega
theorem rd_nat (l : List Int) (i : Nat) (h : i < l.length) : rd l (i : Int) = l[i] := by
  simp [rd, List.getD, List.getElem?_eq_getElem h]
theorem succ_k {k n : Nat} (h : n < k) : ∃ m, k = m + 1 := ⟨k - 1, by omega⟩
theorem cast_succ (i : Nat) : ((i : Int) + 1) = ((i + 1 : Nat) : Int) := by omega
theorem drop_rd (l : List Int) (k : Nat) (h : k < l.length) : l.drop k = rd l (k : Int) :: l.drop (k + 1) := by
  rw [List.drop_eq_getElem_cons h, rd_nat l k h]


theorem eqInt64S_l0 (l r : List Int) (hr : r.length = l.length) (hl : l.length ≤ 4611686018427387904) : ∀ (d i k : Nat), i + d = l.length → d < k → laws_eqInt64S.l0 k l r (i : Int) = some (decide (l.drop i = r.drop i)) := by
  intro d
  induction d with
  | zero =>
    intro i k hd hk
    obtain ⟨k, rfl⟩ := succ_k hk
    simp only [laws_eqInt64S.l0]
    rw [if_neg (by omega), List.drop_of_length_le (by omega), List.drop_of_length_le (by omega)]
    simp
  | succ d ih =>
    intro i k hd hk
    obtain ⟨k, rfl⟩ := succ_k hk
    simp only [laws_eqInt64S.l0]
    rw [if_pos (by omega), if_pos (by omega), if_pos (by omega), w64 _ (by omega) (by omega), cast_succ, ih (i + 1) k (by omega) (by omega), drop_rd l i (by omega), drop_rd r i (by omega)]
    by_cases h : rd l (i : Int) = rd r (i : Int)
    · simp [h]
    · simp [h]
theorem eqInt64S_eq (l r : List Int) (k : Nat) (hl : l.length ≤ 4611686018427387904) (hk : l.length < k) : laws_eqInt64S.f k l r = some (decide (l = r)) := by
  unfold laws_eqInt64S.f
  by_cases h : l.length = r.length
  · rw [if_pos (by omega)]
    have := eqInt64S_l0 l r h.symm hl l.length 0 k (by omega) hk
    simpa using this
  · rw [if_neg (by omega)]
    have : ¬ l = r := fun e => h (by rw [e])
    simp [this]
theorem eqInt64S_self (l : List Int) (k : Nat) (hl : l.length ≤ 4611686018427387904) (hk : l.length < k) : laws_eqInt64S.f k l l = some true := by
  rw [eqInt64S_eq l l k hl hk]
  simp


theorem eqMatrix_self (a b : Int) (l : List Int) (k : Nat) (hl : l.length ≤ 4611686018427387904) (hk : l.length < k) : laws_eqMatrix.f k a b l a b l = some true := by
  unfold laws_eqMatrix.f
  rw [if_pos rfl, if_pos rfl, eqInt64S_self l k hl hk]
  rfl


/-- The numbers from m on. -/
def marks : Int → Nat → List Int
  | _, 0 => []
  | m, n + 1 => m :: marks (m + 1) n
theorem marks_length : ∀ (m : Int) (n : Nat), (marks m n).length = n
  | _, 0 => rfl
  | m, n + 1 => by simp [marks, marks_length (m + 1) n]


theorem markInt64S_l0 : ∀ (d i k : Nat) (x0 : List Int) (x1 : Int), x0.length ≤ 4611686018427387904 → i + d = x0.length → 0 ≤ x1 → x1 + d ≤ 4611686018427387904 → d < k →
    laws_markInt64S.l0 k x0 x1 (i : Int) = some (x1 + d, x0.take i ++ marks x1 d) := by
  intro d
  induction d with
  | zero =>
    intro i k x0 x1 hl hd h0 h1 hk
    obtain ⟨k, rfl⟩ := succ_k hk
    simp only [laws_markInt64S.l0]
    rw [if_neg (by omega)]
    simp [marks, List.take_of_length_le (show x0.length ≤ i by omega)]
  | succ d ih =>
    intro i k x0 x1 hl hd h0 h1 hk
    obtain ⟨k, rfl⟩ := succ_k hk
    simp only [laws_markInt64S.l0]
    rw [if_pos (by omega), if_pos (by omega), w64 _ (by omega) (by omega), w64 _ (by omega) (by omega), cast_succ, Int.toNat_natCast]
    rw [ih (i + 1) k (x0.set i x1) (x1 + 1) (by simp; omega) (by simp; omega) (by omega) (by omega) (by omega)]
    rw [List.take_succ_eq_append_getElem (by simp; omega), List.take_set_of_le (by omega)]
    simp only [marks, List.getElem_set_self, List.append_assoc, List.singleton_append]
    rw [show x1 + 1 + (d : Int) = x1 + ((d + 1 : Nat) : Int) by omega]
theorem markInt64S_eq (l : List Int) (m : Int) (k : Nat) (hl : l.length ≤ 1048576) (h0 : 0 ≤ m) (h1 : m ≤ 4611686018426339328) (hk : l.length < k) :
    laws_markInt64S.f k l m = some (m + l.length, marks m l.length) := by
  unfold laws_markInt64S.f
  have := markInt64S_l0 l.length 0 k l m (by omega) (by omega) h0 (by omega) hk
  simpa using this


theorem markMatrix_eq (a b : Int) (l : List Int) (m : Int) (k : Nat) (hl : l.length ≤ 1048576) (h0 : 0 ≤ m) (h1 : m ≤ 4611686018426339328) (hk : l.length < k) :
    laws_markMatrix.f k a b l m = some (m + l.length, marks m l.length) := by
  unfold laws_markMatrix.f
  rw [markInt64S_eq l m k hl h0 h1 hk]
  rfl


theorem heldInt64S_l0 : ∀ (d i k : Nat) (x0 : List Int) (x1 : Int), x0.length ≤ 4611686018427387904 → i + d = x0.length → x0.drop i = marks x1 d → 0 ≤ x1 → x1 + d ≤ 4611686018427387904 → d < k →
    laws_heldInt64S.l0 k x0 x1 (i : Int) = some (x1 + d) := by
  intro d
  induction d with
  | zero =>
    intro i k x0 x1 hl hd he h0 h1 hk
    obtain ⟨k, rfl⟩ := succ_k hk
    simp only [laws_heldInt64S.l0]
    rw [if_neg (by omega)]
    simp
  | succ d ih =>
    intro i k x0 x1 hl hd he h0 h1 hk
    obtain ⟨k, rfl⟩ := succ_k hk
    simp only [laws_heldInt64S.l0]
    rw [drop_rd x0 i (by omega)] at he
    simp only [marks, List.cons.injEq] at he
    rw [if_pos (by omega), if_pos (by omega), if_pos he.1, w64 _ (by omega) (by omega), w64 _ (by omega) (by omega), cast_succ, ih (i + 1) k x0 (x1 + 1) hl (by omega) he.2 (by omega) (by omega) (by omega)]
    rw [show x1 + 1 + (d : Int) = x1 + ((d + 1 : Nat) : Int) by omega]
theorem heldInt64S_marks (m : Int) (n k : Nat) (hl : n ≤ 1048576) (h0 : 0 ≤ m) (h1 : m ≤ 4611686018426339328) (hk : n < k) :
    laws_heldInt64S.f k (marks m n) m = some (m + n) := by
  unfold laws_heldInt64S.f
  exact heldInt64S_l0 n 0 k (marks m n) m (by rw [marks_length]; omega) (by rw [marks_length]; omega) (by simp) h0 (by omega) hk


theorem heldMatrix_marks (a b m : Int) (n k : Nat) (hl : n ≤ 1048576) (h0 : 0 ≤ m) (h1 : m ≤ 4611686018426339328) (hk : n < k) :
    laws_heldMatrix.f k a b (marks m n) m = some (m + n) := by
  unfold laws_heldMatrix.f
  rw [heldInt64S_marks m n k hl h0 h1 hk]
  simp only [Option.bind_some]
  rw [if_neg (by omega)]


theorem idx_lt {r c i j : Nat} (hi : i < r) (hj : j < c) : i * c + j < r * c := by
  have h := Nat.mul_le_mul_right c (show i + 1 ≤ r by omega)
  rw [Nat.succ_mul] at h
  omega

theorem one_loop (n : Nat) (hn : n ≤ 48) : ∀ (d i k : Nat) (l : List Int), i + d = n → d < k → l.length = n * n →
    ∃ l', l'.length = n * n ∧ spec_l01One.l0 k (n : Int) (i : Int) n n l = some ((n : Int), (n : Int), l') ∧ impl_identity.l0 k (n : Int) (i : Int) n n l = some ((n : Int), (n : Int), l') := by
  have hm := Nat.mul_le_mul hn hn
  intro d
  induction d with
  | zero =>
    intro i k l hd hk hl
    obtain ⟨k, rfl⟩ := succ_k hk
    refine ⟨l, hl, ?_, ?_⟩
    · simp only [spec_l01One.l0]
      rw [if_neg (by omega)]
    · simp only [impl_identity.l0]
      rw [if_neg (by omega)]
  | succ d ih =>
    intro i k l hd hk hl
    obtain ⟨k, rfl⟩ := succ_k hk
    have hx := idx_lt (show i < n by omega) (show i < n by omega)
    have e1 : (i : Int) * n = ((i * n : Nat) : Int) := by simp
    have c5 : ((i * n : Nat) : Int) + (i : Int) < (l.length : Int) := by omega
    have c6 : (0 : Int) ≤ ((i * n : Nat) : Int) + (i : Int) := by omega
    obtain ⟨l', h1, h2, h3⟩ := ih (i + 1) k (l.set (((i * n : Nat) : Int) + (i : Int)).toNat 1) (by omega) (by omega) (by simp [hl])
    refine ⟨l', h1, ?_, ?_⟩
    · simp only [spec_l01One.l0]
      rw [if_pos (by omega), e1, w64 (((i * n : Nat) : Int)) (by omega) (by omega), w64 (((i * n : Nat) : Int) + (i : Int)) (by omega) (by omega), if_pos c6, if_pos c5, w64 _ (by omega) (by omega), cast_succ, h2]
    · simp only [impl_identity.l0]
      unfold impl_Matrix_at.f
      rw [if_pos (by omega), e1, w64 (((i * n : Nat) : Int)) (by omega) (by omega), w64 (((i * n : Nat) : Int) + (i : Int)) (by omega) (by omega), if_pos c6, if_pos c5]
      simp only [Option.bind_some]
      rw [if_pos c6, if_pos c5, w64 _ (by omega) (by omega), cast_succ, h3]
theorem one_both (a : Int) (k : Nat) (hk : 48 < k) :
    ∃ x y l b, l.length ≤ 2304 ∧ spec_IdentityMatrix.f k a = some (x, y, l, b) ∧ impl_IdentityMatrix.f k a = some (x, y, l, b) := by
  unfold spec_IdentityMatrix.f impl_IdentityMatrix.f spec_l01In.f impl_inRange.f
  by_cases h1 : 0 ≤ a <;> by_cases h2 : a ≤ 48
  case pos =>
    obtain ⟨n, rfl⟩ : ∃ n : Nat, a = n := ⟨a.toNat, by omega⟩
    have hm := Nat.mul_le_mul (show n ≤ 48 by omega) (show n ≤ 48 by omega)
    have e1 : (n : Int) * n = ((n * n : Nat) : Int) := by simp
    have hz : spec_l01Zero.f (n : Int) n = some ((n : Int), (n : Int), List.replicate (n * n) 0) := by
      unfold spec_l01Zero.f
      rw [e1, w64 _ (by omega) (by omega), if_pos (by omega), if_pos (by omega), Int.toNat_natCast]
    have hz2 : impl_zeroMatrix.f (n : Int) n = some ((n : Int), (n : Int), List.replicate (n * n) 0) := by
      unfold impl_zeroMatrix.f
      rw [e1, w64 _ (by omega) (by omega), if_pos (by omega), if_pos (by omega), Int.toNat_natCast]
    obtain ⟨l', h3, h4, h5⟩ := one_loop n (by omega) n 0 k (List.replicate (n * n) 0) (by omega) (by omega) (by simp)
    rw [Int.natCast_zero] at h4 h5
    unfold spec_l01One.f impl_identity.f
    rw [hz, hz2]
    simp only [Option.bind_some]
    rw [h4, h5]
    exact ⟨n, n, l', true, by omega, by simp [h2], by simp [h2]⟩
  all_goals exact ⟨0, 0, [], false, by simp, by simp [h1, h2], by simp [h1, h2]⟩
theorem FnExactIdentityMatrix : laws_FnExactIdentityMatrix.Pure := by
  intro a _
  obtain ⟨K, hK⟩ : ∃ K : Nat, K = 2400 := ⟨_, rfl⟩
  refine ⟨K + 1 + 1, ?_⟩
  unfold laws_FnExactIdentityMatrix.f
  have hb : ∃ x y l b, l.length ≤ 2304 ∧ ∀ k, 48 < k → (spec_IdentityMatrix.f k a = some (x, y, l, b) ∧ impl_IdentityMatrix.f k a = some (x, y, l, b)) := by
    obtain ⟨x, y, l, b, h0, h1, h2⟩ := one_both a 49 (by omega)
    exact ⟨x, y, l, b, h0, fun k hk => ⟨at_rounds (spec_IdentityMatrix.mono a) (by omega) h1, at_rounds (impl_IdentityMatrix.mono a) (by omega) h2⟩⟩
  obtain ⟨x, y, l, b, hl, hb⟩ := hb
  rw [(hb (K + 1 + 1) (by omega)).1, (hb (K + 1 + 1) (by omega)).2]
  simp only [Option.bind_some]
  rw [eqMatrix_self x y l _ (by omega) (by omega)]
  simp only [Option.bind_some, if_true, bne_self_eq_false, laws_FnExactIdentityMatrix.j0]
  rw [markMatrix_eq x y l 1 _ (by omega) (by omega) (by omega) (by omega)]
  simp only [Option.bind_some]
  rw [heldMatrix_marks x y 1 l.length _ (by omega) (by omega) (by omega) (by omega), (hb (K + 1) (by omega)).2]
  simp only [Option.bind_some]
  rw [eqMatrix_self x y l _ (by omega) (by omega)]
  simp only [Option.bind_some, if_true, bne_self_eq_false, laws_FnExactIdentityMatrix.j1]
  rw [heldMatrix_marks x y 1 l.length _ (by omega) (by omega) (by omega) (by omega)]
  simp
  rw [if_neg (by omega), if_neg (by omega)]

end Go.Proofs.Ytkfblcpiflbkaaa.Pure
