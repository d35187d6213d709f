/- Program and reference take the same minor, in new memory, and leave the argument. No condition: for every input that the statement lets in. -/
import Derived.Test.YtkfblcpiflbkaaaStmtFnExactMinorOf
namespace Go.Proofs.Ytkfblcpiflbkaaa.Pure
open Go.RowKit Go.Proofs.Ytkfblcpiflbkaaa.PFnExactMinorOf Go.Proofs.YtkfblcpiflbkaaaW.PrintWords Go.Proofs.YtkfblcpiflbkaaaW.PrintLast

set_option linter.unusedSimpArgs false
set_option linter.unusedVariables false
theorem w64 (x : Int) (h0 : -9223372036854775808 ≤ x) (h1 : x ≤ 9223372036854775807) : wrap64 x = x := by
  unfold wrap64
  omega
theorem w64n (n : Nat) (h : n ≤ 9223372036854775807) : wrap64 (n : Int) = (n : Int) := w64 _ (by omega) (by omega)
theorem rd_nat (l : List Int) (i : Nat) (h : i < l.length) : rd l (i : Int) = l[i] := by
  simp [rd, List.getD, List.getElem?_eq_getElem h]
theorem succ_k {k n : Nat} (h : n < k) : ∃ m, k = m + 1 := ⟨k - 1, by omega⟩
theorem cast_succ (i : Nat) : ((i : Int) + 1) = ((i + 1 : Nat) : Int) := by omega
theorem drop_rd (l : List Int) (k : Nat) (h : k < l.length) : l.drop k = rd l (k : Int) :: l.drop (k + 1) := by
  rw [List.drop_eq_getElem_cons h, rd_nat l k h]


theorem szInt64S_eq (l : List Int) (a : Int) (h0 : 0 ≤ a) (h1 : a ≤ 1048576) (hl : l.length ≤ maxLen) : laws_szInt64S.f l a = some (if a < l.length then -1 else a - l.length) := by
  unfold maxLen at hl
  unfold laws_szInt64S.f
  rw [w64 _ (by omega) (by omega)]
  by_cases h : a < l.length
  · rw [if_pos (by omega), if_pos h]
  · rw [if_neg (by omega), if_neg h]


theorem szMatrix_eq (a b : Int) (l : List Int) (m : Int) (h0 : 0 ≤ m) (h1 : m ≤ 1048576) (hl : l.length ≤ maxLen) : laws_szMatrix.f a b l m = some (if m < l.length then -1 else m - l.length) := by
  unfold laws_szMatrix.f
  rw [szInt64S_eq l m h0 h1 hl]
  simp only [Option.bind_some]
  by_cases h : m < l.length
  · rw [if_pos h, if_pos (by omega)]
  · rw [if_neg h, if_neg (by omega)]


theorem toInt64S_l0 (l : List Int) (hl : l.length ≤ 4611686018427387904) : ∀ (d i : Nat) (x3 : List Int) (k : Nat), x3.length = l.length → i + d = l.length → x3.take i = l.take i → d < k → laws_toInt64S.l0 k l x3 (i : Int) = some l := by
  intro d
  induction d with
  | zero =>
    intro i x3 k h3 hd ht hk
    obtain ⟨k, rfl⟩ := succ_k hk
    simp only [laws_toInt64S.l0]
    rw [if_neg (by omega)]
    have e : i = l.length := by omega
    subst e
    rw [List.take_length, List.take_of_length_le (by omega)] at ht
    rw [ht]
  | succ d ih =>
    intro i x3 k h3 hd ht hk
    obtain ⟨k, rfl⟩ := succ_k hk
    simp only [laws_toInt64S.l0]
    rw [if_pos (by omega), if_pos (by omega), if_pos (by omega), w64 _ (by omega) (by omega), cast_succ]
    refine ih (i + 1) _ k (by simp [h3]) (by omega) ?_ (by omega)
    rw [Int.toNat_natCast, rd_nat l i (by omega)]
    rw [List.take_succ_eq_append_getElem (by simp; omega), List.take_succ_eq_append_getElem (by omega), List.take_set_of_le (by omega), ht]
    simp
theorem toInt64S_eq (l : List Int) (k : Nat) (hl : l.length ≤ 1048576) (hk : l.length < k) : laws_toInt64S.f k l = some l := by
  unfold laws_toInt64S.f
  rw [if_pos (by omega), if_pos (by omega)]
  exact toInt64S_l0 l (by omega) l.length 0 _ k (by simp) (by omega) (by simp) hk


theorem toMatrix_eq (a b : Int) (l : List Int) (k : Nat) (hl : l.length ≤ 1048576) (hk : l.length < k) : laws_toMatrix.f k a b l = some (a, b, l) := by
  unfold laws_toMatrix.f
  rw [toInt64S_eq l k hl hk]
  rfl


theorem eqInt64S_l0 (l r : List Int) (hr : r.length = l.length) (hl : l.length ≤ 4611686018427387904) : ∀ (d i k : Nat), i + d = l.length → d < k → laws_eqInt64S.l0 k l r (i : Int) = some (decide (l.drop i = r.drop i)) := by
  intro d
  induction d with
  | zero =>
    intro i k hd hk
    obtain ⟨k, rfl⟩ := succ_k hk
    simp only [laws_eqInt64S.l0]
    rw [if_neg (by omega), List.drop_of_length_le (by omega), List.drop_of_length_le (by omega)]
    simp
  | succ d ih =>
    intro i k hd hk
    obtain ⟨k, rfl⟩ := succ_k hk
    simp only [laws_eqInt64S.l0]
    rw [if_pos (by omega), if_pos (by omega), if_pos (by omega), w64 _ (by omega) (by omega), cast_succ, ih (i + 1) k (by omega) (by omega), drop_rd l i (by omega), drop_rd r i (by omega)]
    by_cases h : rd l (i : Int) = rd r (i : Int)
    · simp [h]
    · simp [h]
theorem eqInt64S_eq (l r : List Int) (k : Nat) (hl : l.length ≤ 4611686018427387904) (hk : l.length < k) : laws_eqInt64S.f k l r = some (decide (l = r)) := by
  unfold laws_eqInt64S.f
  by_cases h : l.length = r.length
  · rw [if_pos (by omega)]
    have := eqInt64S_l0 l r h.symm hl l.length 0 k (by omega) hk
    simpa using this
  · rw [if_neg (by omega)]
    have : ¬ l = r := fun e => h (by rw [e])
    simp [this]
theorem eqInt64S_self (l : List Int) (k : Nat) (hl : l.length ≤ 4611686018427387904) (hk : l.length < k) : laws_eqInt64S.f k l l = some true := by
  rw [eqInt64S_eq l l k hl hk]
  simp


theorem eqMatrix_self (a b : Int) (l : List Int) (k : Nat) (hl : l.length ≤ 4611686018427387904) (hk : l.length < k) : laws_eqMatrix.f k a b l a b l = some true := by
  unfold laws_eqMatrix.f
  rw [if_pos rfl, if_pos rfl, eqInt64S_self l k hl hk]
  rfl


/-- The numbers from m on. -/
def marks : Int → Nat → List Int
  | _, 0 => []
  | m, n + 1 => m :: marks (m + 1) n
theorem marks_length : ∀ (m : Int) (n : Nat), (marks m n).length = n
  | _, 0 => rfl
  | m, n + 1 => by simp [marks, marks_length (m + 1) n]


theorem markInt64S_l0 : ∀ (d i k : Nat) (x0 : List Int) (x1 : Int), x0.length ≤ 4611686018427387904 → i + d = x0.length → 0 ≤ x1 → x1 + d ≤ 4611686018427387904 → d < k →
    laws_markInt64S.l0 k x0 x1 (i : Int) = some (x1 + d, x0.take i ++ marks x1 d) := by
  intro d
  induction d with
  | zero =>
    intro i k x0 x1 hl hd h0 h1 hk
    obtain ⟨k, rfl⟩ := succ_k hk
    simp only [laws_markInt64S.l0]
    rw [if_neg (by omega)]
    simp [marks, List.take_of_length_le (show x0.length ≤ i by omega)]
  | succ d ih =>
    intro i k x0 x1 hl hd h0 h1 hk
    obtain ⟨k, rfl⟩ := succ_k hk
    simp only [laws_markInt64S.l0]
    rw [if_pos (by omega), if_pos (by omega), w64 _ (by omega) (by omega), w64 _ (by omega) (by omega), cast_succ, Int.toNat_natCast]
    rw [ih (i + 1) k (x0.set i x1) (x1 + 1) (by simp; omega) (by simp; omega) (by omega) (by omega) (by omega)]
    rw [List.take_succ_eq_append_getElem (by simp; omega), List.take_set_of_le (by omega)]
    simp only [marks, List.getElem_set_self, List.append_assoc, List.singleton_append]
    rw [show x1 + 1 + (d : Int) = x1 + ((d + 1 : Nat) : Int) by omega]
theorem markInt64S_eq (l : List Int) (m : Int) (k : Nat) (hl : l.length ≤ 1048576) (h0 : 0 ≤ m) (h1 : m ≤ 4611686018426339328) (hk : l.length < k) :
    laws_markInt64S.f k l m = some (m + l.length, marks m l.length) := by
  unfold laws_markInt64S.f
  have := markInt64S_l0 l.length 0 k l m (by omega) (by omega) h0 (by omega) hk
  simpa using this


theorem markMatrix_eq (a b : Int) (l : List Int) (m : Int) (k : Nat) (hl : l.length ≤ 1048576) (h0 : 0 ≤ m) (h1 : m ≤ 4611686018426339328) (hk : l.length < k) :
    laws_markMatrix.f k a b l m = some (m + l.length, marks m l.length) := by
  unfold laws_markMatrix.f
  rw [markInt64S_eq l m k hl h0 h1 hk]
  rfl


theorem heldInt64S_l0 : ∀ (d i k : Nat) (x0 : List Int) (x1 : Int), x0.length ≤ 4611686018427387904 → i + d = x0.length → x0.drop i = marks x1 d → 0 ≤ x1 → x1 + d ≤ 4611686018427387904 → d < k →
    laws_heldInt64S.l0 k x0 x1 (i : Int) = some (x1 + d) := by
  intro d
  induction d with
  | zero =>
    intro i k x0 x1 hl hd he h0 h1 hk
    obtain ⟨k, rfl⟩ := succ_k hk
    simp only [laws_heldInt64S.l0]
    rw [if_neg (by omega)]
    simp
  | succ d ih =>
    intro i k x0 x1 hl hd he h0 h1 hk
    obtain ⟨k, rfl⟩ := succ_k hk
    simp only [laws_heldInt64S.l0]
    rw [drop_rd x0 i (by omega)] at he
    simp only [marks, List.cons.injEq] at he
    rw [if_pos (by omega), if_pos (by omega), if_pos he.1, w64 _ (by omega) (by omega), w64 _ (by omega) (by omega), cast_succ, ih (i + 1) k x0 (x1 + 1) hl (by omega) he.2 (by omega) (by omega) (by omega)]
    rw [show x1 + 1 + (d : Int) = x1 + ((d + 1 : Nat) : Int) by omega]
theorem heldInt64S_marks (m : Int) (n k : Nat) (hl : n ≤ 1048576) (h0 : 0 ≤ m) (h1 : m ≤ 4611686018426339328) (hk : n < k) :
    laws_heldInt64S.f k (marks m n) m = some (m + n) := by
  unfold laws_heldInt64S.f
  exact heldInt64S_l0 n 0 k (marks m n) m (by rw [marks_length]; omega) (by rw [marks_length]; omega) (by simp) h0 (by omega) hk


theorem heldMatrix_marks (a b m : Int) (n k : Nat) (hl : n ≤ 1048576) (h0 : 0 ≤ m) (h1 : m ≤ 4611686018426339328) (hk : n < k) :
    laws_heldMatrix.f k a b (marks m n) m = some (m + n) := by
  unfold laws_heldMatrix.f
  rw [heldInt64S_marks m n k hl h0 h1 hk]
  simp only [Option.bind_some]
  rw [if_neg (by omega)]


theorem specIsMatrix_l0 (a b : Int) (l : List Int) (hl : l.length ≤ 1048576) : ∀ (d i k : Nat), i + d = l.length → d < k →
    spec_IsMatrix.l0 k (i : Int) a b l = some (!((l.drop i).any matBad)) := by
  intro d
  induction d with
  | zero =>
    intro i k hd hk
    obtain ⟨k, rfl⟩ := succ_k hk
    simp only [spec_IsMatrix.l0]
    rw [if_neg (by omega), List.drop_of_length_le (by omega)]
    rfl
  | succ d ih =>
    intro i k hd hk
    obtain ⟨k, rfl⟩ := succ_k hk
    simp only [spec_IsMatrix.l0]
    rw [if_pos (by omega), if_pos (by omega), w64 _ (by omega) (by omega), cast_succ, ih (i + 1) k (by omega) (by omega), drop_rd l i (by omega)]
    unfold spec_l01In.f
    rw [List.any_cons]
    unfold matBad
    generalize rd l (i : Int) = y
    by_cases h1 : -1000000000000 ≤ y <;> by_cases h2 : y ≤ 1000000000000 <;> simp [h1, h2]
theorem prod48 (a b : Int) (h1 : 0 ≤ a) (h2 : a ≤ 48) (h3 : 0 ≤ b) (h4 : b ≤ 48) : 0 ≤ a * b ∧ a * b ≤ 2304 :=
  ⟨Int.mul_nonneg h1 h3, Int.le_trans (Int.mul_le_mul h2 h4 h3 (by omega)) (by omega)⟩
theorem specIsMatrix_eq (a b : Int) (l : List Int) (k : Nat) (hl : l.length ≤ 1048576) (hk : l.length + 1 < k) : spec_IsMatrix.f k a b l = some (isMatB a b l) := by
  obtain ⟨k, rfl⟩ := succ_k hk
  have hs := specIsMatrix_l0 a b l hl l.length 0 k (by omega) (by omega)
  unfold spec_IsMatrix.f spec_l01In.f isMatB
  simp only [spec_IsMatrix.j0]
  by_cases h1 : 0 ≤ a <;> by_cases h2 : a ≤ 48 <;> by_cases h3 : 0 ≤ b <;> by_cases h4 : b ≤ 48
  case pos =>
    have hp := prod48 a b h1 h2 h3 h4
    rw [w64 (a * b) (by omega) (by omega)]
    rw [Int.natCast_zero] at hs
    by_cases h5 : (l.length : Int) = a * b
    · have h5' : ((l.length : Int) != a * b) = false := by simp [h5]
      simp [h1, h2, h3, h4, h5, h5', hs]
    · have h5' : ((l.length : Int) != a * b) = true := by simp [h5]
      simp [h1, h2, h3, h4, h5, h5']
  all_goals simp [h1, h2, h3, h4]


theorem isMatB_len {a b : Int} {l : List Int} (h : isMatB a b l = true) : (0 ≤ a ∧ a ≤ 48) ∧ (0 ≤ b ∧ b ≤ 48) ∧ (l.length : Int) = a * b := by
  unfold isMatB at h
  simp only [Bool.and_eq_true, decide_eq_true_eq] at h
  exact ⟨h.1, h.2.1, h.2.2.1⟩


theorem idx_lt {r c i j : Nat} (hi : i < r) (hj : j < c) : i * c + j < r * c := by
  have h := Nat.mul_le_mul_right c (show i + 1 ≤ r by omega)
  rw [Nat.succ_mul] at h
  omega

theorem mi_l1 (R C M : Nat) (hM : ∀ i j : Nat, i < R → j < C → i * C + j < M) (hm : M ≤ 2304) (hC : C ≤ 48) (hR : R ≤ 48) (l : List Int) (hl : l.length = M) (u v x y : Int) (i : Nat) (hi : i < R) (F : Nat)
    (IH : ∀ (k : Nat) (acc : List Int), F < k → acc.length ≤ (i + 1) * 48 → ∃ r : List Int, r.length ≤ R * 48 ∧ spec_l01Minor.l0 k u v ((i + 1 : Nat) : Int) R C l x y acc = some (x, y, r) ∧ impl_minor.l0 k u v R ((i + 1 : Nat) : Int) R C l x y acc = some (x, y, r)) :
    ∀ (d j k : Nat) (acc : List Int), j + d = C → d + 1 + F < k → acc.length ≤ i * 48 + j →
    ∃ r : List Int, r.length ≤ R * 48 ∧ spec_l01Minor.l1 k u v (i : Int) (j : Int) R C l x y acc = some (x, y, r) ∧ impl_minor.l1 k u v (i : Int) R (i : Int) C (j : Int) R C l x y acc = some (x, y, r) := by
  intro d
  induction d with
  | zero =>
    intro j k acc hj hk ha
    obtain ⟨k, rfl⟩ := succ_k (show 0 + F < k by omega)
    obtain ⟨r, h1, h2, h3⟩ := IH k acc (by omega) (by omega)
    refine ⟨r, h1, ?_, ?_⟩
    · simp only [spec_l01Minor.l1]
      rw [if_neg (by omega), w64 ((i : Int) + 1) (by omega) (by omega), cast_succ, h2]
    · simp only [impl_minor.l1]
      rw [if_neg (by omega), w64 ((i : Int) + 1) (by omega) (by omega), cast_succ, h3]
  | succ d ih =>
    intro j k acc hj hk ha
    obtain ⟨k, rfl⟩ := succ_k (show 0 + F < k by omega)
    obtain ⟨p, hx, e1⟩ : ∃ p : Nat, p + j < M ∧ (i : Int) * (C : Int) = (p : Int) := ⟨i * C, hM i j hi (by omega), by simp⟩
    have wp0 : wrap64 (p : Int) = (p : Int) := w64n p (Nat.le_trans (Nat.le_trans (Nat.le_add_right p j) (Nat.le_of_lt (Nat.lt_of_lt_of_le hx hm))) (by decide))
    have wp : wrap64 ((p : Int) + (j : Int)) = ((p + j : Nat) : Int) := w64n (p + j) (Nat.le_trans (Nat.le_of_lt (Nat.lt_of_lt_of_le hx hm)) (by decide))
    simp only [spec_l01Minor.l1, impl_minor.l1]
    unfold spec_l01At.f impl_Matrix_at.f
    rw [e1]
    clear e1
    rw [wp0, wp]
    clear wp0 wp
    rw [w64 ((j : Int) + 1) (by omega) (by omega), cast_succ]
    have c0 : (j : Int) < (C : Int) := by omega
    simp only [c0, if_true]
    by_cases c1 : (i : Int) = u
    · rw [if_pos c1, if_pos c1]
      exact ih (j + 1) k acc (by omega) (by omega) (by omega)
    · rw [if_neg c1, if_neg c1]
      by_cases c2 : (j : Int) = v
      · rw [if_pos c2, if_pos c2]
        exact ih (j + 1) k acc (by omega) (by omega) (by omega)
      · rw [if_neg c2, if_neg c2]
        have c3 : (0 : Int) ≤ ((p + j : Nat) : Int) := by omega
        have c4 : ((p + j : Nat) : Int) < (l.length : Int) := by omega
        have c5 : acc.length < 17592186044416 := by omega
        simp only [c3, c4, c5, if_true, Option.bind_some]
        exact ih (j + 1) k _ (by omega) (by omega) (by simp; omega)
theorem mi_l0 (R C M : Nat) (hM : ∀ i j : Nat, i < R → j < C → i * C + j < M) (hm : M ≤ 2304) (hC : C ≤ 48) (hR : R ≤ 48) (l : List Int) (hl : l.length = M) (u v x y : Int) : ∀ (d i k : Nat) (acc : List Int), i + d = R → d * 100 < k → acc.length ≤ i * 48 →
    ∃ r : List Int, r.length ≤ R * 48 ∧ spec_l01Minor.l0 k u v (i : Int) R C l x y acc = some (x, y, r) ∧ impl_minor.l0 k u v R (i : Int) R C l x y acc = some (x, y, r) := by
  intro d
  induction d with
  | zero =>
    intro i k acc hi hk ha
    obtain ⟨k, rfl⟩ := succ_k (show 0 < k by omega)
    refine ⟨acc, by omega, ?_, ?_⟩
    · simp only [spec_l01Minor.l0]
      rw [if_neg (by omega)]
    · simp only [impl_minor.l0]
      rw [if_neg (by omega)]
  | succ d ih =>
    intro i k acc hi hk ha
    obtain ⟨k, rfl⟩ := succ_k (show d * 100 < k by omega)
    obtain ⟨r, h1, h2, h3⟩ := mi_l1 R C M hM hm hC hR l hl u v x y i (by omega) (d * 100) (fun k acc h1 h2 => ih (i + 1) k acc (by omega) h1 h2) C 0 k acc (by omega) (by omega) (by omega)
    refine ⟨r, h1, ?_, ?_⟩
    · simp only [spec_l01Minor.l0]
      rw [if_pos (by omega)]
      exact h2
    · simp only [impl_minor.l0]
      rw [if_pos (by omega)]
      exact h3
theorem minor_eq (a b : Int) (l : List Int) (u v : Int) (h1 : 0 ≤ a ∧ a ≤ 48) (h2 : 0 ≤ b ∧ b ≤ 48) (h3 : (l.length : Int) = a * b) :
    ∃ r : List Int, r.length ≤ 2304 ∧ ∀ k, 4801 < k → (spec_l01Minor.f k a b l u v = some (a - 1, b - 1, r) ∧ impl_minor.f k a b l u v = some (a - 1, b - 1, r)) := by
  obtain ⟨R, rfl⟩ : ∃ R : Nat, a = R := ⟨a.toNat, by omega⟩
  obtain ⟨C, rfl⟩ : ∃ C : Nat, b = C := ⟨b.toNat, by omega⟩
  have hm := Nat.mul_le_mul (show R ≤ 48 by omega) (show C ≤ 48 by omega)
  have e1 : (R : Int) * (C : Int) = ((R * C : Nat) : Int) := by simp
  rw [e1] at h3
  obtain ⟨K, hK⟩ : ∃ K : Nat, K = 4801 := ⟨_, rfl⟩
  obtain ⟨r, h4, h5, h6⟩ := mi_l0 R C (R * C) (fun i j h1 h2 => idx_lt h1 h2) (by omega) (by omega) (by omega) l (by omega) u v ((R : Int) - 1) ((C : Int) - 1) R 0 K [] (by omega) (by omega) (by simp)
  rw [Int.natCast_zero] at h5 h6
  refine ⟨r, by omega, fun k hk => ⟨at_rounds (spec_l01Minor.mono _ _ _ _ _) (show K ≤ k by omega) ?_, at_rounds (impl_minor.mono _ _ _ _ _) (show K ≤ k by omega) ?_⟩⟩
  · unfold spec_l01Minor.f
    rw [w64 ((R : Int) - 1) (by omega) (by omega), w64 ((C : Int) - 1) (by omega) (by omega)]
    exact h5
  · unfold impl_minor.f
    rw [w64 ((R : Int) - 1) (by omega) (by omega), w64 ((C : Int) - 1) (by omega) (by omega)]
    exact h6

theorem minor_both (a b : Int) (l : List Int) (u v : Int) (hl : l.length ≤ 1048576) : ∃ x y r t, r.length ≤ 1048576 ∧ ∀ k, l.length + 5000 < k → (spec_MinorOf.f k a b l u v = some (x, y, r, t) ∧ impl_MinorOf.f k a b l u v = some (x, y, r, t)) := by
  by_cases hb : isMatB a b l = true
  case neg =>
    refine ⟨0, 0, [], false, by simp, fun k hk => ?_⟩
    unfold spec_MinorOf.f impl_MinorOf.f impl_hasEntry.f impl_isMatrix.f
    rw [specIsMatrix_eq a b l k hl (by omega)]
    simp [hb]
  obtain ⟨h1, h2, h3⟩ := isMatB_len hb
  by_cases c1 : 0 ≤ u <;> by_cases c2 : u ≤ a - 1 <;> by_cases c3 : 0 ≤ v <;> by_cases c4 : v ≤ b - 1
  case pos =>
    obtain ⟨r, hr, hk⟩ := minor_eq a b l u v h1 h2 h3
    refine ⟨a - 1, b - 1, r, true, by omega, fun k hk2 => ?_⟩
    obtain ⟨h5, h6⟩ := hk k (by omega)
    unfold spec_MinorOf.f impl_MinorOf.f impl_hasEntry.f impl_isMatrix.f spec_l01In.f impl_inRange.f
    rw [specIsMatrix_eq a b l k hl (by omega), w64 (a - 1) (by omega) (by omega), w64 (b - 1) (by omega) (by omega), h5, h6]
    constructor <;> simp [hb, c1, c2, c3, c4]
  all_goals
    refine ⟨0, 0, [], false, by simp, fun k hk => ?_⟩
    unfold spec_MinorOf.f impl_MinorOf.f impl_hasEntry.f impl_isMatrix.f spec_l01In.f impl_inRange.f
    rw [specIsMatrix_eq a b l k hl (by omega), w64 (a - 1) (by omega) (by omega), w64 (b - 1) (by omega) (by omega)]
    simp [hb, c1, c2, c3, c4]
theorem FnExactMinorOf : laws_FnExactMinorOf.Pure := by
  intro a b l u v _ _ hl hw _ _
  obtain ⟨K, hK⟩ : ∃ K : Nat, K = 1058600 := ⟨_, rfl⟩
  refine ⟨K + 1 + 1 + 1, ?_⟩
  unfold laws_FnExactMinorOf.f
  rw [szMatrix_eq a b l 1048576 (by omega) (by omega) hl]
  simp only [Option.bind_some]
  by_cases h : (1048576 : Int) < l.length
  · simp [h]
  · have hl' : l.length ≤ 1048576 := by omega
    obtain ⟨x, y, r, t, hr, hb⟩ := minor_both a b l u v hl'
    rw [if_neg h, if_neg (by omega)]
    simp (disch := omega) only [toMatrix_eq, hb, eqMatrix_self, markMatrix_eq, Option.bind_some, if_true, Bool.not_true, bne_self_eq_false]
    simp only [laws_FnExactMinorOf.j0]
    simp (disch := omega) only [toMatrix_eq, hb, eqMatrix_self, markMatrix_eq, heldMatrix_marks, Option.bind_some, if_true, bne_self_eq_false]
    rw [if_neg (by simp), if_neg (by omega)]
    simp only [laws_FnExactMinorOf.j1]
    simp (disch := omega) only [toMatrix_eq, hb, eqMatrix_self, markMatrix_eq, heldMatrix_marks, Option.bind_some, if_true, bne_self_eq_false]
    rw [if_neg (by simp), if_neg (by omega)]
    simp only [laws_FnExactMinorOf.j2]
    simp (disch := omega) only [toMatrix_eq, hb, eqMatrix_self, markMatrix_eq, heldMatrix_marks, Option.bind_some, if_true, bne_self_eq_false]
    rw [if_neg (by simp), if_neg (by omega)]

end Go.Proofs.Ytkfblcpiflbkaaa.Pure
