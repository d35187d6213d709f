/- Program and reference multiply alike, in new memory, and leave the arguments. No condition: for every input that the statement lets in. -/
import Derived.Test.YtkfblcpiflbkaaaStmtFnExactMultiplyMatrices
namespace Go.Proofs.Ytkfblcpiflbkaaa.Pure
open Go.RowKit Go.Proofs.Ytkfblcpiflbkaaa.PFnExactMultiplyMatrices Go.Proofs.YtkfblcpiflbkaaaW.PrintWords Go.Proofs.YtkfblcpiflbkaaaW.PrintLast

set_option linter.unusedSimpArgs false
set_option linter.unusedVariables false
theorem w64 (x : Int) (h0 : -9223372036854775808 ≤ x) (h1 : x ≤ 9223372036854775807) : wrap64 x = x := by
  unfold wrap64
  omega
theorem w64n (n : Nat) (h : n ≤ 9223372036854775807) : wrap64 (n : Int) = (n : Int) := w64 _ (by omega) (by omega)
theorem rd_nat (l : List Int) (i : Nat) (h : i < l.length) : rd l (i : Int) = l[i] := by
  simp [rd, List.getD, List.getElem?_eq_getElem h]
theorem succ_k {k n : Nat} (h : n < k) : ∃ m, k = m + 1 := ⟨k - 1, by omega⟩
theorem cast_succ (i : Nat) : ((i : Int) + 1) = ((i + 1 : Nat) : Int) := by omega
theorem drop_rd (l : List Int) (k : Nat) (h : k < l.length) : l.drop k = rd l (k : Int) :: l.drop (k + 1) := by
  rw [List.drop_eq_getElem_cons h, rd_nat l k h]


theorem szInt64S_eq (l : List Int) (a : Int) (h0 : 0 ≤ a) (h1 : a ≤ 1048576) (hl : l.length ≤ maxLen) : laws_szInt64S.f l a = some (if a < l.length then -1 else a - l.length) := by
  unfold maxLen at hl
  unfold laws_szInt64S.f
  rw [w64 _ (by omega) (by omega)]
  by_cases h : a < l.length
  · rw [if_pos (by omega), if_pos h]
  · rw [if_neg (by omega), if_neg h]


theorem szMatrix_eq (a b : Int) (l : List Int) (m : Int) (h0 : 0 ≤ m) (h1 : m ≤ 1048576) (hl : l.length ≤ maxLen) : laws_szMatrix.f a b l m = some (if m < l.length then -1 else m - l.length) := by
  unfold laws_szMatrix.f
  rw [szInt64S_eq l m h0 h1 hl]
  simp only [Option.bind_some]
  by_cases h : m < l.length
  · rw [if_pos h, if_pos (by omega)]
  · rw [if_neg h, if_neg (by omega)]


theorem toInt64S_l0 (l : List Int) (hl : l.length ≤ 4611686018427387904) : ∀ (d i : Nat) (x3 : List Int) (k : Nat), x3.length = l.length → i + d = l.length → x3.take i = l.take i → d < k → laws_toInt64S.l0 k l x3 (i : Int) = some l := by
  intro d
  induction d with
  | zero =>
    intro i x3 k h3 hd ht hk
    obtain ⟨k, rfl⟩ := succ_k hk
    simp only [laws_toInt64S.l0]
    rw [if_neg (by omega)]
    have e : i = l.length := by omega
    subst e
    rw [List.take_length, List.take_of_length_le (by omega)] at ht
    rw [ht]
  | succ d ih =>
    intro i x3 k h3 hd ht hk
    obtain ⟨k, rfl⟩ := succ_k hk
    simp only [laws_toInt64S.l0]
    rw [if_pos (by omega), if_pos (by omega), if_pos (by omega), w64 _ (by omega) (by omega), cast_succ]
    refine ih (i + 1) _ k (by simp [h3]) (by omega) ?_ (by omega)
    rw [Int.toNat_natCast, rd_nat l i (by omega)]
    rw [List.take_succ_eq_append_getElem (by simp; omega), List.take_succ_eq_append_getElem (by omega), List.take_set_of_le (by omega), ht]
    simp
theorem toInt64S_eq (l : List Int) (k : Nat) (hl : l.length ≤ 1048576) (hk : l.length < k) : laws_toInt64S.f k l = some l := by
  unfold laws_toInt64S.f
  rw [if_pos (by omega), if_pos (by omega)]
  exact toInt64S_l0 l (by omega) l.length 0 _ k (by simp) (by omega) (by simp) hk


theorem toMatrix_eq (a b : Int) (l : List Int) (k : Nat) (hl : l.length ≤ 1048576) (hk : l.length < k) : laws_toMatrix.f k a b l = some (a, b, l) := by
  unfold laws_toMatrix.f
  rw [toInt64S_eq l k hl hk]
  rfl


theorem eqInt64S_l0 (l r : List Int) (hr : r.length = l.length) (hl : l.length ≤ 4611686018427387904) : ∀ (d i k : Nat), i + d = l.length → d < k → laws_eqInt64S.l0 k l r (i : Int) = some (decide (l.drop i = r.drop i)) := by
  intro d
  induction d with
  | zero =>
    intro i k hd hk
    obtain ⟨k, rfl⟩ := succ_k hk
    simp only [laws_eqInt64S.l0]
    rw [if_neg (by omega), List.drop_of_length_le (by omega), List.drop_of_length_le (by omega)]
    simp
  | succ d ih =>
    intro i k hd hk
    obtain ⟨k, rfl⟩ := succ_k hk
    simp only [laws_eqInt64S.l0]
    rw [if_pos (by omega), if_pos (by omega), if_pos (by omega), w64 _ (by omega) (by omega), cast_succ, ih (i + 1) k (by omega) (by omega), drop_rd l i (by omega), drop_rd r i (by omega)]
    by_cases h : rd l (i : Int) = rd r (i : Int)
    · simp [h]
    · simp [h]
theorem eqInt64S_eq (l r : List Int) (k : Nat) (hl : l.length ≤ 4611686018427387904) (hk : l.length < k) : laws_eqInt64S.f k l r = some (decide (l = r)) := by
  unfold laws_eqInt64S.f
  by_cases h : l.length = r.length
  · rw [if_pos (by omega)]
    have := eqInt64S_l0 l r h.symm hl l.length 0 k (by omega) hk
    simpa using this
  · rw [if_neg (by omega)]
    have : ¬ l = r := fun e => h (by rw [e])
    simp [this]
theorem eqInt64S_self (l : List Int) (k : Nat) (hl : l.length ≤ 4611686018427387904) (hk : l.length < k) : laws_eqInt64S.f k l l = some true := by
  rw [eqInt64S_eq l l k hl hk]
  simp


theorem eqMatrix_self (a b : Int) (l : List Int) (k : Nat) (hl : l.length ≤ 4611686018427387904) (hk : l.length < k) : laws_eqMatrix.f k a b l a b l = some true := by
  unfold laws_eqMatrix.f
  rw [if_pos rfl, if_pos rfl, eqInt64S_self l k hl hk]
  rfl


/-- The numbers from m on. -/
def marks : Int → Nat → List Int
  | _, 0 => []
  | m, n + 1 => m :: marks (m + 1) n
theorem marks_length : ∀ (m : Int) (n : Nat), (marks m n).length = n
  | _, 0 => rfl
  | m, n + 1 => by simp [marks, marks_length (m + 1) n]


theorem markInt64S_l0 : ∀ (d i k : Nat) (x0 : List Int) (x1 : Int), x0.length ≤ 4611686018427387904 → i + d = x0.length → 0 ≤ x1 → x1 + d ≤ 4611686018427387904 → d < k →
    laws_markInt64S.l0 k x0 x1 (i : Int) = some (x1 + d, x0.take i ++ marks x1 d) := by
  intro d
  induction d with
  | zero =>
    intro i k x0 x1 hl hd h0 h1 hk
    obtain ⟨k, rfl⟩ := succ_k hk
    simp only [laws_markInt64S.l0]
    rw [if_neg (by omega)]
    simp [marks, List.take_of_length_le (show x0.length ≤ i by omega)]
  | succ d ih =>
    intro i k x0 x1 hl hd h0 h1 hk
    obtain ⟨k, rfl⟩ := succ_k hk
    simp only [laws_markInt64S.l0]
    rw [if_pos (by omega), if_pos (by omega), w64 _ (by omega) (by omega), w64 _ (by omega) (by omega), cast_succ, Int.toNat_natCast]
    rw [ih (i + 1) k (x0.set i x1) (x1 + 1) (by simp; omega) (by simp; omega) (by omega) (by omega) (by omega)]
    rw [List.take_succ_eq_append_getElem (by simp; omega), List.take_set_of_le (by omega)]
    simp only [marks, List.getElem_set_self, List.append_assoc, List.singleton_append]
    rw [show x1 + 1 + (d : Int) = x1 + ((d + 1 : Nat) : Int) by omega]
theorem markInt64S_eq (l : List Int) (m : Int) (k : Nat) (hl : l.length ≤ 1048576) (h0 : 0 ≤ m) (h1 : m ≤ 4611686018426339328) (hk : l.length < k) :
    laws_markInt64S.f k l m = some (m + l.length, marks m l.length) := by
  unfold laws_markInt64S.f
  have := markInt64S_l0 l.length 0 k l m (by omega) (by omega) h0 (by omega) hk
  simpa using this


theorem markMatrix_eq (a b : Int) (l : List Int) (m : Int) (k : Nat) (hl : l.length ≤ 1048576) (h0 : 0 ≤ m) (h1 : m ≤ 4611686018426339328) (hk : l.length < k) :
    laws_markMatrix.f k a b l m = some (m + l.length, marks m l.length) := by
  unfold laws_markMatrix.f
  rw [markInt64S_eq l m k hl h0 h1 hk]
  rfl


theorem heldInt64S_l0 : ∀ (d i k : Nat) (x0 : List Int) (x1 : Int), x0.length ≤ 4611686018427387904 → i + d = x0.length → x0.drop i = marks x1 d → 0 ≤ x1 → x1 + d ≤ 4611686018427387904 → d < k →
    laws_heldInt64S.l0 k x0 x1 (i : Int) = some (x1 + d) := by
  intro d
  induction d with
  | zero =>
    intro i k x0 x1 hl hd he h0 h1 hk
    obtain ⟨k, rfl⟩ := succ_k hk
    simp only [laws_heldInt64S.l0]
    rw [if_neg (by omega)]
    simp
  | succ d ih =>
    intro i k x0 x1 hl hd he h0 h1 hk
    obtain ⟨k, rfl⟩ := succ_k hk
    simp only [laws_heldInt64S.l0]
    rw [drop_rd x0 i (by omega)] at he
    simp only [marks, List.cons.injEq] at he
    rw [if_pos (by omega), if_pos (by omega), if_pos he.1, w64 _ (by omega) (by omega), w64 _ (by omega) (by omega), cast_succ, ih (i + 1) k x0 (x1 + 1) hl (by omega) he.2 (by omega) (by omega) (by omega)]
    rw [show x1 + 1 + (d : Int) = x1 + ((d + 1 : Nat) : Int) by omega]
theorem heldInt64S_marks (m : Int) (n k : Nat) (hl : n ≤ 1048576) (h0 : 0 ≤ m) (h1 : m ≤ 4611686018426339328) (hk : n < k) :
    laws_heldInt64S.f k (marks m n) m = some (m + n) := by
  unfold laws_heldInt64S.f
  exact heldInt64S_l0 n 0 k (marks m n) m (by rw [marks_length]; omega) (by rw [marks_length]; omega) (by simp) h0 (by omega) hk


theorem heldMatrix_marks (a b m : Int) (n k : Nat) (hl : n ≤ 1048576) (h0 : 0 ≤ m) (h1 : m ≤ 4611686018426339328) (hk : n < k) :
    laws_heldMatrix.f k a b (marks m n) m = some (m + n) := by
  unfold laws_heldMatrix.f
  rw [heldInt64S_marks m n k hl h0 h1 hk]
  simp only [Option.bind_some]
  rw [if_neg (by omega)]


theorem idx_lt {r c i j : Nat} (hi : i < r) (hj : j < c) : i * c + j < r * c := by
  have h := Nat.mul_le_mul_right c (show i + 1 ≤ r by omega)
  rw [Nat.succ_mul] at h
  omega

theorem wrap_rng (x : Int) : -9223372036854775808 ≤ wrap64 x ∧ wrap64 x ≤ 9223372036854775807 := by
  unfold wrap64
  omega
theorem abs_eq (x : Int) (h : -9223372036854775808 ≤ x ∧ x ≤ 9223372036854775807) : ∃ y, spec_l01Abs.f x = some y ∧ impl_abs.f x = some y := by
  unfold spec_l01Abs.f impl_abs.f mx
  refine ⟨_, rfl, ?_⟩
  by_cases h0 : x < 0
  · rw [if_pos h0]
    by_cases h1 : x = -9223372036854775808
    · subst h1
      have e : wrap64 (-(-9223372036854775808)) = -9223372036854775808 := by unfold wrap64; omega
      rw [e]
      rfl
    · rw [w64 (-x) (by omega) (by omega), if_pos (by omega)]
  · rw [if_neg h0, w64 (-x) (by omega) (by omega), if_neg (by omega)]
theorem times_eq (s t : Int) (hs : -9223372036854775808 ≤ s ∧ s ≤ 9223372036854775807) (ht : -9223372036854775808 ≤ t ∧ t ≤ 9223372036854775807) :
    ∃ p q, (-9223372036854775808 ≤ p ∧ p ≤ 9223372036854775807) ∧ spec_l01Times.f s t 1000000000000 = some (p, q) ∧ impl_product.f s t 1000000000000 = some (p, q) := by
  obtain ⟨u, h1, h2⟩ := abs_eq s hs
  obtain ⟨v, h3, h4⟩ := abs_eq t ht
  unfold spec_l01Times.f impl_product.f
  rw [h1, h2, h3, h4]
  simp only [Option.bind_some]
  by_cases c1 : s = 0
  · rw [if_pos c1]
    exact ⟨_, _, wrap_rng _, rfl, rfl⟩
  · rw [if_neg c1]
    have hu : ¬ u = 0 := by
      unfold impl_abs.f at h2
      by_cases h0 : s < 0
      · rw [if_pos h0] at h2
        have h5 := Option.some.inj h2
        intro h6
        rw [h6] at h5
        unfold wrap64 at h5
        omega
      · rw [if_neg h0] at h2
        have h5 := Option.some.inj h2
        omega
    rw [if_neg hu]
    by_cases c2 : v > wrap64 (Int.tdiv 1000000000000 u)
    · rw [if_pos c2]
      exact ⟨0, _, by omega, rfl, rfl⟩
    · rw [if_neg c2]
      exact ⟨_, _, wrap_rng _, rfl, rfl⟩


def sOut (R C : Int) (o : List Int × Bool) : Int × Int × List Int × Bool := if o.2 = true then (R, C, o.1, true) else (0, 0, [], false)
def iOut (R C : Int) (o : List Int × Bool) : Int × Int × List Int × Int := if o.2 = true then (R, C, o.1, 0) else (0, 0, [], 3)
theorem rng_of (l : List Int) (hw : ∀ x ∈ l, (Lit.int .i64 x).wf = true) (i : Nat) (h : i < l.length) : -9223372036854775808 ≤ rd l (i : Int) ∧ rd l (i : Int) ≤ 9223372036854775807 := by
  have hx : (Lit.int .i64 (rd l (i : Int))).wf = true := by rw [rd_nat l i h]; exact hw _ (List.getElem_mem _)
  simpa [Lit.wf, IntKind.min, IntKind.max, IntKind.signed, IntKind.bits] using hx
theorem at_idx (a b c : Nat) (n : Nat) (h : a * b + c < n) (hn : n ≤ 2304) : wrap64 (wrap64 ((a : Int) * (b : Int)) + (c : Int)) = ((a * b + c : Nat) : Int) := by
  have e1 : (a : Int) * (b : Int) = ((a * b : Nat) : Int) := by simp
  have h1 : wrap64 ((a * b : Nat) : Int) = ((a * b : Nat) : Int) := w64n (a * b) (Nat.le_trans (Nat.le_trans (Nat.le_add_right _ c) (Nat.le_of_lt (Nat.lt_of_lt_of_le h hn))) (by decide))
  rw [e1, h1]
  exact w64n (a * b + c) (Nat.le_trans (Nat.le_of_lt (Nat.lt_of_lt_of_le h hn)) (by decide))
theorem ent (R M C : Nat) (A B acc : List Int) (i j : Nat) (hi : i < R) (hj : j < C) (hM : M ≤ 48) (hC : C ≤ 48) (hAw : ∀ x ∈ A, (Lit.int .i64 x).wf = true) (hBw : ∀ x ∈ B, (Lit.int .i64 x).wf = true)
    (hA : ∀ i m : Nat, i < R → m < M → i * M + m < A.length) (hAl : A.length ≤ 2304) (hB : ∀ m j : Nat, m < M → j < C → m * C + j < B.length) (hBl : B.length ≤ 2304) (hZ : i * C + j < acc.length) (hZl : acc.length ≤ 2304) :
    ∀ (d m : Nat) (s t : Int), m + d = M → ∃ v b, (∀ k, d < k → impl_entryOf.l0 k i j s t M (m : Int) R M A M C B = some (v, b)) ∧
      (∀ k, spec_l01Multiply.l2 (k + d + 1) i j s t (m : Int) R M A M C B R C acc = if b = true then spec_l01Multiply.l1 k i ((j + 1 : Nat) : Int) R M A M C B R C (acc.set (i * C + j) v) else some (0, 0, [], false)) := by
  have hz := at_idx i C j acc.length hZ hZl
  have ej : wrap64 ((j : Int) + 1) = ((j + 1 : Nat) : Int) := w64n (j + 1) (by clear hz; omega)
  have z1 : (0 : Int) ≤ ((i * C + j : Nat) : Int) := Int.natCast_nonneg _
  have z2 : ((i * C + j : Nat) : Int) < (acc.length : Int) := Int.ofNat_lt.2 hZ
  have HZ := Aside0.mk hz
  have EJ := Aside0.mk ej
  have Z1 := Aside0.mk z1
  have Z2 := Aside0.mk z2
  clear hz ej z1 z2
  intro d
  induction d with
  | zero =>
    intro m s t hm
    refine ⟨s, true, fun k hk => ?_, fun k => ?_⟩
    · obtain ⟨k, rfl⟩ := succ_k hk
      simp only [impl_entryOf.l0]
      rw [if_neg (by omega)]
    · simp only [Nat.add_zero, spec_l01Multiply.l2]
      rw [if_neg (by omega), HZ.out, EJ.out, if_pos Z1.out, if_pos Z2.out, Int.toNat_natCast]
      rfl
  | succ d ih =>
    intro m s t hm
    have hml : m < M := by omega
    have c0 : (m : Int) < (M : Int) := by omega
    have hx := hA i m hi hml
    have hy := hB m j hml hj
    have em : wrap64 ((m : Int) + 1) = ((m + 1 : Nat) : Int) := w64n (m + 1) (by omega)
    have ea := at_idx i M m A.length hx hAl
    have eb := at_idx m C j B.length hy hBl
    have a1 : (0 : Int) ≤ ((i * M + m : Nat) : Int) := Int.natCast_nonneg _
    have a2 : ((i * M + m : Nat) : Int) < (A.length : Int) := Int.ofNat_lt.2 hx
    have b1 : (0 : Int) ≤ ((m * C + j : Nat) : Int) := Int.natCast_nonneg _
    have b2 : ((m * C + j : Nat) : Int) < (B.length : Int) := Int.ofNat_lt.2 hy
    obtain ⟨p, q, hp, h1, h2⟩ := times_eq (rd A ((i * M + m : Nat) : Int)) (rd B ((m * C + j : Nat) : Int)) (rng_of A hAw _ hx) (rng_of B hBw _ hy)
    obtain ⟨y, h3, h4⟩ := abs_eq p hp
    have hstep : ∀ k, impl_entryOf.l0 (k + 1) i j s t M (m : Int) R M A M C B = if q = true then (if wrap64 (t + y) > 1000000000000 then some (0, false) else impl_entryOf.l0 k i j (wrap64 (s + p)) (wrap64 (t + y)) M ((m + 1 : Nat) : Int) R M A M C B) else some (0, false) := by
      intro k
      rw [impl_entryOf.l0]
      unfold impl_Matrix_at.f
      rw [ea, eb]
      simp only [c0, a1, a2, b1, b2, if_true, Option.bind_some, h2, h4, em]
    have sstep : ∀ k, spec_l01Multiply.l2 (k + 1) i j s t (m : Int) R M A M C B R C acc = if q = true then (if wrap64 (t + y) > 1000000000000 then some (0, 0, [], false) else spec_l01Multiply.l2 k i j (wrap64 (s + p)) (wrap64 (t + y)) ((m + 1 : Nat) : Int) R M A M C B R C acc) else some (0, 0, [], false) := by
      intro k
      rw [spec_l01Multiply.l2]
      unfold spec_l01At.f
      rw [ea, eb]
      simp only [c0, a1, a2, b1, b2, if_true, Option.bind_some, h1, h3, em]
    clear em ea eb
    by_cases hq : q = true
    · by_cases ht : wrap64 (t + y) > 1000000000000
      · refine ⟨0, false, fun k hk => ?_, fun k => ?_⟩
        · cases k with
          | zero => exact absurd hk (Nat.not_lt_zero _)
          | succ k => rw [hstep k, if_pos hq, if_pos ht]
        · rw [sstep, if_pos hq, if_pos ht]
          rfl
      · obtain ⟨v, b, h5, h6⟩ := ih (m + 1) (wrap64 (s + p)) (wrap64 (t + y)) (by clear ht hstep sstep; omega)
        refine ⟨v, b, fun k hk => ?_, fun k => ?_⟩
        · cases k with
          | zero => exact absurd hk (Nat.not_lt_zero _)
          | succ k =>
            rw [hstep k, if_pos hq, if_neg ht]
            exact h5 k (Nat.lt_of_succ_lt_succ hk)
        · rw [sstep, if_pos hq, if_neg ht]
          exact h6 k
    · refine ⟨0, false, fun k hk => ?_, fun k => ?_⟩
      · cases k with
        | zero => exact absurd hk (Nat.not_lt_zero _)
        | succ k => rw [hstep k, if_neg hq]
      · rw [sstep, if_neg hq]
        rfl
theorem mu_l1 (R M C : Nat) (A B : List Int) (i Z : Nat) (hi : i < R) (hR : R ≤ 48) (hM : M ≤ 48) (hC : C ≤ 48) (hAw : ∀ x ∈ A, (Lit.int .i64 x).wf = true) (hBw : ∀ x ∈ B, (Lit.int .i64 x).wf = true)
    (hA : ∀ i m : Nat, i < R → m < M → i * M + m < A.length) (hAl : A.length ≤ 2304) (hB : ∀ m j : Nat, m < M → j < C → m * C + j < B.length) (hBl : B.length ≤ 2304) (hZ : ∀ i j : Nat, i < R → j < C → i * C + j < Z) (hZl : Z ≤ 2304) (F : Nat)
    (IH : ∀ (k : Nat) (acc : List Int), F < k → acc.length = Z → ∃ o, o.1.length ≤ 2304 ∧ spec_l01Multiply.l0 k ((i + 1 : Nat) : Int) R M A M C B R C acc = some (sOut R C o) ∧ impl_MultiplyMatrices.l0 k R ((i + 1 : Nat) : Int) R M A M C B R C acc = some (iOut R C o)) :
    ∀ (d j k : Nat) (acc : List Int), j + d = C → 60 * d + 1 + F < k → acc.length = Z →
    ∃ o, o.1.length ≤ 2304 ∧ spec_l01Multiply.l1 k (i : Int) (j : Int) R M A M C B R C acc = some (sOut R C o) ∧ impl_MultiplyMatrices.l1 k (i : Int) R (i : Int) C (j : Int) R M A M C B R C acc = some (iOut R C o) := by
  intro d
  induction d with
  | zero =>
    intro j k acc hj hk ha
    obtain ⟨k, rfl⟩ := succ_k (show F < k by omega)
    obtain ⟨o, h1, h2, h3⟩ := IH k acc (by omega) ha
    have e1 : wrap64 ((i : Int) + 1) = ((i + 1 : Nat) : Int) := w64n (i + 1) (by omega)
    have c0 : ¬ (j : Int) < (C : Int) := by clear e1; omega
    refine ⟨o, h1, ?_, ?_⟩
    · simp only [spec_l01Multiply.l1]
      rw [if_neg c0, e1, h2]
    · simp only [impl_MultiplyMatrices.l1]
      rw [if_neg c0, e1, h3]
  | succ d ih =>
    intro j k acc hj hk ha
    obtain ⟨k2, rfl⟩ : ∃ k2, k = k2 + M + 1 + 1 := ⟨k - M - 2, by omega⟩
    have hjc : j < C := by omega
    have c0 : (j : Int) < (C : Int) := by omega
    have hz : i * C + j < acc.length := by rw [ha]; exact hZ i j hi hjc
    obtain ⟨v, b, h5, h6⟩ := ent R M C A B acc i j hi hjc hM hC hAw hBw hA hAl hB hBl hz (by omega) M 0 0 0 (by omega)
    have h5' := h5 (k2 + M + 1) (by omega)
    have h6' := h6 k2
    rw [Int.natCast_zero] at h5' h6'
    have z1 : (0 : Int) ≤ ((i * C + j : Nat) : Int) := Int.natCast_nonneg _
    have z2 : ((i * C + j : Nat) : Int) < (acc.length : Int) := Int.ofNat_lt.2 hz
    have hk2 : 60 * d + 1 + F < k2 := by clear h5 h6 h5' h6' z1 z2 hz; omega
    have hj2 : j + 1 + d = C := by clear h5 h6 h5' h6' z1 z2 hz; omega
    have hle : k2 ≤ k2 + M + 1 := by clear h5 h6 h5' h6' z1 z2 hz; omega
    have hj3 : j + 1 ≤ 9223372036854775807 := by clear h5 h6 h5' h6' z1 z2 hz; omega
    have hz3 : acc.length ≤ 2304 := by rw [ha]; exact hZl
    have ej : wrap64 ((j : Int) + 1) = ((j + 1 : Nat) : Int) := w64n (j + 1) hj3
    have ez := at_idx i C j acc.length hz hz3
    cases b with
    | true =>
      obtain ⟨o, h1, h2, h3⟩ := ih (j + 1) k2 (acc.set (i * C + j) v) hj2 hk2 (by simp [ha])
      refine ⟨o, h1, ?_, ?_⟩
      · simp only [spec_l01Multiply.l1]
        rw [if_pos c0, h6', if_pos rfl]
        exact h2
      · simp only [impl_MultiplyMatrices.l1]
        unfold impl_entryOf.f impl_Matrix_at.f
        rw [if_pos c0, h5', ez, ej]
        simp only [Option.bind_some, z1, z2, if_true, Int.toNat_natCast]
        exact at_rounds (fun k => (impl_MultiplyMatrices.mono_l k).2.2 _ _ _ _ _ _ _ _ _ _ _ _ _ _) hle h3
    | false =>
      refine ⟨([], false), by simp, ?_, ?_⟩
      · simp only [spec_l01Multiply.l1]
        rw [if_pos c0, h6']
        rfl
      · simp only [impl_MultiplyMatrices.l1]
        unfold impl_entryOf.f
        rw [if_pos c0, h5']
        rfl
theorem mu_l0 (R M C : Nat) (A B : List Int) (Z : Nat) (hR : R ≤ 48) (hM : M ≤ 48) (hC : C ≤ 48) (hAw : ∀ x ∈ A, (Lit.int .i64 x).wf = true) (hBw : ∀ x ∈ B, (Lit.int .i64 x).wf = true)
    (hA : ∀ i m : Nat, i < R → m < M → i * M + m < A.length) (hAl : A.length ≤ 2304) (hB : ∀ m j : Nat, m < M → j < C → m * C + j < B.length) (hBl : B.length ≤ 2304) (hZ : ∀ i j : Nat, i < R → j < C → i * C + j < Z) (hZl : Z ≤ 2304) :
    ∀ (d i k : Nat) (acc : List Int), i + d = R → 3000 * d + 100 < k → acc.length = Z →
    ∃ o, o.1.length ≤ 2304 ∧ spec_l01Multiply.l0 k (i : Int) R M A M C B R C acc = some (sOut R C o) ∧ impl_MultiplyMatrices.l0 k R (i : Int) R M A M C B R C acc = some (iOut R C o) := by
  intro d
  induction d with
  | zero =>
    intro i k acc hi hk ha
    obtain ⟨k, rfl⟩ := succ_k (show 0 < k by omega)
    refine ⟨(acc, true), by rw [ha]; exact hZl, ?_, ?_⟩
    · simp only [spec_l01Multiply.l0]
      rw [if_neg (by omega)]
      rfl
    · simp only [impl_MultiplyMatrices.l0]
      rw [if_neg (by omega)]
      rfl
  | succ d ih =>
    intro i k acc hi hk ha
    obtain ⟨k, rfl⟩ := succ_k (show 3000 * d + 100 < k by omega)
    obtain ⟨o, h1, h2, h3⟩ := mu_l1 R M C A B i Z (by omega) hR hM hC hAw hBw hA hAl hB hBl hZ hZl (3000 * d + 100) (fun k acc h1 h2 => ih (i + 1) k acc (by omega) h1 h2) C 0 k acc (by omega) (by omega) ha
    refine ⟨o, h1, ?_, ?_⟩
    · simp only [spec_l01Multiply.l0]
      rw [if_pos (by omega)]
      exact h2
    · simp only [impl_MultiplyMatrices.l0]
      rw [if_pos (by omega)]
      exact h3


theorem specIsMatrix_l0 (a b : Int) (l : List Int) (hl : l.length ≤ 1048576) : ∀ (d i k : Nat), i + d = l.length → d < k →
    spec_IsMatrix.l0 k (i : Int) a b l = some (!((l.drop i).any matBad)) := by
  intro d
  induction d with
  | zero =>
    intro i k hd hk
    obtain ⟨k, rfl⟩ := succ_k hk
    simp only [spec_IsMatrix.l0]
    rw [if_neg (by omega), List.drop_of_length_le (by omega)]
    rfl
  | succ d ih =>
    intro i k hd hk
    obtain ⟨k, rfl⟩ := succ_k hk
    simp only [spec_IsMatrix.l0]
    rw [if_pos (by omega), if_pos (by omega), w64 _ (by omega) (by omega), cast_succ, ih (i + 1) k (by omega) (by omega), drop_rd l i (by omega)]
    unfold spec_l01In.f
    rw [List.any_cons]
    unfold matBad
    generalize rd l (i : Int) = y
    by_cases h1 : -1000000000000 ≤ y <;> by_cases h2 : y ≤ 1000000000000 <;> simp [h1, h2]
theorem prod48 (a b : Int) (h1 : 0 ≤ a) (h2 : a ≤ 48) (h3 : 0 ≤ b) (h4 : b ≤ 48) : 0 ≤ a * b ∧ a * b ≤ 2304 :=
  ⟨Int.mul_nonneg h1 h3, Int.le_trans (Int.mul_le_mul h2 h4 h3 (by omega)) (by omega)⟩
theorem specIsMatrix_eq (a b : Int) (l : List Int) (k : Nat) (hl : l.length ≤ 1048576) (hk : l.length + 1 < k) : spec_IsMatrix.f k a b l = some (isMatB a b l) := by
  obtain ⟨k, rfl⟩ := succ_k hk
  have hs := specIsMatrix_l0 a b l hl l.length 0 k (by omega) (by omega)
  unfold spec_IsMatrix.f spec_l01In.f isMatB
  simp only [spec_IsMatrix.j0]
  by_cases h1 : 0 ≤ a <;> by_cases h2 : a ≤ 48 <;> by_cases h3 : 0 ≤ b <;> by_cases h4 : b ≤ 48
  case pos =>
    have hp := prod48 a b h1 h2 h3 h4
    rw [w64 (a * b) (by omega) (by omega)]
    rw [Int.natCast_zero] at hs
    by_cases h5 : (l.length : Int) = a * b
    · have h5' : ((l.length : Int) != a * b) = false := by simp [h5]
      simp [h1, h2, h3, h4, h5, h5', hs]
    · have h5' : ((l.length : Int) != a * b) = true := by simp [h5]
      simp [h1, h2, h3, h4, h5, h5']
  all_goals simp [h1, h2, h3, h4]


theorem isMatB_len {a b : Int} {l : List Int} (h : isMatB a b l = true) : (0 ≤ a ∧ a ≤ 48) ∧ (0 ≤ b ∧ b ≤ 48) ∧ (l.length : Int) = a * b := by
  unfold isMatB at h
  simp only [Bool.and_eq_true, decide_eq_true_eq] at h
  exact ⟨h.1, h.2.1, h.2.2.1⟩


theorem spec_MultiplyMatrices_j0 (k : Nat) (M C R : Int) (A B : List Int) :
    ((some true).bind fun t157 => if t157 = true then ((some true).bind fun t158 => spec_MultiplyMatrices.j0 (k + 1) (!t158) R M A M C B) else spec_MultiplyMatrices.j0 (k + 1) true R M A M C B) = (spec_l01Multiply.f k R M A M C B).bind fun bt159 => (if bt159.2.2.2 = true then (some (bt159.1, bt159.2.1, bt159.2.2.1, 0)) else (some (0, 0, ([] : List Int), 3))) := by
  show spec_MultiplyMatrices.j0 (k + 1) false R M A M C B = _
  rw [spec_MultiplyMatrices.j0, if_neg (by simp), if_pos rfl]
theorem impl_MultiplyMatrices_j0 (k : Nat) (M C R : Int) (A B : List Int) :
    ((some true).bind fun t184 => if t184 = true then ((some true).bind fun t185 => impl_MultiplyMatrices.j0 (k + 1) (!t185) R M A M C B) else impl_MultiplyMatrices.j0 (k + 1) true R M A M C B) = (impl_zeroMatrix.f R C).bind fun bt186 => (impl_MultiplyMatrices.l0 k R 0 R M A M C B bt186.1 bt186.2.1 bt186.2.2) := by
  show impl_MultiplyMatrices.j0 (k + 1) false R M A M C B = _
  rw [impl_MultiplyMatrices.j0, if_neg (by simp), if_pos rfl]
theorem mul_both (a b : Int) (A : List Int) (c d : Int) (B : List Int) (hA : A.length ≤ 1048576) (hB : B.length ≤ 1048576) (hAw : ∀ x ∈ A, (Lit.int .i64 x).wf = true) (hBw : ∀ x ∈ B, (Lit.int .i64 x).wf = true) :
    ∃ x y r t, r.length ≤ 1048576 ∧ ∀ k, 1200000 < k → (spec_MultiplyMatrices.f k a b A c d B = some (x, y, r, t) ∧ impl_MultiplyMatrices.f k a b A c d B = some (x, y, r, t)) := by
  by_cases h1 : isMatB a b A = true
  case neg =>
    refine ⟨0, 0, [], 1, by simp, fun k hk => ?_⟩
    obtain ⟨k, rfl⟩ := succ_k hk
    unfold spec_MultiplyMatrices.f impl_MultiplyMatrices.f impl_isMatrix.f
    rw [specIsMatrix_eq a b A _ hA (by omega)]
    have h1' : isMatB a b A = false := by simpa using h1
    simp [h1', spec_MultiplyMatrices.j0, impl_MultiplyMatrices.j0]
  by_cases h2 : isMatB c d B = true
  case neg =>
    refine ⟨0, 0, [], 1, by simp, fun k hk => ?_⟩
    obtain ⟨k, rfl⟩ := succ_k hk
    unfold spec_MultiplyMatrices.f impl_MultiplyMatrices.f impl_isMatrix.f
    rw [specIsMatrix_eq a b A _ hA (by omega), specIsMatrix_eq c d B _ hB (by omega)]
    have h2' : isMatB c d B = false := by simpa using h2
    simp [h1, h2', spec_MultiplyMatrices.j0, impl_MultiplyMatrices.j0]
  by_cases h3 : b = c
  case neg =>
    refine ⟨0, 0, [], 2, by simp, fun k hk => ?_⟩
    obtain ⟨k, rfl⟩ := succ_k hk
    unfold spec_MultiplyMatrices.f impl_MultiplyMatrices.f impl_isMatrix.f
    rw [specIsMatrix_eq a b A _ hA (by omega), specIsMatrix_eq c d B _ hB (by omega)]
    simp [h1, h2, h3, spec_MultiplyMatrices.j0, impl_MultiplyMatrices.j0]
  subst h3
  obtain ⟨g1, g2, g3⟩ := isMatB_len h1
  obtain ⟨_, g5, g6⟩ := isMatB_len h2
  obtain ⟨R, rfl⟩ : ∃ R : Nat, a = R := ⟨a.toNat, by omega⟩
  obtain ⟨M, rfl⟩ : ∃ M : Nat, b = M := ⟨b.toNat, by omega⟩
  obtain ⟨C, rfl⟩ : ∃ C : Nat, d = C := ⟨d.toNat, by omega⟩
  have m1 := Nat.mul_le_mul (show R ≤ 48 by omega) (show M ≤ 48 by omega)
  have m2 := Nat.mul_le_mul (show M ≤ 48 by omega) (show C ≤ 48 by omega)
  have m3 := Nat.mul_le_mul (show R ≤ 48 by omega) (show C ≤ 48 by omega)
  have e1 : (R : Int) * (M : Int) = ((R * M : Nat) : Int) := by simp
  have e2 : (M : Int) * (C : Int) = ((M * C : Nat) : Int) := by simp
  have e3 : (R : Int) * (C : Int) = ((R * C : Nat) : Int) := by simp
  rw [e1] at g3
  rw [e2] at g6
  have g3' : A.length = R * M := by omega
  have g6' : B.length = M * C := by omega
  obtain ⟨K, hK⟩ : ∃ K : Nat, K = 150000 := ⟨_, rfl⟩
  obtain ⟨o, h4, h5, h6⟩ := mu_l0 R M C A B (R * C) (by omega) (by omega) (by omega) hAw hBw (fun i m hi hm => by rw [g3']; exact idx_lt hi hm) (by omega) (fun m j hm hj => by rw [g6']; exact idx_lt hm hj) (by omega) (fun i j hi hj => idx_lt hi hj) (by omega) R 0 K (List.replicate (R * C) 0) (by omega) (by omega) (by simp)
  rw [Int.natCast_zero] at h5 h6
  have q1 : (0 : Int) ≤ ((R * C : Nat) : Int) := Int.natCast_nonneg _
  have q2 : R * C ≤ 35184372088832 := by omega
  have q3 : R * C ≤ 9223372036854775807 := by omega
  have ew : wrap64 ((R * C : Nat) : Int) = ((R * C : Nat) : Int) := w64n (R * C) q3
  have hs : ∀ k, K ≤ k → spec_l01Multiply.f k (R : Int) M A M C B = some (sOut R C o) := by
    intro k hk
    unfold spec_l01Multiply.f spec_l01Zero.f
    rw [e3, ew, Int.toNat_natCast, if_pos q1, if_pos q2]
    exact at_rounds (fun k => (spec_l01Multiply.mono_l k).1 _ _ _ _ _ _ _ _ _ _) hk h5
  have hi : ∀ k, K ≤ k → (impl_zeroMatrix.f (R : Int) C).bind (fun bt => impl_MultiplyMatrices.l0 k R 0 R M A M C B bt.1 bt.2.1 bt.2.2) = some (iOut R C o) := by
    intro k hk
    unfold impl_zeroMatrix.f
    rw [e3, ew, Int.toNat_natCast, if_pos q1, if_pos q2]
    exact at_rounds (fun k => (impl_MultiplyMatrices.mono_l k).2.1 _ _ _ _ _ _ _ _ _ _ _) hk h6
  clear ew
  refine ⟨(iOut R C o).1, (iOut R C o).2.1, (iOut R C o).2.2.1, (iOut R C o).2.2.2, ?_, fun k hk => ?_⟩
  · unfold iOut
    split
    · show o.1.length ≤ 1048576
      omega
    · simp
  obtain ⟨k, rfl⟩ := succ_k (show 1199999 < k by omega)
  unfold spec_MultiplyMatrices.f impl_MultiplyMatrices.f impl_isMatrix.f
  rw [specIsMatrix_eq _ _ A _ hA (by omega), specIsMatrix_eq _ _ B _ hB (by omega)]
  have hsk := hs k (by omega)
  have hik := hi k (by omega)
  clear hs hi h5 h6 hK
  rw [h1, h2, spec_MultiplyMatrices_j0 k M C R A B, impl_MultiplyMatrices_j0 k M C R A B, hsk, hik]
  constructor
  · unfold sOut iOut
    obtain ⟨r, t⟩ := o
    cases t <;> rfl
  · rfl

theorem FnExactMultiplyMatrices : laws_FnExactMultiplyMatrices.Pure := by
  intro a b l c d m _ _ hl hw _ _ hm hv
  obtain ⟨K, hK⟩ : ∃ K : Nat, K = 3050000 := ⟨_, rfl⟩
  refine ⟨K + 1 + 1 + 1, ?_⟩
  unfold laws_FnExactMultiplyMatrices.f
  rw [szMatrix_eq a b l 1048576 (by omega) (by omega) hl]
  simp only [Option.bind_some]
  by_cases h : (1048576 : Int) < l.length
  · simp [h]
  · have hl' : l.length ≤ 1048576 := by omega
    rw [if_neg h, if_neg (by omega), szMatrix_eq c d m _ (by omega) (by omega) hm]
    simp only [Option.bind_some]
    by_cases h2 : (1048576 - (l.length : Int)) < m.length
    · simp [h2]
    · have hm' : m.length ≤ 1048576 := by omega
      obtain ⟨x, y, r, t, hr, hb⟩ := mul_both a b l c d m hl' hm' hw hv
      rw [if_neg h2, if_neg (by omega)]
      simp (disch := omega) only [toMatrix_eq, hb, eqMatrix_self, markMatrix_eq, Option.bind_some, if_true, Bool.not_true, bne_self_eq_false]
      simp only [laws_FnExactMultiplyMatrices.j0]
      simp (disch := omega) only [toMatrix_eq, hb, eqMatrix_self, markMatrix_eq, heldMatrix_marks, Option.bind_some, if_true, bne_self_eq_false]
      rw [if_neg (by simp), if_neg (by omega)]
      simp only [laws_FnExactMultiplyMatrices.j1]
      simp (disch := omega) only [toMatrix_eq, hb, eqMatrix_self, markMatrix_eq, heldMatrix_marks, Option.bind_some, if_true, bne_self_eq_false]
      rw [if_neg (by simp), if_neg (by omega)]
      simp only [laws_FnExactMultiplyMatrices.j2]
      simp (disch := omega) only [toMatrix_eq, hb, eqMatrix_self, markMatrix_eq, heldMatrix_marks, Option.bind_some, if_true, bne_self_eq_false]
      rw [if_neg (by simp), if_neg (by omega)]

end Go.Proofs.Ytkfblcpiflbkaaa.Pure
