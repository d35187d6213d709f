/- Program and reference agree on what a reduction is, and leave the arguments. No condition: for every input that the statement lets in. -/
import Derived.Test.YtifbfloifdkacaaVFnExactIsReductionStmt
namespace Go.Proofs.Ytifbfloifdkacaa.Pure
open Go.RowKit Go.Proofs.Ytifbfloifdkacaa.PFnExactIsReduction Go.Proofs.YtifbfloifdkacaaW.PrintWords Go.Proofs.YtifbfloifdkacaaW.PrintLast

set_option linter.unusedSimpArgs false
set_option linter.unusedVariables false
theorem w64 (x : Int) (h0 : -9223372036854775808 ≤ x) (h1 : x ≤ 9223372036854775807) : wrap64 x = x := by
  unfold wrap64
  omega
theorem w64n (n : Nat) (h : n ≤ 9223372036854775807) : wrap64 (n : Int) = (n : Int) := w64 _ (by omega) (by omega)
theorem rd_nat (l : List Int) (i : Nat) (h : i < l.length) : rd l (i : Int) = l[i] := by
  simp [rd, List.getD, List.getElem?_eq_getElem h]
theorem succ_k {k n : Nat} (h : n < k) : ∃ m, k = m + 1 := ⟨k - 1, by omega⟩
theorem cast_succ (i : Nat) : ((i : Int) + 1) = ((i + 1 : Nat) : Int) := by omega
theorem drop_rd (l : List Int) (k : Nat) (h : k < l.length) : l.drop k = rd l (k : Int) :: l.drop (k + 1) := by
  rw [List.drop_eq_getElem_cons h, rd_nat l k h]

theorem szInt64S_eq (l : List Int) (a : Int) (h0 : 0 ≤ a) (h1 : a ≤ 1048576) (hl : l.length ≤ maxLen) : laws_szInt64S.f l a = some (if a < l.length then -1 else a - l.length) := by
  unfold maxLen at hl
  unfold laws_szInt64S.f
  rw [w64 _ (by omega) (by omega)]
  by_cases h : a < l.length
  · rw [if_pos (by omega), if_pos h]
  · rw [if_neg (by omega), if_neg h]

theorem szMatrix_eq (a b : Int) (l : List Int) (m : Int) (h0 : 0 ≤ m) (h1 : m ≤ 1048576) (hl : l.length ≤ maxLen) : laws_szMatrix.f a b l m = some (if m < l.length then -1 else m - l.length) := by
  unfold laws_szMatrix.f
  rw [szInt64S_eq l m h0 h1 hl]
  simp only [Option.bind_some]
  by_cases h : m < l.length
  · rw [if_pos h, if_pos (by omega)]
  · rw [if_neg h, if_neg (by omega)]

theorem toInt64S_l0 (l : List Int) (hl : l.length ≤ 4611686018427387904) : ∀ (d i : Nat) (x3 : List Int) (k : Nat), x3.length = l.length → i + d = l.length → x3.take i = l.take i → d < k → laws_toInt64S.l0 k l x3 (i : Int) = some l := by
  intro d
  induction d with
  | zero =>
    intro i x3 k h3 hd ht hk
    obtain ⟨k, rfl⟩ := succ_k hk
    simp only [laws_toInt64S.l0]
    rw [if_neg (by omega)]
    have e : i = l.length := by omega
    subst e
    rw [List.take_length, List.take_of_length_le (by omega)] at ht
    rw [ht]
  | succ d ih =>
    intro i x3 k h3 hd ht hk
    obtain ⟨k, rfl⟩ := succ_k hk
    simp only [laws_toInt64S.l0]
    rw [if_pos (by omega), if_pos (by omega), if_pos (by omega), w64 _ (by omega) (by omega), cast_succ]
    refine ih (i + 1) _ k (by simp [h3]) (by omega) ?_ (by omega)
    rw [Int.toNat_natCast, rd_nat l i (by omega)]
    rw [List.take_succ_eq_append_getElem (by simp; omega), List.take_succ_eq_append_getElem (by omega), List.take_set_of_le (by omega), ht]
    simp
theorem toInt64S_eq (l : List Int) (k : Nat) (hl : l.length ≤ 1048576) (hk : l.length < k) : laws_toInt64S.f k l = some l := by
  unfold laws_toInt64S.f
  rw [if_pos (by omega), if_pos (by omega)]
  exact toInt64S_l0 l (by omega) l.length 0 _ k (by simp) (by omega) (by simp) hk

theorem toMatrix_eq (a b : Int) (l : List Int) (k : Nat) (hl : l.length ≤ 1048576) (hk : l.length < k) : laws_toMatrix.f k a b l = some (a, b, l) := by
  unfold laws_toMatrix.f
  rw [toInt64S_eq l k hl hk]
  rfl

theorem eqInt64S_l0 (l r : List Int) (hr : r.length = l.length) (hl : l.length ≤ 4611686018427387904) : ∀ (d i k : Nat), i + d = l.length → d < k → laws_eqInt64S.l0 k l r (i : Int) = some (decide (l.drop i = r.drop i)) := by
  intro d
  induction d with
  | zero =>
    intro i k hd hk
    obtain ⟨k, rfl⟩ := succ_k hk
    simp only [laws_eqInt64S.l0]
    rw [if_neg (by omega), List.drop_of_length_le (by omega), List.drop_of_length_le (by omega)]
    simp
  | succ d ih =>
    intro i k hd hk
    obtain ⟨k, rfl⟩ := succ_k hk
    simp only [laws_eqInt64S.l0]
    rw [if_pos (by omega), if_pos (by omega), if_pos (by omega), w64 _ (by omega) (by omega), cast_succ, ih (i + 1) k (by omega) (by omega), drop_rd l i (by omega), drop_rd r i (by omega)]
    by_cases h : rd l (i : Int) = rd r (i : Int)
    · simp [h]
    · simp [h]
theorem eqInt64S_eq (l r : List Int) (k : Nat) (hl : l.length ≤ 4611686018427387904) (hk : l.length < k) : laws_eqInt64S.f k l r = some (decide (l = r)) := by
  unfold laws_eqInt64S.f
  by_cases h : l.length = r.length
  · rw [if_pos (by omega)]
    have := eqInt64S_l0 l r h.symm hl l.length 0 k (by omega) hk
    simpa using this
  · rw [if_neg (by omega)]
    have : ¬ l = r := fun e => h (by rw [e])
    simp [this]
theorem eqInt64S_self (l : List Int) (k : Nat) (hl : l.length ≤ 4611686018427387904) (hk : l.length < k) : laws_eqInt64S.f k l l = some true := by
  rw [eqInt64S_eq l l k hl hk]
  simp

theorem eqMatrix_self (a b : Int) (l : List Int) (k : Nat) (hl : l.length ≤ 4611686018427387904) (hk : l.length < k) : laws_eqMatrix.f k a b l a b l = some true := by
  unfold laws_eqMatrix.f
  rw [if_pos rfl, if_pos rfl, eqInt64S_self l k hl hk]
  rfl

theorem idx_lt {r c i j : Nat} (hi : i < r) (hj : j < c) : i * c + j < r * c := by
  have h := Nat.mul_le_mul_right c (show i + 1 ≤ r by omega)
  rw [Nat.succ_mul] at h
  omega

theorem wrap_rng (x : Int) : -9223372036854775808 ≤ wrap64 x ∧ wrap64 x ≤ 9223372036854775807 := by
  unfold wrap64
  omega
theorem abs_eq (x : Int) (h : -9223372036854775808 ≤ x ∧ x ≤ 9223372036854775807) : ∃ y, spec_l01Abs.f x = some y ∧ impl_abs.f x = some y := by
  unfold spec_l01Abs.f impl_abs.f mx
  refine ⟨_, rfl, ?_⟩
  by_cases h0 : x < 0
  · rw [if_pos h0]
    by_cases h1 : x = -9223372036854775808
    · subst h1
      have e : wrap64 (-(-9223372036854775808)) = -9223372036854775808 := by unfold wrap64; omega
      rw [e]
      rfl
    · rw [w64 (-x) (by omega) (by omega), if_pos (by omega)]
  · rw [if_neg h0, w64 (-x) (by omega) (by omega), if_neg (by omega)]
theorem times_eq (s t : Int) (hs : -9223372036854775808 ≤ s ∧ s ≤ 9223372036854775807) (ht : -9223372036854775808 ≤ t ∧ t ≤ 9223372036854775807) :
    ∃ p q, (-9223372036854775808 ≤ p ∧ p ≤ 9223372036854775807) ∧ spec_l01Times.f s t 1000000000000 = some (p, q) ∧ impl_product.f s t 1000000000000 = some (p, q) := by
  obtain ⟨u, h1, h2⟩ := abs_eq s hs
  obtain ⟨v, h3, h4⟩ := abs_eq t ht
  unfold spec_l01Times.f impl_product.f
  rw [h1, h2, h3, h4]
  simp only [Option.bind_some]
  by_cases c1 : s = 0
  · rw [if_pos c1]
    exact ⟨_, _, wrap_rng _, rfl, rfl⟩
  · rw [if_neg c1]
    have hu : ¬ u = 0 := by
      unfold impl_abs.f at h2
      by_cases h0 : s < 0
      · rw [if_pos h0] at h2
        have h5 := Option.some.inj h2
        intro h6
        rw [h6] at h5
        unfold wrap64 at h5
        omega
      · rw [if_neg h0] at h2
        have h5 := Option.some.inj h2
        omega
    rw [if_neg hu]
    by_cases c2 : v > wrap64 (Int.tdiv 1000000000000 u)
    · rw [if_pos c2]
      exact ⟨0, _, by omega, rfl, rfl⟩
    · rw [if_neg c2]
      exact ⟨_, _, wrap_rng _, rfl, rfl⟩

def sOut (R C : Int) (o : List Int × Bool) : Int × Int × List Int × Bool := if o.2 = true then (R, C, o.1, true) else (0, 0, [], false)
def iOut (R C : Int) (o : List Int × Bool) : Int × Int × List Int × Int := if o.2 = true then (R, C, o.1, 0) else (0, 0, [], 3)
theorem rng_of (l : List Int) (hw : ∀ x ∈ l, (Lit.int .i64 x).wf = true) (i : Nat) (h : i < l.length) : -9223372036854775808 ≤ rd l (i : Int) ∧ rd l (i : Int) ≤ 9223372036854775807 := by
  have hx : (Lit.int .i64 (rd l (i : Int))).wf = true := by rw [rd_nat l i h]; exact hw _ (List.getElem_mem _)
  simpa [Lit.wf, IntKind.min, IntKind.max, IntKind.signed, IntKind.bits] using hx
theorem at_idx (a b c : Nat) (n : Nat) (h : a * b + c < n) (hn : n ≤ 2304) : wrap64 (wrap64 ((a : Int) * (b : Int)) + (c : Int)) = ((a * b + c : Nat) : Int) := by
  have e1 : (a : Int) * (b : Int) = ((a * b : Nat) : Int) := by simp
  have h1 : wrap64 ((a * b : Nat) : Int) = ((a * b : Nat) : Int) := w64n (a * b) (Nat.le_trans (Nat.le_trans (Nat.le_add_right _ c) (Nat.le_of_lt (Nat.lt_of_lt_of_le h hn))) (by decide))
  rw [e1, h1]
  exact w64n (a * b + c) (Nat.le_trans (Nat.le_of_lt (Nat.lt_of_lt_of_le h hn)) (by decide))
theorem ent (R M C : Nat) (A B acc : List Int) (i j : Nat) (hi : i < R) (hj : j < C) (hM : M ≤ 48) (hC : C ≤ 48) (hAw : ∀ x ∈ A, (Lit.int .i64 x).wf = true) (hBw : ∀ x ∈ B, (Lit.int .i64 x).wf = true)
    (hA : ∀ i m : Nat, i < R → m < M → i * M + m < A.length) (hAl : A.length ≤ 2304) (hB : ∀ m j : Nat, m < M → j < C → m * C + j < B.length) (hBl : B.length ≤ 2304) (hZ : i * C + j < acc.length) (hZl : acc.length ≤ 2304) :
    ∀ (d m : Nat) (s t : Int), m + d = M → ∃ v b, (∀ k, d < k → impl_entryOf.l0 k i j s t M (m : Int) R M A M C B = some (v, b)) ∧
      (∀ k, spec_l01Multiply.l2 (k + d + 1) i j s t (m : Int) R M A M C B R C acc = if b = true then spec_l01Multiply.l1 k i ((j + 1 : Nat) : Int) R M A M C B R C (acc.set (i * C + j) v) else some (0, 0, [], false)) := by
  have hz := at_idx i C j acc.length hZ hZl
  have ej : wrap64 ((j : Int) + 1) = ((j + 1 : Nat) : Int) := w64n (j + 1) (by clear hz; omega)
  have z1 : (0 : Int) ≤ ((i * C + j : Nat) : Int) := Int.natCast_nonneg _
  have z2 : ((i * C + j : Nat) : Int) < (acc.length : Int) := Int.ofNat_lt.2 hZ
  have HZ := Aside0.mk hz
  have EJ := Aside0.mk ej
  have Z1 := Aside0.mk z1
  have Z2 := Aside0.mk z2
  clear hz ej z1 z2
  intro d
  induction d with
  | zero =>
    intro m s t hm
    refine ⟨s, true, fun k hk => ?_, fun k => ?_⟩
    · obtain ⟨k, rfl⟩ := succ_k hk
      simp only [impl_entryOf.l0]
      rw [if_neg (by omega)]
    · simp only [Nat.add_zero, spec_l01Multiply.l2]
      rw [if_neg (by omega), HZ.out, EJ.out, if_pos Z1.out, if_pos Z2.out, Int.toNat_natCast]
      rfl
  | succ d ih =>
    intro m s t hm
    have hml : m < M := by omega
    have c0 : (m : Int) < (M : Int) := by omega
    have hx := hA i m hi hml
    have hy := hB m j hml hj
    have em : wrap64 ((m : Int) + 1) = ((m + 1 : Nat) : Int) := w64n (m + 1) (by omega)
    have ea := at_idx i M m A.length hx hAl
    have eb := at_idx m C j B.length hy hBl
    have a1 : (0 : Int) ≤ ((i * M + m : Nat) : Int) := Int.natCast_nonneg _
    have a2 : ((i * M + m : Nat) : Int) < (A.length : Int) := Int.ofNat_lt.2 hx
    have b1 : (0 : Int) ≤ ((m * C + j : Nat) : Int) := Int.natCast_nonneg _
    have b2 : ((m * C + j : Nat) : Int) < (B.length : Int) := Int.ofNat_lt.2 hy
    obtain ⟨p, q, hp, h1, h2⟩ := times_eq (rd A ((i * M + m : Nat) : Int)) (rd B ((m * C + j : Nat) : Int)) (rng_of A hAw _ hx) (rng_of B hBw _ hy)
    obtain ⟨y, h3, h4⟩ := abs_eq p hp
    have hstep : ∀ k, impl_entryOf.l0 (k + 1) i j s t M (m : Int) R M A M C B = if q = true then (if wrap64 (t + y) > 1000000000000 then some (0, false) else impl_entryOf.l0 k i j (wrap64 (s + p)) (wrap64 (t + y)) M ((m + 1 : Nat) : Int) R M A M C B) else some (0, false) := by
      intro k
      rw [impl_entryOf.l0]
      unfold impl_Matrix_at.f
      rw [ea, eb]
      simp only [c0, a1, a2, b1, b2, if_true, Option.bind_some, h2, h4, em]
    have sstep : ∀ k, spec_l01Multiply.l2 (k + 1) i j s t (m : Int) R M A M C B R C acc = if q = true then (if wrap64 (t + y) > 1000000000000 then some (0, 0, [], false) else spec_l01Multiply.l2 k i j (wrap64 (s + p)) (wrap64 (t + y)) ((m + 1 : Nat) : Int) R M A M C B R C acc) else some (0, 0, [], false) := by
      intro k
      rw [spec_l01Multiply.l2]
      unfold spec_l01At.f
      rw [ea, eb]
      simp only [c0, a1, a2, b1, b2, if_true, Option.bind_some, h1, h3, em]
    clear em ea eb
    by_cases hq : q = true
    · by_cases ht : wrap64 (t + y) > 1000000000000
      · refine ⟨0, false, fun k hk => ?_, fun k => ?_⟩
        · cases k with
          | zero => exact absurd hk (Nat.not_lt_zero _)
          | succ k => rw [hstep k, if_pos hq, if_pos ht]
        · rw [sstep, if_pos hq, if_pos ht]
          rfl
      · obtain ⟨v, b, h5, h6⟩ := ih (m + 1) (wrap64 (s + p)) (wrap64 (t + y)) (by clear ht hstep sstep; omega)
        refine ⟨v, b, fun k hk => ?_, fun k => ?_⟩
        · cases k with
          | zero => exact absurd hk (Nat.not_lt_zero _)
          | succ k =>
            rw [hstep k, if_pos hq, if_neg ht]
            exact h5 k (Nat.lt_of_succ_lt_succ hk)
        · rw [sstep, if_pos hq, if_neg ht]
          exact h6 k
    · refine ⟨0, false, fun k hk => ?_, fun k => ?_⟩
      · cases k with
        | zero => exact absurd hk (Nat.not_lt_zero _)
        | succ k => rw [hstep k, if_neg hq]
      · rw [sstep, if_neg hq]
        rfl
theorem mu_l1 (R M C : Nat) (A B : List Int) (i Z : Nat) (hi : i < R) (hR : R ≤ 48) (hM : M ≤ 48) (hC : C ≤ 48) (hAw : ∀ x ∈ A, (Lit.int .i64 x).wf = true) (hBw : ∀ x ∈ B, (Lit.int .i64 x).wf = true)
    (hA : ∀ i m : Nat, i < R → m < M → i * M + m < A.length) (hAl : A.length ≤ 2304) (hB : ∀ m j : Nat, m < M → j < C → m * C + j < B.length) (hBl : B.length ≤ 2304) (hZ : ∀ i j : Nat, i < R → j < C → i * C + j < Z) (hZl : Z ≤ 2304) (F : Nat)
    (IH : ∀ (k : Nat) (acc : List Int), F < k → acc.length = Z → ∃ o, o.1.length ≤ 2304 ∧ spec_l01Multiply.l0 k ((i + 1 : Nat) : Int) R M A M C B R C acc = some (sOut R C o) ∧ impl_MultiplyMatrices.l0 k R ((i + 1 : Nat) : Int) R M A M C B R C acc = some (iOut R C o)) :
    ∀ (d j k : Nat) (acc : List Int), j + d = C → 60 * d + 1 + F < k → acc.length = Z →
    ∃ o, o.1.length ≤ 2304 ∧ spec_l01Multiply.l1 k (i : Int) (j : Int) R M A M C B R C acc = some (sOut R C o) ∧ impl_MultiplyMatrices.l1 k (i : Int) R (i : Int) C (j : Int) R M A M C B R C acc = some (iOut R C o) := by
  intro d
  induction d with
  | zero =>
    intro j k acc hj hk ha
    obtain ⟨k, rfl⟩ := succ_k (show F < k by omega)
    obtain ⟨o, h1, h2, h3⟩ := IH k acc (by omega) ha
    have e1 : wrap64 ((i : Int) + 1) = ((i + 1 : Nat) : Int) := w64n (i + 1) (by omega)
    have c0 : ¬ (j : Int) < (C : Int) := by clear e1; omega
    refine ⟨o, h1, ?_, ?_⟩
    · simp only [spec_l01Multiply.l1]
      rw [if_neg c0, e1, h2]
    · simp only [impl_MultiplyMatrices.l1]
      rw [if_neg c0, e1, h3]
  | succ d ih =>
    intro j k acc hj hk ha
    obtain ⟨k2, rfl⟩ : ∃ k2, k = k2 + M + 1 + 1 := ⟨k - M - 2, by omega⟩
    have hjc : j < C := by omega
    have c0 : (j : Int) < (C : Int) := by omega
    have hz : i * C + j < acc.length := by rw [ha]; exact hZ i j hi hjc
    obtain ⟨v, b, h5, h6⟩ := ent R M C A B acc i j hi hjc hM hC hAw hBw hA hAl hB hBl hz (by omega) M 0 0 0 (by omega)
    have h5' := h5 (k2 + M + 1) (by omega)
    have h6' := h6 k2
    rw [Int.natCast_zero] at h5' h6'
    have z1 : (0 : Int) ≤ ((i * C + j : Nat) : Int) := Int.natCast_nonneg _
    have z2 : ((i * C + j : Nat) : Int) < (acc.length : Int) := Int.ofNat_lt.2 hz
    have hk2 : 60 * d + 1 + F < k2 := by clear h5 h6 h5' h6' z1 z2 hz; omega
    have hj2 : j + 1 + d = C := by clear h5 h6 h5' h6' z1 z2 hz; omega
    have hle : k2 ≤ k2 + M + 1 := by clear h5 h6 h5' h6' z1 z2 hz; omega
    have hj3 : j + 1 ≤ 9223372036854775807 := by clear h5 h6 h5' h6' z1 z2 hz; omega
    have hz3 : acc.length ≤ 2304 := by rw [ha]; exact hZl
    have ej : wrap64 ((j : Int) + 1) = ((j + 1 : Nat) : Int) := w64n (j + 1) hj3
    have ez := at_idx i C j acc.length hz hz3
    cases b with
    | true =>
      obtain ⟨o, h1, h2, h3⟩ := ih (j + 1) k2 (acc.set (i * C + j) v) hj2 hk2 (by simp [ha])
      refine ⟨o, h1, ?_, ?_⟩
      · simp only [spec_l01Multiply.l1]
        rw [if_pos c0, h6', if_pos rfl]
        exact h2
      · simp only [impl_MultiplyMatrices.l1]
        unfold impl_entryOf.f impl_Matrix_at.f
        rw [if_pos c0, h5', ez, ej]
        simp only [Option.bind_some, z1, z2, if_true, Int.toNat_natCast]
        exact at_rounds (fun k => (impl_MultiplyMatrices.mono_l k).2.2 _ _ _ _ _ _ _ _ _ _ _ _ _ _) hle h3
    | false =>
      refine ⟨([], false), by simp, ?_, ?_⟩
      · simp only [spec_l01Multiply.l1]
        rw [if_pos c0, h6']
        rfl
      · simp only [impl_MultiplyMatrices.l1]
        unfold impl_entryOf.f
        rw [if_pos c0, h5']
        rfl
theorem mu_l0 (R M C : Nat) (A B : List Int) (Z : Nat) (hR : R ≤ 48) (hM : M ≤ 48) (hC : C ≤ 48) (hAw : ∀ x ∈ A, (Lit.int .i64 x).wf = true) (hBw : ∀ x ∈ B, (Lit.int .i64 x).wf = true)
    (hA : ∀ i m : Nat, i < R → m < M → i * M + m < A.length) (hAl : A.length ≤ 2304) (hB : ∀ m j : Nat, m < M → j < C → m * C + j < B.length) (hBl : B.length ≤ 2304) (hZ : ∀ i j : Nat, i < R → j < C → i * C + j < Z) (hZl : Z ≤ 2304) :
    ∀ (d i k : Nat) (acc : List Int), i + d = R → 3000 * d + 100 < k → acc.length = Z →
    ∃ o, o.1.length ≤ 2304 ∧ spec_l01Multiply.l0 k (i : Int) R M A M C B R C acc = some (sOut R C o) ∧ impl_MultiplyMatrices.l0 k R (i : Int) R M A M C B R C acc = some (iOut R C o) := by
  intro d
  induction d with
  | zero =>
    intro i k acc hi hk ha
    obtain ⟨k, rfl⟩ := succ_k (show 0 < k by omega)
    refine ⟨(acc, true), by rw [ha]; exact hZl, ?_, ?_⟩
    · simp only [spec_l01Multiply.l0]
      rw [if_neg (by omega)]
      rfl
    · simp only [impl_MultiplyMatrices.l0]
      rw [if_neg (by omega)]
      rfl
  | succ d ih =>
    intro i k acc hi hk ha
    obtain ⟨k, rfl⟩ := succ_k (show 3000 * d + 100 < k by omega)
    obtain ⟨o, h1, h2, h3⟩ := mu_l1 R M C A B i Z (by omega) hR hM hC hAw hBw hA hAl hB hBl hZ hZl (3000 * d + 100) (fun k acc h1 h2 => ih (i + 1) k acc (by omega) h1 h2) C 0 k acc (by omega) (by omega) ha
    refine ⟨o, h1, ?_, ?_⟩
    · simp only [spec_l01Multiply.l0]
      rw [if_pos (by omega)]
      exact h2
    · simp only [impl_MultiplyMatrices.l0]
      rw [if_pos (by omega)]
      exact h3

theorem specIsMatrix_l0 (a b : Int) (l : List Int) (hl : l.length ≤ 1048576) : ∀ (d i k : Nat), i + d = l.length → d < k →
    spec_IsMatrix.l0 k (i : Int) a b l = some (!((l.drop i).any matBad)) := by
  intro d
  induction d with
  | zero =>
    intro i k hd hk
    obtain ⟨k, rfl⟩ := succ_k hk
    simp only [spec_IsMatrix.l0]
    rw [if_neg (by omega), List.drop_of_length_le (by omega)]
    rfl
  | succ d ih =>
    intro i k hd hk
    obtain ⟨k, rfl⟩ := succ_k hk
    simp only [spec_IsMatrix.l0]
    rw [if_pos (by omega), if_pos (by omega), w64 _ (by omega) (by omega), cast_succ, ih (i + 1) k (by omega) (by omega), drop_rd l i (by omega)]
    unfold spec_l01In.f
    rw [List.any_cons]
    unfold matBad
    generalize rd l (i : Int) = y
    by_cases h1 : -1000000000000 ≤ y <;> by_cases h2 : y ≤ 1000000000000 <;> simp [h1, h2]
theorem prod48 (a b : Int) (h1 : 0 ≤ a) (h2 : a ≤ 48) (h3 : 0 ≤ b) (h4 : b ≤ 48) : 0 ≤ a * b ∧ a * b ≤ 2304 :=
  ⟨Int.mul_nonneg h1 h3, Int.le_trans (Int.mul_le_mul h2 h4 h3 (by omega)) (by omega)⟩
theorem specIsMatrix_eq (a b : Int) (l : List Int) (k : Nat) (hl : l.length ≤ 1048576) (hk : l.length + 1 < k) : spec_IsMatrix.f k a b l = some (isMatB a b l) := by
  obtain ⟨k, rfl⟩ := succ_k hk
  have hs := specIsMatrix_l0 a b l hl l.length 0 k (by omega) (by omega)
  unfold spec_IsMatrix.f spec_l01In.f isMatB
  simp only [spec_IsMatrix.j0]
  by_cases h1 : 0 ≤ a <;> by_cases h2 : a ≤ 48 <;> by_cases h3 : 0 ≤ b <;> by_cases h4 : b ≤ 48
  case pos =>
    have hp := prod48 a b h1 h2 h3 h4
    rw [w64 (a * b) (by omega) (by omega)]
    rw [Int.natCast_zero] at hs
    by_cases h5 : (l.length : Int) = a * b
    · have h5' : ((l.length : Int) != a * b) = false := by simp [h5]
      simp [h1, h2, h3, h4, h5, h5', hs]
    · have h5' : ((l.length : Int) != a * b) = true := by simp [h5]
      simp [h1, h2, h3, h4, h5, h5']
  all_goals simp [h1, h2, h3, h4]

theorem isMatB_len {a b : Int} {l : List Int} (h : isMatB a b l = true) : (0 ≤ a ∧ a ≤ 48) ∧ (0 ≤ b ∧ b ≤ 48) ∧ (l.length : Int) = a * b := by
  unfold isMatB at h
  simp only [Bool.and_eq_true, decide_eq_true_eq] at h
  exact ⟨h.1, h.2.1, h.2.2.1⟩

theorem spec_MultiplyMatrices_j0 (k : Nat) (M C R : Int) (A B : List Int) :
    ((some true).bind fun t157 => if t157 = true then ((some true).bind fun t158 => spec_MultiplyMatrices.j0 (k + 1) (!t158) R M A M C B) else spec_MultiplyMatrices.j0 (k + 1) true R M A M C B) = (spec_l01Multiply.f k R M A M C B).bind fun bt159 => (if bt159.2.2.2 = true then (some (bt159.1, bt159.2.1, bt159.2.2.1, 0)) else (some (0, 0, ([] : List Int), 3))) := by
  show spec_MultiplyMatrices.j0 (k + 1) false R M A M C B = _
  rw [spec_MultiplyMatrices.j0, if_neg (by simp), if_pos rfl]
theorem impl_MultiplyMatrices_j0 (k : Nat) (M C R : Int) (A B : List Int) :
    ((some true).bind fun t184 => if t184 = true then ((some true).bind fun t185 => impl_MultiplyMatrices.j0 (k + 1) (!t185) R M A M C B) else impl_MultiplyMatrices.j0 (k + 1) true R M A M C B) = (impl_zeroMatrix.f R C).bind fun bt186 => (impl_MultiplyMatrices.l0 k R 0 R M A M C B bt186.1 bt186.2.1 bt186.2.2) := by
  show impl_MultiplyMatrices.j0 (k + 1) false R M A M C B = _
  rw [impl_MultiplyMatrices.j0, if_neg (by simp), if_pos rfl]
theorem mul_both (a b : Int) (A : List Int) (c d : Int) (B : List Int) (hA : A.length ≤ 1048576) (hB : B.length ≤ 1048576) (hAw : ∀ x ∈ A, (Lit.int .i64 x).wf = true) (hBw : ∀ x ∈ B, (Lit.int .i64 x).wf = true) :
    ∃ x y r t, r.length ≤ 1048576 ∧ ∀ k, 1200000 < k → (spec_MultiplyMatrices.f k a b A c d B = some (x, y, r, t) ∧ impl_MultiplyMatrices.f k a b A c d B = some (x, y, r, t)) := by
  by_cases h1 : isMatB a b A = true
  case neg =>
    refine ⟨0, 0, [], 1, by simp, fun k hk => ?_⟩
    obtain ⟨k, rfl⟩ := succ_k hk
    unfold spec_MultiplyMatrices.f impl_MultiplyMatrices.f impl_isMatrix.f
    rw [specIsMatrix_eq a b A _ hA (by omega)]
    have h1' : isMatB a b A = false := by simpa using h1
    simp [h1', spec_MultiplyMatrices.j0, impl_MultiplyMatrices.j0]
  by_cases h2 : isMatB c d B = true
  case neg =>
    refine ⟨0, 0, [], 1, by simp, fun k hk => ?_⟩
    obtain ⟨k, rfl⟩ := succ_k hk
    unfold spec_MultiplyMatrices.f impl_MultiplyMatrices.f impl_isMatrix.f
    rw [specIsMatrix_eq a b A _ hA (by omega), specIsMatrix_eq c d B _ hB (by omega)]
    have h2' : isMatB c d B = false := by simpa using h2
    simp [h1, h2', spec_MultiplyMatrices.j0, impl_MultiplyMatrices.j0]
  by_cases h3 : b = c
  case neg =>
    refine ⟨0, 0, [], 2, by simp, fun k hk => ?_⟩
    obtain ⟨k, rfl⟩ := succ_k hk
    unfold spec_MultiplyMatrices.f impl_MultiplyMatrices.f impl_isMatrix.f
    rw [specIsMatrix_eq a b A _ hA (by omega), specIsMatrix_eq c d B _ hB (by omega)]
    simp [h1, h2, h3, spec_MultiplyMatrices.j0, impl_MultiplyMatrices.j0]
  subst h3
  obtain ⟨g1, g2, g3⟩ := isMatB_len h1
  obtain ⟨_, g5, g6⟩ := isMatB_len h2
  obtain ⟨R, rfl⟩ : ∃ R : Nat, a = R := ⟨a.toNat, by omega⟩
  obtain ⟨M, rfl⟩ : ∃ M : Nat, b = M := ⟨b.toNat, by omega⟩
  obtain ⟨C, rfl⟩ : ∃ C : Nat, d = C := ⟨d.toNat, by omega⟩
  have m1 := Nat.mul_le_mul (show R ≤ 48 by omega) (show M ≤ 48 by omega)
  have m2 := Nat.mul_le_mul (show M ≤ 48 by omega) (show C ≤ 48 by omega)
  have m3 := Nat.mul_le_mul (show R ≤ 48 by omega) (show C ≤ 48 by omega)
  have e1 : (R : Int) * (M : Int) = ((R * M : Nat) : Int) := by simp
  have e2 : (M : Int) * (C : Int) = ((M * C : Nat) : Int) := by simp
  have e3 : (R : Int) * (C : Int) = ((R * C : Nat) : Int) := by simp
  rw [e1] at g3
  rw [e2] at g6
  have g3' : A.length = R * M := by omega
  have g6' : B.length = M * C := by omega
  obtain ⟨K, hK⟩ : ∃ K : Nat, K = 150000 := ⟨_, rfl⟩
  obtain ⟨o, h4, h5, h6⟩ := mu_l0 R M C A B (R * C) (by omega) (by omega) (by omega) hAw hBw (fun i m hi hm => by rw [g3']; exact idx_lt hi hm) (by omega) (fun m j hm hj => by rw [g6']; exact idx_lt hm hj) (by omega) (fun i j hi hj => idx_lt hi hj) (by omega) R 0 K (List.replicate (R * C) 0) (by omega) (by omega) (by simp)
  rw [Int.natCast_zero] at h5 h6
  have q1 : (0 : Int) ≤ ((R * C : Nat) : Int) := Int.natCast_nonneg _
  have q2 : R * C ≤ 35184372088832 := by omega
  have q3 : R * C ≤ 9223372036854775807 := by omega
  have ew : wrap64 ((R * C : Nat) : Int) = ((R * C : Nat) : Int) := w64n (R * C) q3
  have hs : ∀ k, K ≤ k → spec_l01Multiply.f k (R : Int) M A M C B = some (sOut R C o) := by
    intro k hk
    unfold spec_l01Multiply.f spec_l01Zero.f
    rw [e3, ew, Int.toNat_natCast, if_pos q1, if_pos q2]
    exact at_rounds (fun k => (spec_l01Multiply.mono_l k).1 _ _ _ _ _ _ _ _ _ _) hk h5
  have hi : ∀ k, K ≤ k → (impl_zeroMatrix.f (R : Int) C).bind (fun bt => impl_MultiplyMatrices.l0 k R 0 R M A M C B bt.1 bt.2.1 bt.2.2) = some (iOut R C o) := by
    intro k hk
    unfold impl_zeroMatrix.f
    rw [e3, ew, Int.toNat_natCast, if_pos q1, if_pos q2]
    exact at_rounds (fun k => (impl_MultiplyMatrices.mono_l k).2.1 _ _ _ _ _ _ _ _ _ _ _) hk h6
  clear ew
  refine ⟨(iOut R C o).1, (iOut R C o).2.1, (iOut R C o).2.2.1, (iOut R C o).2.2.2, ?_, fun k hk => ?_⟩
  · unfold iOut
    split
    · show o.1.length ≤ 1048576
      omega
    · simp
  obtain ⟨k, rfl⟩ := succ_k (show 1199999 < k by omega)
  unfold spec_MultiplyMatrices.f impl_MultiplyMatrices.f impl_isMatrix.f
  rw [specIsMatrix_eq _ _ A _ hA (by omega), specIsMatrix_eq _ _ B _ hB (by omega)]
  have hsk := hs k (by omega)
  have hik := hi k (by omega)
  clear hs hi h5 h6 hK
  rw [h1, h2, spec_MultiplyMatrices_j0 k M C R A B, impl_MultiplyMatrices_j0 k M C R A B, hsk, hik]
  constructor
  · unfold sOut iOut
    obtain ⟨r, t⟩ := o
    cases t <;> rfl
  · rfl

/-- The sum of the parts of an entry of a product, from m on. -/
def sumS (M C : Nat) (A B : List Int) (i j : Nat) : Nat → Nat → Int
  | 0, _ => 0
  | d + 1, m => rd A ((i * M + m : Nat) : Int) * rd B ((m * C + j : Nat) : Int) + sumS M C A B i j d (m + 1)
def absS (M C : Nat) (A B : List Int) (i j : Nat) : Nat → Nat → Nat
  | 0, _ => 0
  | d + 1, m => (rd A ((i * M + m : Nat) : Int) * rd B ((m * C + j : Nat) : Int)).natAbs + absS M C A B i j d (m + 1)
theorem sumS_le (M C : Nat) (A B : List Int) (i j : Nat) : ∀ (d m : Nat), (sumS M C A B i j d m).natAbs ≤ absS M C A B i j d m
  | 0, _ => Nat.le_refl _
  | d + 1, m => by
    have h := sumS_le M C A B i j d (m + 1)
    rw [sumS, absS]
    omega

/-- With enough rounds, the answer is r. -/
def Evt {α : Type} (f : Nat → Option α) (r : α) : Prop := ∃ c, ∀ K, c ≤ K → f K = some r
theorem Evt.step {α : Type} {f g : Nat → Option α} {r : α} (h : Evt g r) (e : ∀ K, f (K + 1) = g K) : Evt f r := by
  obtain ⟨c, hc⟩ := h
  refine ⟨c + 1, fun K hK => ?_⟩
  obtain ⟨K, rfl⟩ : ∃ m, K = m + 1 := ⟨K - 1, by omega⟩
  rw [e K]
  exact hc K (by omega)
theorem Evt.same {α : Type} {f g : Nat → Option α} {r : α} (h : Evt g r) (e : ∀ K, f K = g K) : Evt f r := by
  obtain ⟨c, hc⟩ := h
  exact ⟨c, fun K hK => by rw [e K]; exact hc K hK⟩
theorem Evt.now {α : Type} {f : Nat → Option α} {r : α} (e : ∀ K, f (K + 1) = some r) : Evt f r := by
  refine ⟨1, fun K hK => ?_⟩
  obtain ⟨K, rfl⟩ : ∃ m, K = m + 1 := ⟨K - 1, by omega⟩
  exact e K
theorem Evt.const {α : Type} {f : Nat → Option α} {r : α} (e : ∀ K, f K = some r) : Evt f r := ⟨0, fun K _ => e K⟩
theorem Evt.bind {α β : Type} {f : Nat → Option β} {g : Nat → Option α} {h : Nat → α → Option β} {x : α} {r : β} (hg : Evt g x) (hh : Evt (fun K => h K x) r) (e : ∀ K, f K = (g K).bind (h K)) : Evt f r := by
  obtain ⟨c, hc⟩ := hg
  obtain ⟨d, hd⟩ := hh
  exact ⟨c + d, fun K hK => by rw [e K, hc K (by omega)]; exact hd K (by omega)⟩
theorem Evt.bind1 {α β : Type} {f : Nat → Option β} {g : Nat → Option α} {h : Nat → α → Option β} {x : α} {r : β} (hg : Evt g x) (hh : Evt (fun K => h K x) r) (e : ∀ K, f (K + 1) = (g K).bind (h K)) : Evt f r :=
  Evt.step (g := fun K => (g K).bind (h K)) (Evt.bind hg hh fun _ => rfl) e
theorem idx_inj {n i j a x : Nat} (hj : j < n) (hx : x < n) (h : i * n + j = a * n + x) : i = a ∧ j = x := by
  have e1 : (i * n + j) / n = i := by rw [Nat.mul_comm, Nat.mul_add_div (by omega), Nat.div_eq_of_lt hj, Nat.add_zero]
  have e2 : (a * n + x) / n = a := by rw [Nat.mul_comm, Nat.mul_add_div (by omega), Nat.div_eq_of_lt hx, Nat.add_zero]
  have e : i = a := by rw [← e1, ← e2, h]
  subst e
  exact ⟨rfl, by omega⟩

theorem rd_small (l : List Int) (h : ∀ x ∈ l, x.natAbs ≤ 1000000000000) (i : Int) : (rd l i).natAbs ≤ 1000000000000 := by
  unfold rd
  rw [List.getD_eq_getElem?_getD]
  cases e : l[i.toNat]? with
  | none => simp
  | some x => exact h x (List.mem_of_getElem? e)
theorem isMatB_small {a b : Int} {l : List Int} (h : isMatB a b l = true) : ∀ x ∈ l, x.natAbs ≤ 1000000000000 := by
  intro x hx
  unfold isMatB at h
  simp only [Bool.and_eq_true, Bool.not_eq_true', List.any_eq_false] at h
  have h1 := h.2.2.2 x hx
  unfold matBad at h1
  simp at h1
  omega

theorem iabs_eq (x : Int) (h : x.natAbs ≤ 1000000000000) : impl_abs.f x = some (x.natAbs : Int) := by
  unfold impl_abs.f
  split
  · rw [w64 _ (by omega) (by omega)]; congr 1; omega
  · congr 1; omega
theorem prod_small {x y : Int} (hx : x.natAbs ≤ 1000000000000) (hy : y.natAbs ≤ 1000000000000) : impl_product.f x y 1000000000000 = some (if (x * y).natAbs ≤ 1000000000000 then (x * y, true) else (0, false)) := by
  unfold impl_product.f
  by_cases h0 : x = 0
  · subst h0
    simp [wrap64]
  · rw [if_neg h0, iabs_eq y hy, iabs_eq x hx]
    simp only [Option.bind_some]
    have hq : Int.tdiv 1000000000000 (x.natAbs : Int) = ((1000000000000 / x.natAbs : Nat) : Int) := by
      rw [Int.tdiv_eq_ediv_of_nonneg (by omega)]
      exact (Int.natCast_ediv 1000000000000 x.natAbs).symm
    have hle : 1000000000000 / x.natAbs ≤ 1000000000000 := Nat.div_le_self _ _
    have hiff : ((y.natAbs : Int) > ((1000000000000 / x.natAbs : Nat) : Int)) ↔ ¬ (x * y).natAbs ≤ 1000000000000 := by
      rw [Int.natAbs_mul]
      have := Nat.div_lt_iff_lt_mul (x := 1000000000000) (y := y.natAbs) (show 0 < x.natAbs by omega)
      rw [Nat.mul_comm] at this
      omega
    rw [if_neg (by omega), hq, w64n _ (by omega)]
    by_cases c : (x * y).natAbs ≤ 1000000000000
    · rw [if_pos c, if_neg (fun g => (hiff.mp g) c), w64 _ (by omega) (by omega)]
    · rw [if_neg c, if_pos (hiff.mpr c)]
theorem mat_idx2 (R C r c : Nat) (h : r * C + c < 2304) : wrap64 (wrap64 ((r : Int) * (C : Int)) + (c : Int)) = ((r * C + c : Nat) : Int) := by
  have e1 : (r : Int) * (C : Int) = ((r * C : Nat) : Int) := by simp
  rw [e1, w64n (r * C) (by omega)]
  exact w64n (r * C + c) (by omega)
theorem at_im2 (R C : Nat) (a : Int) (hR : R ≤ 48) (hC : C ≤ 48) (l : List Int) (hl : l.length = R * C) (r c : Nat) (hr : r < R) (hc : c < C) :
    impl_Matrix_at.f a (C : Int) l (r : Int) (c : Int) = some ((r * C + c : Nat) : Int) ∧ (0 : Int) ≤ ((r * C + c : Nat) : Int) ∧ ((r * C + c : Nat) : Int) < (l.length : Int) := by
  have h := idx_lt hr hc
  have hm := Nat.mul_le_mul hR hC
  have h1 : (0 : Int) ≤ ((r * C + c : Nat) : Int) := Int.natCast_nonneg _
  have h2 : ((r * C + c : Nat) : Int) < (l.length : Int) := by rw [hl]; exact Int.ofNat_lt.2 h
  refine ⟨?_, h1, h2⟩
  unfold impl_Matrix_at.f
  rw [mat_idx2 R C r c (by omega), if_pos h1, if_pos h2]
theorem ent_ev (R M C : Nat) (hR : R ≤ 48) (hM : M ≤ 48) (hC : C ≤ 48) (A B : List Int) (hA : A.length = R * M) (hB : B.length = M * C) (hAw : ∀ x ∈ A, x.natAbs ≤ 1000000000000) (hBw : ∀ x ∈ B, x.natAbs ≤ 1000000000000) (i j : Nat) (hi : i < R) (hj : j < C) :
    ∀ (d m : Nat) (s : Int) (T : Nat), m + d = M → T ≤ 1000000000000 → s.natAbs ≤ T → Evt (fun K => impl_entryOf.l0 K (i : Int) (j : Int) s (T : Int) (M : Int) (m : Int) (R : Int) (M : Int) A (M : Int) (C : Int) B) (if T + absS M C A B i j d m ≤ 1000000000000 then (s + sumS M C A B i j d m, true) else (0, false)) := by
  intro d
  induction d with
  | zero =>
    intro m s T hm hT _
    refine Evt.now fun K => ?_
    rw [impl_entryOf.l0, if_neg (by omega), absS, sumS, if_pos (by omega), Int.add_zero]
  | succ d ih =>
    intro m s T hm hT hs
    have hmM : m < M := by omega
    obtain ⟨a1, a2, a3⟩ := at_im2 R M (R : Int) hR hM A hA i m hi hmM
    obtain ⟨b1, b2, b3⟩ := at_im2 M C (M : Int) hM hC B hB m j hmM hj
    have hx := rd_small A hAw ((i * M + m : Nat) : Int)
    have hy := rd_small B hBw ((m * C + j : Nat) : Int)
    have hp := prod_small hx hy
    have hm1 : (m : Int) < (M : Int) := by omega
    rw [absS, sumS]
    obtain ⟨p, hpe⟩ : ∃ p, p = rd A ((i * M + m : Nat) : Int) * rd B ((m * C + j : Nat) : Int) := ⟨_, rfl⟩
    rw [← hpe] at hp ⊢
    by_cases c : p.natAbs ≤ 1000000000000
    · rw [if_pos c] at hp
      have hab := iabs_eq p c
      by_cases c2 : T + p.natAbs ≤ 1000000000000
      · have h1 := ih (m + 1) (s + p) (T + p.natAbs) (by omega) c2 (by omega)
        rw [Nat.add_assoc, Int.add_assoc] at h1
        refine Evt.step h1 fun K => ?_
        have em : wrap64 ((m : Int) + 1) = ((m + 1 : Nat) : Int) := w64n (m + 1) (by omega)
        have e1 : wrap64 ((T : Int) + (p.natAbs : Int)) = ((T + p.natAbs : Nat) : Int) := by rw [← Int.natCast_add]; exact w64n _ (by clear em; omega)
        have e2 : wrap64 (s + p) = s + p := w64 _ (by clear em e1; omega) (by clear em e1; omega)
        have c3 : ¬ (((T + p.natAbs : Nat) : Int) > 1000000000000) := by clear em e1 e2; omega
        rw [impl_entryOf.l0, a1, b1]
        simp only [hm1, a2, a3, b2, b3, if_true, Option.bind_some, hp]
        rw [hab, Option.bind_some, e1, e2, em, if_neg c3]
      · rw [if_neg (by omega)]
        refine Evt.now fun K => ?_
        have e1 : wrap64 ((T : Int) + (p.natAbs : Int)) = ((T + p.natAbs : Nat) : Int) := by rw [← Int.natCast_add]; exact w64n _ (by omega)
        have c3 : ((T + p.natAbs : Nat) : Int) > 1000000000000 := by clear e1; omega
        rw [impl_entryOf.l0, a1, b1]
        simp only [hm1, a2, a3, b2, b3, if_true, Option.bind_some, hp]
        rw [hab, Option.bind_some, e1, if_pos c3]
    · rw [if_neg c] at hp
      rw [if_neg (by omega)]
      refine Evt.now fun K => ?_
      have hab := iabs_eq 0 (by omega)
      rw [impl_entryOf.l0, a1, b1]
      simp only [hm1, a2, a3, b2, b3, if_true, Option.bind_some, hp, hab]
      rfl
theorem rd_set_gen (C : Nat) (l : List Int) (i j a x : Nat) (h : i * C + j < l.length) (hj : j < C) (hx : x < C) (v : Int) : rd (l.set (i * C + j) v) ((a * C + x : Nat) : Int) = if a = i ∧ x = j then v else rd l ((a * C + x : Nat) : Int) := by
  unfold rd
  rw [Int.toNat_natCast, List.getD_eq_getElem?_getD, List.getD_eq_getElem?_getD]
  by_cases e : i * C + j = a * C + x
  · obtain ⟨e1, e2⟩ := idx_inj hj hx e
    rw [if_pos ⟨e1.symm, e2.symm⟩, ← e, List.getElem?_set_self h]
    rfl
  · rw [if_neg (fun g => e (by rw [g.1, g.2])), List.getElem?_set_ne e]
/-- The entries before row i, column j are those of a product. -/
def Fil (R M C : Nat) (A B : List Int) (i j : Nat) (l : List Int) : Prop := l.length = R * C ∧ ∀ a x, a < R → x < C → (a < i ∨ (a = i ∧ x < j)) → rd l ((a * C + x : Nat) : Int) = sumS M C A B a x M 0 ∧ absS M C A B a x M 0 ≤ 1000000000000
def Over (R M C : Nat) (A B : List Int) : Prop := ∃ i j, i < R ∧ j < C ∧ ¬ absS M C A B i j M 0 ≤ 1000000000000
theorem ml_l1 (R M C : Nat) (hR : R ≤ 48) (hM : M ≤ 48) (hC : C ≤ 48) (A B : List Int) (hA : A.length = R * M) (hB : B.length = M * C) (hAw : ∀ x ∈ A, x.natAbs ≤ 1000000000000) (hBw : ∀ x ∈ B, x.natAbs ≤ 1000000000000) (i : Nat) (hi : i < R) :
    ∀ (d j : Nat) (l : List Int), j + d = C → Fil R M C A B i j l →
      (∃ l', Fil R M C A B (i + 1) 0 l' ∧ ∀ r, Evt (fun K => impl_MultiplyMatrices.l0 K (R : Int) ((i + 1 : Nat) : Int) (R : Int) (M : Int) A (M : Int) (C : Int) B (R : Int) (C : Int) l') r → Evt (fun K => impl_MultiplyMatrices.l1 K (i : Int) (R : Int) (i : Int) (C : Int) (j : Int) (R : Int) (M : Int) A (M : Int) (C : Int) B (R : Int) (C : Int) l) r) ∨
      (Over R M C A B ∧ Evt (fun K => impl_MultiplyMatrices.l1 K (i : Int) (R : Int) (i : Int) (C : Int) (j : Int) (R : Int) (M : Int) A (M : Int) (C : Int) B (R : Int) (C : Int) l) (0, 0, [], 3)) := by
  intro d
  induction d with
  | zero =>
    intro j l hj h
    obtain rfl : j = C := hj
    refine .inl ⟨l, ⟨h.1, fun a x ha hx hc => h.2 a x ha hx (by omega)⟩, fun r hr => Evt.step hr fun K => ?_⟩
    rw [impl_MultiplyMatrices.l1, if_neg (by omega), w64 ((i : Int) + 1) (by omega) (by omega), cast_succ]
  | succ d ih =>
    intro j l hj h
    have hjC : j < C := by omega
    have hj1 : (j : Int) < (C : Int) := by omega
    have he := ent_ev R M C hR hM hC A B hA hB hAw hBw i j hi hjC M 0 0 0 (by omega) (by omega) (by omega)
    rw [Nat.zero_add, Int.zero_add] at he
    by_cases c : absS M C A B i j M 0 ≤ 1000000000000
    · rw [if_pos c] at he
      obtain ⟨a1, a2, a3⟩ := at_im2 R C (R : Int) hR hC l h.1 i j hi hjC
      have hlt : i * C + j < l.length := by rw [h.1]; exact idx_lt hi hjC
      have hF : Fil R M C A B i (j + 1) (l.set (i * C + j) (sumS M C A B i j M 0)) := by
        refine ⟨by rw [List.length_set]; exact h.1, fun a x ha hx hc => ?_⟩
        rw [rd_set_gen C l i j a x hlt hjC hx]
        by_cases e : a = i ∧ x = j
        · rw [if_pos e, e.1, e.2]; exact ⟨rfl, c⟩
        · rw [if_neg e]; exact h.2 a x ha hx (by omega)
      have hstep : ∀ r, Evt (fun K => impl_MultiplyMatrices.l1 K (i : Int) (R : Int) (i : Int) (C : Int) ((j + 1 : Nat) : Int) (R : Int) (M : Int) A (M : Int) (C : Int) B (R : Int) (C : Int) (l.set (i * C + j) (sumS M C A B i j M 0))) r → Evt (fun K => impl_MultiplyMatrices.l1 K (i : Int) (R : Int) (i : Int) (C : Int) (j : Int) (R : Int) (M : Int) A (M : Int) (C : Int) B (R : Int) (C : Int) l) r := by
        intro r hr
        refine Evt.bind1 (g := fun K => impl_entryOf.f K (R : Int) (M : Int) A (M : Int) (C : Int) B (i : Int) (j : Int)) (h := fun K bt => if bt.2 = true then ((impl_Matrix_at.f (R : Int) (C : Int) l (i : Int) (j : Int)).bind fun t => (if 0 ≤ t then (if t < (l.length : Int) then (impl_MultiplyMatrices.l1 K (i : Int) (R : Int) (i : Int) (C : Int) (wrap64 ((j : Int) + 1)) (R : Int) (M : Int) A (M : Int) (C : Int) B (R : Int) (C : Int) (l.set (t : Int).toNat bt.1)) else none) else none)) else some (0, 0, [], 3)) he ?_ fun K => ?_
        · have ej : wrap64 ((j : Int) + 1) = ((j + 1 : Nat) : Int) := w64n (j + 1) (by omega)
          refine Evt.same hr fun K => ?_
          rw [a1, ej]
          simp only [a2, a3, if_true, Option.bind_some, Int.toNat_natCast]
        · rw [impl_MultiplyMatrices.l1, if_pos hj1]
      rcases ih (j + 1) _ (by omega) hF with ⟨l', h1, h2⟩ | ⟨h1, h2⟩
      · exact .inl ⟨l', h1, fun r hr => hstep r (h2 r hr)⟩
      · exact .inr ⟨h1, hstep _ h2⟩
    · rw [if_neg c] at he
      refine .inr ⟨⟨i, j, hi, hjC, c⟩, ?_⟩
      refine Evt.bind1 (g := fun K => impl_entryOf.f K (R : Int) (M : Int) A (M : Int) (C : Int) B (i : Int) (j : Int)) (h := fun K bt => if bt.2 = true then ((impl_Matrix_at.f (R : Int) (C : Int) l (i : Int) (j : Int)).bind fun t => (if 0 ≤ t then (if t < (l.length : Int) then (impl_MultiplyMatrices.l1 K (i : Int) (R : Int) (i : Int) (C : Int) (wrap64 ((j : Int) + 1)) (R : Int) (M : Int) A (M : Int) (C : Int) B (R : Int) (C : Int) (l.set (t : Int).toNat bt.1)) else none) else none)) else some (0, 0, [], 3)) he ?_ fun K => ?_
      · exact Evt.const fun K => by simp
      · rw [impl_MultiplyMatrices.l1, if_pos hj1]
theorem ml_l0 (R M C : Nat) (hR : R ≤ 48) (hM : M ≤ 48) (hC : C ≤ 48) (A B : List Int) (hA : A.length = R * M) (hB : B.length = M * C) (hAw : ∀ x ∈ A, x.natAbs ≤ 1000000000000) (hBw : ∀ x ∈ B, x.natAbs ≤ 1000000000000) :
    ∀ (d i : Nat) (l : List Int), i + d = R → Fil R M C A B i 0 l →
      (∃ l', Fil R M C A B R 0 l' ∧ Evt (fun K => impl_MultiplyMatrices.l0 K (R : Int) (i : Int) (R : Int) (M : Int) A (M : Int) (C : Int) B (R : Int) (C : Int) l) ((R : Int), (C : Int), l', 0)) ∨
      (Over R M C A B ∧ Evt (fun K => impl_MultiplyMatrices.l0 K (R : Int) (i : Int) (R : Int) (M : Int) A (M : Int) (C : Int) B (R : Int) (C : Int) l) (0, 0, [], 3)) := by
  intro d
  induction d with
  | zero =>
    intro i l hi h
    obtain rfl : i = R := hi
    refine .inl ⟨l, h, Evt.now fun K => ?_⟩
    rw [impl_MultiplyMatrices.l0, if_neg (by omega)]
  | succ d ih =>
    intro i l hi h
    have hiR : i < R := by omega
    have hstep : ∀ r, Evt (fun K => impl_MultiplyMatrices.l1 K (i : Int) (R : Int) (i : Int) (C : Int) ((0 : Nat) : Int) (R : Int) (M : Int) A (M : Int) (C : Int) B (R : Int) (C : Int) l) r → Evt (fun K => impl_MultiplyMatrices.l0 K (R : Int) (i : Int) (R : Int) (M : Int) A (M : Int) (C : Int) B (R : Int) (C : Int) l) r := by
      intro r hr
      refine Evt.step hr fun K => ?_
      rw [impl_MultiplyMatrices.l0, if_pos (by omega)]
      rfl
    rcases ml_l1 R M C hR hM hC A B hA hB hAw hBw i hiR C 0 l (by omega) h with ⟨l', h1, h2⟩ | ⟨h1, h2⟩
    · rcases ih (i + 1) l' (by omega) h1 with ⟨l2, g1, g2⟩ | ⟨g1, g2⟩
      · exact .inl ⟨l2, g1, hstep _ (h2 _ g2)⟩
      · exact .inr ⟨g1, hstep _ (h2 _ g2)⟩
    · exact .inr ⟨h1, hstep _ h2⟩
theorem isMatB_mk (R C : Nat) (hR : R ≤ 48) (hC : C ≤ 48) (l : List Int) (hl : l.length = R * C) (h : ∀ i j, i < R → j < C → (rd l ((i * C + j : Nat) : Int)).natAbs ≤ 1000000000000) : isMatB (R : Int) (C : Int) l = true := by
  unfold isMatB
  have hb : (l.any matBad) = false := by
    rw [List.any_eq_false]
    intro x hx
    obtain ⟨q, hq, rfl⟩ := List.mem_iff_getElem.mp hx
    have hC0 : 0 < C := by
      rcases Nat.eq_zero_or_pos C with e | e
      · rw [e] at hl; omega
      · exact e
    have h1 : q / C < R := by rw [Nat.div_lt_iff_lt_mul hC0, ← hl]; exact hq
    have h2 := h (q / C) (q % C) h1 (Nat.mod_lt _ hC0)
    rw [Nat.mul_comm, Nat.div_add_mod, rd_nat l q hq] at h2
    unfold matBad
    simp
    omega
  rw [hb]
  have e : (l.length : Int) = (R : Int) * (C : Int) := by rw [hl]; simp
  simp [e]
  omega
/-- What the product of two matrices is. -/
theorem mul_ev (R M C : Nat) (A B : List Int) (hmA : isMatB (R : Int) (M : Int) A = true) (hmB : isMatB (M : Int) (C : Int) B = true) :
    (∃ l', Fil R M C A B R 0 l' ∧ Evt (fun K => impl_MultiplyMatrices.f K (R : Int) (M : Int) A (M : Int) (C : Int) B) ((R : Int), (C : Int), l', 0)) ∨
    (Over R M C A B ∧ Evt (fun K => impl_MultiplyMatrices.f K (R : Int) (M : Int) A (M : Int) (C : Int) B) (0, 0, [], 3)) := by
  obtain ⟨g1, g2, g3⟩ := isMatB_len hmA
  obtain ⟨_, g4, g5⟩ := isMatB_len hmB
  rw [← Int.natCast_mul] at g3 g5
  have m3 := Nat.mul_le_mul (show R ≤ 48 by omega) (show C ≤ 48 by omega)
  have hf : ∀ r, Evt (fun K => impl_MultiplyMatrices.l0 K (R : Int) ((0 : Nat) : Int) (R : Int) (M : Int) A (M : Int) (C : Int) B (R : Int) (C : Int) (List.replicate (R * C) 0)) r → Evt (fun K => impl_MultiplyMatrices.f K (R : Int) (M : Int) A (M : Int) (C : Int) B) r := by
    intro r hr
    have h1 : Evt (fun K => impl_MultiplyMatrices.j0 K false (R : Int) (M : Int) A (M : Int) (C : Int) B) r := by
      refine Evt.step hr fun K => ?_
      have e3 : (R : Int) * (C : Int) = ((R * C : Nat) : Int) := by simp
      have hz : impl_zeroMatrix.f (R : Int) (C : Int) = some ((R : Int), (C : Int), List.replicate (R * C) 0) := by
        unfold impl_zeroMatrix.f
        rw [e3, w64n _ (by omega), Int.toNat_natCast, if_pos (Int.natCast_nonneg _), if_pos (by omega)]
      rw [impl_MultiplyMatrices.j0, if_neg (by simp), if_pos rfl, hz]
      rfl
    refine Evt.same h1 fun K => ?_
    unfold impl_MultiplyMatrices.f impl_isMatrix.f
    rw [hmA, hmB]
    rfl
  rcases ml_l0 R M C (by omega) (by omega) (by omega) A B (by omega) (by omega) (isMatB_small hmA) (isMatB_small hmB) R 0 (List.replicate (R * C) 0) (by omega) ⟨by simp, fun a x _ _ hc => absurd hc (by omega)⟩ with ⟨l', h1, h2⟩ | ⟨h1, h2⟩
  · exact .inl ⟨l', h1, hf _ h2⟩
  · exact .inr ⟨h1, hf _ h2⟩
theorem Fil.isMat {R M C : Nat} {A B l : List Int} (h : Fil R M C A B R 0 l) (hR : R ≤ 48) (hC : C ≤ 48) : isMatB (R : Int) (C : Int) l = true :=
  isMatB_mk R C hR hC l h.1 fun i j hi hj => by
    obtain ⟨h1, h2⟩ := h.2 i j hi hj (by omega)
    have h3 := sumS_le M C A B i j M 0
    rw [h1]
    omega

/-- What multiplying two matrices answers. -/
theorem mul_ans (a b : Int) (A : List Int) (c d : Int) (B : List Int) : ∃ ans, Evt (fun K => impl_MultiplyMatrices.f K a b A c d B) ans ∧ ((ans.2.2.2 ≠ 0 ∧ ans.1 = 0 ∧ ans.2.1 = 0 ∧ ans.2.2.1 = []) ∨
    ∃ (R M C : Nat) (l : List Int), a = R ∧ b = M ∧ c = M ∧ d = C ∧ isMatB a b A = true ∧ isMatB c d B = true ∧ Fil R M C A B R 0 l ∧ ans = ((R : Int), (C : Int), l, 0)) := by
  by_cases h1 : isMatB a b A = true
  case neg =>
    have h1' : isMatB a b A = false := by simpa using h1
    refine ⟨(0, 0, [], 1), ⟨1, fun K hK => ?_⟩, .inl ⟨by simp, rfl, rfl, rfl⟩⟩
    obtain ⟨K, rfl⟩ := succ_k (show 0 < K by omega)
    show impl_MultiplyMatrices.f (K + 1) a b A c d B = _
    unfold impl_MultiplyMatrices.f impl_isMatrix.f
    rw [h1']
    simp [impl_MultiplyMatrices.j0]
  by_cases h2 : isMatB c d B = true
  case neg =>
    have h2' : isMatB c d B = false := by simpa using h2
    refine ⟨(0, 0, [], 1), ⟨1, fun K hK => ?_⟩, .inl ⟨by simp, rfl, rfl, rfl⟩⟩
    obtain ⟨K, rfl⟩ := succ_k (show 0 < K by omega)
    show impl_MultiplyMatrices.f (K + 1) a b A c d B = _
    unfold impl_MultiplyMatrices.f impl_isMatrix.f
    rw [h1, h2']
    simp [impl_MultiplyMatrices.j0]
  by_cases h3 : b = c
  case neg =>
    refine ⟨(0, 0, [], 2), ⟨1, fun K hK => ?_⟩, .inl ⟨by simp, rfl, rfl, rfl⟩⟩
    obtain ⟨K, rfl⟩ := succ_k (show 0 < K by omega)
    show impl_MultiplyMatrices.f (K + 1) a b A c d B = _
    unfold impl_MultiplyMatrices.f impl_isMatrix.f
    rw [h1, h2]
    simp [impl_MultiplyMatrices.j0, h3]
  subst h3
  obtain ⟨g1, g2, _⟩ := isMatB_len h1
  obtain ⟨_, g5, _⟩ := isMatB_len h2
  obtain ⟨R, rfl⟩ : ∃ R : Nat, a = R := ⟨a.toNat, by omega⟩
  obtain ⟨M, rfl⟩ : ∃ M : Nat, b = M := ⟨b.toNat, by omega⟩
  obtain ⟨C, rfl⟩ : ∃ C : Nat, d = C := ⟨d.toNat, by omega⟩
  rcases mul_ev R M C A B h1 h2 with ⟨l, h4, h5⟩ | ⟨_, h5⟩
  · exact ⟨_, h5, .inr ⟨R, M, C, l, rfl, rfl, rfl, rfl, h1, h2, h4, rfl⟩⟩
  · exact ⟨_, h5, .inl ⟨by simp, rfl, rfl, rfl⟩⟩
theorem evt_unique {α : Type} {f : Nat → Option α} {r s : α} (h : Evt f r) (g : Evt f s) : r = s := by
  obtain ⟨c, hc⟩ := h
  obtain ⟨d, hd⟩ := g
  have h1 := hc (c + d) (by omega)
  rw [hd (c + d) (by omega)] at h1
  exact (Option.some.inj h1).symm

theorem one_evt (n : Nat) (hn : n ≤ 48) : ∃ I : List Int, I.length = n * n ∧ Evt (fun K => spec_l01One.f K (n : Int)) ((n : Int), (n : Int), I) ∧ Evt (fun K => impl_identity.f K (n : Int)) ((n : Int), (n : Int), I) := by
  have hm := Nat.mul_le_mul hn hn
  have key : ∀ (d i : Nat) (l : List Int), i + d = n → l.length = n * n → ∃ I : List Int, I.length = n * n ∧ Evt (fun K => spec_l01One.l0 K (n : Int) (i : Int) (n : Int) (n : Int) l) ((n : Int), (n : Int), I) ∧ Evt (fun K => impl_identity.l0 K (n : Int) (i : Int) (n : Int) (n : Int) l) ((n : Int), (n : Int), I) := by
    intro d
    induction d with
    | zero =>
      intro i l hi hl
      refine ⟨l, hl, Evt.now fun K => ?_, Evt.now fun K => ?_⟩
      · rw [spec_l01One.l0, if_neg (by omega)]
      · rw [impl_identity.l0, if_neg (by omega)]
    | succ d ih =>
      intro i l hi hl
      have hin : i < n := by omega
      obtain ⟨I, h1, h2, h3⟩ := ih (i + 1) (l.set (i * n + i) 1) (by omega) (by simp [hl])
      obtain ⟨a1, a2, a3⟩ := at_im2 n n (n : Int) hn hn l hl i i hin hin
      have hi1 : (i : Int) < (n : Int) := by omega
      have hlt := idx_lt hin hin
      have ei : wrap64 ((i : Int) + 1) = ((i + 1 : Nat) : Int) := w64n (i + 1) (by omega)
      have ex := mat_idx2 n n i i (by omega)
      refine ⟨I, h1, Evt.step h2 fun K => ?_, Evt.step h3 fun K => ?_⟩
      · rw [spec_l01One.l0, if_pos hi1, ex, ei, if_pos a2, if_pos a3, Int.toNat_natCast]
      · rw [impl_identity.l0, if_pos hi1, a1, Option.bind_some, if_pos a2, if_pos a3, ei, Int.toNat_natCast]
  obtain ⟨I, h1, h2, h3⟩ := key n 0 (List.replicate (n * n) 0) (by omega) (by simp)
  have e3 : (n : Int) * (n : Int) = ((n * n : Nat) : Int) := by simp
  refine ⟨I, h1, Evt.same h2 fun K => ?_, Evt.same h3 fun K => ?_⟩
  · unfold spec_l01One.f spec_l01Zero.f
    rw [e3, w64n _ (by omega), Int.toNat_natCast, if_pos (Int.natCast_nonneg _), if_pos (by omega)]
    rfl
  · unfold impl_identity.f impl_zeroMatrix.f
    rw [e3, w64n _ (by omega), Int.toNat_natCast, if_pos (Int.natCast_nonneg _), if_pos (by omega)]
    rfl

theorem same_l0 (a b : Int) (A : List Int) (c d : Int) (B : List Int) (hl : A.length = B.length) (hA : A.length ≤ 1048576) : ∀ (e i : Nat), i + e = A.length → Evt (fun K => spec_l02Same.l0 K (i : Int) a b A c d B) (decide (A.drop i = B.drop i)) ∧ Evt (fun K => slices_Equal_int64_int64.l0 K A B (A.length : Int) (i : Int)) (decide (A.drop i = B.drop i)) := by
  intro e
  induction e with
  | zero =>
    intro i hi
    have hd : decide (A.drop i = B.drop i) = true := by
      rw [List.drop_of_length_le (by omega), List.drop_of_length_le (by omega)]
      simp
    rw [hd]
    refine ⟨Evt.now fun K => ?_, Evt.now fun K => ?_⟩
    · rw [spec_l02Same.l0, if_neg (by omega)]
    · rw [slices_Equal_int64_int64.l0, if_neg (by omega)]
  | succ e ih =>
    intro i hi
    obtain ⟨h1, h2⟩ := ih (i + 1) (by omega)
    have hd : decide (A.drop i = B.drop i) = (decide (rd A (i : Int) = rd B (i : Int)) && decide (A.drop (i + 1) = B.drop (i + 1))) := by
      rw [drop_rd A i (by omega), drop_rd B i (by omega)]
      simp
    have ei : wrap64 ((i : Int) + 1) = ((i + 1 : Nat) : Int) := w64n (i + 1) (by omega)
    rw [hd]
    by_cases c0 : rd A (i : Int) = rd B (i : Int)
    · rw [decide_eq_true c0, Bool.true_and]
      refine ⟨Evt.step h1 fun K => ?_, Evt.step h2 fun K => ?_⟩
      · rw [spec_l02Same.l0, if_pos (by clear ei; omega), if_pos (by clear ei; omega), if_pos (by clear ei; omega), if_pos c0, ei]
      · rw [slices_Equal_int64_int64.l0, if_pos (by clear ei; omega), if_pos (by clear ei; omega), if_pos (by clear ei; omega), if_pos (by clear ei; omega), if_pos c0, ei]
    · rw [decide_eq_false c0, Bool.false_and]
      refine ⟨Evt.now fun K => ?_, Evt.now fun K => ?_⟩
      · rw [spec_l02Same.l0, if_pos (by clear ei; omega), if_pos (by clear ei; omega), if_pos (by clear ei; omega), if_neg c0]
      · rw [slices_Equal_int64_int64.l0, if_pos (by clear ei; omega), if_pos (by clear ei; omega), if_pos (by clear ei; omega), if_pos (by clear ei; omega), if_neg c0]
theorem same_evt (a b : Int) (A : List Int) (c d : Int) (B : List Int) (hA : A.length ≤ 1048576) (hB : B.length ≤ 1048576) :
    Evt (fun K => spec_l02Same.f K a b A c d B) (decide (a = c ∧ b = d ∧ A = B)) ∧ Evt (fun K => impl_isSame.f K a b A c d B) (decide (a = c ∧ b = d ∧ A = B)) := by
  have jt : Evt (fun K => spec_l02Same.j0 K true a b A c d B) false := Evt.now fun K => by rw [spec_l02Same.j0, if_pos rfl]
  by_cases h1 : a = c
  case neg =>
    rw [decide_eq_false (fun h => h1 h.1)]
    refine ⟨Evt.same jt fun K => ?_, Evt.const fun K => ?_⟩
    · unfold spec_l02Same.f; rw [if_neg h1]
    · unfold impl_isSame.f; rw [if_neg h1]
  by_cases h2 : b = d
  case neg =>
    rw [decide_eq_false (fun h => h2 h.2.1)]
    refine ⟨Evt.same jt fun K => ?_, Evt.const fun K => ?_⟩
    · unfold spec_l02Same.f; rw [if_pos h1, if_neg h2]
    · unfold impl_isSame.f; rw [if_pos h1, if_neg h2]
  by_cases h3 : A.length = B.length
  case neg =>
    have h3' : ¬ (A.length : Int) = (B.length : Int) := by omega
    rw [decide_eq_false (fun h => h3 (by rw [h.2.2]))]
    refine ⟨Evt.same jt fun K => ?_, Evt.const fun K => ?_⟩
    · unfold spec_l02Same.f; rw [if_pos h1, if_pos h2, show ((A.length : Int) != (B.length : Int)) = true from bne_iff_ne.mpr h3']
    · unfold impl_isSame.f slices_Equal_int64_int64.f; rw [if_pos h1, if_pos h2, if_neg h3']; rfl
  obtain ⟨g1, g2⟩ := same_l0 a b A c d B h3 hA A.length 0 (by omega)
  have h3' : (A.length : Int) = (B.length : Int) := by omega
  have e : decide (a = c ∧ b = d ∧ A = B) = decide (A.drop 0 = B.drop 0) := by simp [h1, h2]
  rw [e]
  refine ⟨?_, ?_⟩
  · have j : Evt (fun K => spec_l02Same.j0 K false a b A c d B) (decide (A.drop 0 = B.drop 0)) := Evt.step g1 fun K => by rw [spec_l02Same.j0, if_neg (by simp)]; rfl
    refine Evt.same j fun K => ?_
    unfold spec_l02Same.f
    rw [if_pos h1, if_pos h2, h3']
    simp
  · refine Evt.same g2 fun K => ?_
    unfold impl_isSame.f slices_Equal_int64_int64.f
    rw [if_pos h1, if_pos h2, if_pos h3']
    show (slices_Equal_int64_int64.l0 K A B (A.length : Int) 0).bind (fun t => some t) = slices_Equal_int64_int64.l0 K A B (A.length : Int) ((0 : Nat) : Int)
    cases h : slices_Equal_int64_int64.l0 K A B (A.length : Int) 0 with
    | none => rfl
    | some x => rfl

theorem at_sp2 (R C : Nat) (a : Int) (hR : R ≤ 48) (hC : C ≤ 48) (l : List Int) (hl : l.length = R * C) (r c : Nat) (hr : r < R) (hc : c < C) : spec_l01At.f a (C : Int) l (r : Int) (c : Int) = some (rd l ((r * C + c : Nat) : Int)) := by
  have h := idx_lt hr hc
  have hm := Nat.mul_le_mul hR hC
  unfold spec_l01At.f
  rw [mat_idx2 R C r c (by omega), if_pos (Int.natCast_nonneg _), if_pos (by rw [hl]; exact Int.ofNat_lt.2 h)]
/-- What the program keeps of the diagonal: the last entry seen. -/
def lastD (C : Nat) (l : List Int) (i j : Nat) (last : Int) : Prop := (i < j → i < C → last = rd l ((i * C + i : Nat) : Int)) ∧ (j ≤ i → (i = 0 → last = 1) ∧ (0 < i → i ≤ C → last = rd l (((i - 1) * C + (i - 1) : Nat) : Int)))
theorem dg_l1 (R C : Nat) (hR : R ≤ 48) (hC : C ≤ 48) (l : List Int) (hl : l.length = R * C) (i : Nat) (hi : i < R)
    (IH : ∀ last, lastD C l (i + 1) 0 last → ∃ δ, Evt (fun K => spec_l02Diagonal.l0 K ((i + 1 : Nat) : Int) (R : Int) (C : Int) l) δ ∧ Evt (fun K => impl_isDiagonal.l0 K last (R : Int) ((i + 1 : Nat) : Int) (R : Int) (C : Int) l) δ) :
    ∀ (d j : Nat) (last : Int), j + d = C → lastD C l i j last → ∃ δ, Evt (fun K => spec_l02Diagonal.l1 K (i : Int) (j : Int) (R : Int) (C : Int) l) δ ∧ Evt (fun K => impl_isDiagonal.l1 K last (i : Int) (R : Int) (i : Int) (C : Int) (j : Int) (R : Int) (C : Int) l) δ := by
  intro d
  induction d with
  | zero =>
    intro j last hj hL
    obtain rfl : j = C := hj
    obtain ⟨δ, h1, h2⟩ := IH last ⟨fun h => absurd h (by omega), fun _ => ⟨fun h => absurd h (by omega), fun _ h => by
      rw [Nat.add_sub_cancel]
      exact hL.1 (by omega) (by omega)⟩⟩
    refine ⟨δ, Evt.step h1 fun K => ?_, Evt.step h2 fun K => ?_⟩
    · rw [spec_l02Diagonal.l1, if_neg (by omega), w64 ((i : Int) + 1) (by omega) (by omega), cast_succ]
    · rw [impl_isDiagonal.l1, if_neg (by omega), w64 ((i : Int) + 1) (by omega) (by omega), cast_succ]
  | succ d ih =>
    intro j last hj hL
    have hjC : j < C := by omega
    have hj1 : (j : Int) < (C : Int) := by omega
    have hs := at_sp2 R C (R : Int) hR hC l hl i j hi hjC
    obtain ⟨a1, a2, a3⟩ := at_im2 R C (R : Int) hR hC l hl i j hi hjC
    have ej : wrap64 ((j : Int) + 1) = ((j + 1 : Nat) : Int) := w64n (j + 1) (by omega)
    obtain ⟨x, hx⟩ : ∃ x, x = rd l ((i * C + j : Nat) : Int) := ⟨_, rfl⟩
    rw [← hx] at hs
    -- the way behind the first test
    have sp1 : ∀ (β : Bool) δ, (¬ (i : Int) = (j : Int) ∧ ¬ x = 0 ∧ β = true ∨ ((i : Int) = (j : Int) ∨ x = 0) ∧ β = decide (x < 0)) → Evt (fun K => spec_l02Diagonal.j2 K (i : Int) (j : Int) x β (R : Int) (C : Int) l) δ → Evt (fun K => spec_l02Diagonal.l1 K (i : Int) (j : Int) (R : Int) (C : Int) l) δ := by
      intro β δ hβ h
      refine Evt.step h fun K => ?_
      rw [spec_l02Diagonal.l1, if_pos hj1, hs, Option.bind_some]
      rcases hβ with ⟨e1, e2, e3⟩ | ⟨e1 | e1, e3⟩
      · rw [if_neg e1, if_neg e2, e3]
      · rw [if_pos e1, e3]
      · by_cases e : (i : Int) = (j : Int)
        · rw [if_pos e, e3]
        · rw [if_neg e, if_pos e1, e3]
    have im1 : ∀ (β : Bool) δ, (¬ (i : Int) = (j : Int) ∧ ¬ x = 0 ∧ β = true ∨ ((i : Int) = (j : Int) ∨ x = 0) ∧ β = decide (x < 0)) → Evt (fun K => impl_isDiagonal.j2 K last (i : Int) (j : Int) x (R : Int) (i : Int) (C : Int) (j : Int) β (R : Int) (C : Int) l) δ → Evt (fun K => impl_isDiagonal.l1 K last (i : Int) (R : Int) (i : Int) (C : Int) (j : Int) (R : Int) (C : Int) l) δ := by
      intro β δ hβ h
      refine Evt.step h fun K => ?_
      rw [impl_isDiagonal.l1, if_pos hj1, a1, Option.bind_some, if_pos a2, if_pos a3, ← hx]
      rcases hβ with ⟨e1, e2, e3⟩ | ⟨e1 | e1, e3⟩
      · rw [if_neg e1, if_neg e2, e3]
      · rw [if_pos e1, e3]
      · by_cases e : (i : Int) = (j : Int)
        · rw [if_pos e, e3]
        · rw [if_neg e, if_pos e1, e3]
    have spT : Evt (fun K => spec_l02Diagonal.j2 K (i : Int) (j : Int) x true (R : Int) (C : Int) l) false := Evt.now fun K => by rw [spec_l02Diagonal.j2, if_pos rfl]
    have imT : Evt (fun K => impl_isDiagonal.j2 K last (i : Int) (j : Int) x (R : Int) (i : Int) (C : Int) (j : Int) true (R : Int) (C : Int) l) false := Evt.now fun K => by rw [impl_isDiagonal.j2, if_pos rfl]
    by_cases c1 : ¬ (i : Int) = (j : Int) ∧ ¬ x = 0
    · exact ⟨false, sp1 true false (.inl ⟨c1.1, c1.2, rfl⟩) spT, im1 true false (.inl ⟨c1.1, c1.2, rfl⟩) imT⟩
    have c1' : (i : Int) = (j : Int) ∨ x = 0 := by
      by_cases e : (i : Int) = (j : Int)
      · exact .inl e
      · exact .inr (Classical.byContradiction fun h => c1 ⟨e, h⟩)
    by_cases c2 : x < 0
    · exact ⟨false, sp1 true false (.inr ⟨c1', (decide_eq_true c2).symm⟩) spT, im1 true false (.inr ⟨c1', (decide_eq_true c2).symm⟩) imT⟩
    have s2 := fun δ => sp1 false δ (.inr ⟨c1', (decide_eq_false c2).symm⟩)
    have i2 := fun δ => im1 false δ (.inr ⟨c1', (decide_eq_false c2).symm⟩)
    clear sp1 im1 spT imT
    by_cases c3 : i = j
    case neg =>
      have c3' : ¬ (i : Int) = (j : Int) := by omega
      obtain ⟨δ, h1, h2⟩ := ih (j + 1) last (by clear ej; omega) ⟨fun h g => by
        by_cases e : i < j
        · exact hL.1 e g
        · exfalso; clear ej; omega, fun h => hL.2 (by clear ej; omega)⟩
      refine ⟨δ, s2 δ ?_, i2 δ ?_⟩
      · have h3 : Evt (fun K => spec_l02Diagonal.j3 K (i : Int) (j : Int) x false (R : Int) (C : Int) l) δ := Evt.step h1 fun K => by rw [spec_l02Diagonal.j3, if_neg (by simp), ej]
        exact Evt.step h3 fun K => by rw [spec_l02Diagonal.j2, if_neg (by simp), if_neg c3']
      · have h3 : Evt (fun K => impl_isDiagonal.j3 K last (i : Int) (j : Int) x (R : Int) (i : Int) (C : Int) (j : Int) false (R : Int) (C : Int) l) δ := Evt.step h2 fun K => by rw [impl_isDiagonal.j3, if_neg (by simp), if_neg c3', ej]
        exact Evt.step h3 fun K => by rw [impl_isDiagonal.j2, if_neg (by simp), if_neg c3']
    subst c3
    obtain ⟨hL0, hL1⟩ := hL.2 (Nat.le_refl i)
    have nxt : lastD C l i (i + 1) x := ⟨fun _ _ => hx, fun h => absurd h (by omega)⟩
    obtain ⟨δ, h1, h2⟩ := ih (i + 1) x (by clear ej; omega) nxt
    have imGo : Evt (fun K => impl_isDiagonal.j3 K last (i : Int) (i : Int) x (R : Int) (i : Int) (C : Int) (i : Int) false (R : Int) (C : Int) l) δ := Evt.step h2 fun K => by rw [impl_isDiagonal.j3, if_neg (by simp), if_pos rfl, ej]
    have imNo : Evt (fun K => impl_isDiagonal.j3 K last (i : Int) (i : Int) x (R : Int) (i : Int) (C : Int) (i : Int) true (R : Int) (C : Int) l) false := Evt.now fun K => by rw [impl_isDiagonal.j3, if_pos rfl]
    have spGo : Evt (fun K => spec_l02Diagonal.j3 K (i : Int) (i : Int) x false (R : Int) (C : Int) l) δ := Evt.step h1 fun K => by rw [spec_l02Diagonal.j3, if_neg (by simp), ej]
    by_cases c4 : x = 0
    · refine ⟨δ, s2 δ ?_, i2 δ ?_⟩
      · refine Evt.step spGo fun K => ?_
        rw [spec_l02Diagonal.j2, if_neg (by simp), if_pos rfl, c4]
        by_cases e : (i : Int) > 0
        · rw [if_pos e]; rfl
        · rw [if_neg e]
      · refine Evt.step imGo fun K => ?_
        rw [impl_isDiagonal.j2, if_neg (by simp), if_pos rfl, c4]
        by_cases e : last = 0
        · rw [if_pos e, if_pos rfl]
        · rw [if_neg e, Int.zero_tmod]; rfl
    · by_cases c5 : i = 0
      · have h1' : last = 1 := hL0 c5
        refine ⟨δ, s2 δ ?_, i2 δ ?_⟩
        · refine Evt.step spGo fun K => ?_
          rw [spec_l02Diagonal.j2, if_neg (by simp), if_pos rfl, if_neg (by omega)]
        · refine Evt.step imGo fun K => ?_
          rw [impl_isDiagonal.j2, if_neg (by simp), if_pos rfl, h1', if_neg (by omega), Int.tmod_one]; rfl
      · have hlast := hL1 (by omega) (by omega)
        have hs2 := at_sp2 R C (R : Int) hR hC l hl (i - 1) (i - 1) (by omega) (by omega)
        rw [← hlast] at hs2
        have em : wrap64 ((i : Int) - 1) = ((i - 1 : Nat) : Int) := by rw [w64 _ (by clear ej; omega) (by clear ej; omega)]; clear ej; omega
        have sp3 : ∀ δ, Evt (fun K => spec_l02Diagonal.j3 K (i : Int) (i : Int) x true (R : Int) (C : Int) l) δ → Evt (fun K => spec_l02Diagonal.j2 K (i : Int) (i : Int) x false (R : Int) (C : Int) l) δ := by
          intro δ h
          refine Evt.step h fun K => ?_
          rw [spec_l02Diagonal.j2, if_neg (by simp), if_pos rfl, if_pos (by clear ej em; omega), show (x != 0) = true from bne_iff_ne.mpr c4]
        by_cases c6 : last = 0
        · refine ⟨false, s2 false (sp3 false (Evt.now fun K => ?_)), i2 false ?_⟩
          · rw [spec_l02Diagonal.j3, if_pos rfl, em, hs2, Option.bind_some, if_pos c6]
          · refine Evt.step imNo fun K => ?_
            rw [impl_isDiagonal.j2, if_neg (by simp), if_pos rfl, if_pos c6, if_neg c4]
        · by_cases c7 : Int.tmod x last = 0
          · refine ⟨δ, s2 δ (sp3 δ (Evt.step h1 fun K => ?_)), i2 δ ?_⟩
            · rw [spec_l02Diagonal.j3, if_pos rfl, em, hs2, Option.bind_some, if_neg c6, if_pos c7, ej]
            · refine Evt.step imGo fun K => ?_
              rw [impl_isDiagonal.j2, if_neg (by simp), if_pos rfl, if_neg c6, c7]; rfl
          · refine ⟨false, s2 false (sp3 false (Evt.now fun K => ?_)), i2 false ?_⟩
            · rw [spec_l02Diagonal.j3, if_pos rfl, em, hs2, Option.bind_some, if_neg c6, if_neg c7]
            · refine Evt.step imNo fun K => ?_
              rw [impl_isDiagonal.j2, if_neg (by simp), if_pos rfl, if_neg c6, show (Int.tmod x last != 0) = true from bne_iff_ne.mpr c7]
theorem dg_l0 (R C : Nat) (hR : R ≤ 48) (hC : C ≤ 48) (l : List Int) (hl : l.length = R * C) : ∀ (d i : Nat) (last : Int), i + d = R → lastD C l i 0 last → ∃ δ, Evt (fun K => spec_l02Diagonal.l0 K (i : Int) (R : Int) (C : Int) l) δ ∧ Evt (fun K => impl_isDiagonal.l0 K last (R : Int) (i : Int) (R : Int) (C : Int) l) δ := by
  intro d
  induction d with
  | zero =>
    intro i last hi _
    obtain rfl : i = R := hi
    exact ⟨true, Evt.now fun K => by rw [spec_l02Diagonal.l0, if_neg (by omega)], Evt.now fun K => by rw [impl_isDiagonal.l0, if_neg (by omega)]⟩
  | succ d ih =>
    intro i last hi hL
    obtain ⟨δ, h1, h2⟩ := dg_l1 R C hR hC l hl i (by omega) (fun last h => ih (i + 1) last (by omega) h) C 0 last (by omega) hL
    refine ⟨δ, Evt.step h1 fun K => ?_, Evt.step h2 fun K => ?_⟩
    · rw [spec_l02Diagonal.l0, if_pos (by omega)]; rfl
    · rw [impl_isDiagonal.l0, if_pos (by omega)]; rfl
theorem diag_evt (a b : Int) (l : List Int) (hm : isMatB a b l = true) : ∃ δ, Evt (fun K => spec_l02Diagonal.f K a b l) δ ∧ Evt (fun K => impl_isDiagonal.f K a b l) δ := by
  obtain ⟨g1, g2, g3⟩ := isMatB_len hm
  obtain ⟨R, rfl⟩ : ∃ R : Nat, a = R := ⟨a.toNat, by omega⟩
  obtain ⟨C, rfl⟩ : ∃ C : Nat, b = C := ⟨b.toNat, by omega⟩
  rw [← Int.natCast_mul] at g3
  exact dg_l0 R C (by omega) (by omega) l (by omega) R 0 1 (by omega) ⟨fun h => absurd h (by omega), fun _ => ⟨fun _ => rfl, fun h => absurd h (by omega)⟩⟩

/-- What multiplying answers, in program and reference. -/
theorem both_ans (a b : Int) (A : List Int) (c d : Int) (B : List Int) (hA : A.length ≤ 1048576) (hB : B.length ≤ 1048576) (hAw : ∀ x ∈ A, (Lit.int .i64 x).wf = true) (hBw : ∀ x ∈ B, (Lit.int .i64 x).wf = true) :
    ∃ ans, Evt (fun K => impl_MultiplyMatrices.f K a b A c d B) ans ∧ Evt (fun K => spec_MultiplyMatrices.f K a b A c d B) ans ∧ ((ans.2.2.2 ≠ 0 ∧ ans.1 = 0 ∧ ans.2.1 = 0 ∧ ans.2.2.1 = []) ∨
      ∃ (R M C : Nat) (l : List Int), a = R ∧ b = M ∧ c = M ∧ d = C ∧ isMatB a b A = true ∧ isMatB c d B = true ∧ isMatB (R : Int) (C : Int) l = true ∧ ans = ((R : Int), (C : Int), l, 0)) := by
  obtain ⟨ans, h1, h2⟩ := mul_ans a b A c d B
  obtain ⟨x, y, r, t, _, hm⟩ := mul_both a b A c d B hA hB hAw hBw
  have hs : Evt (fun K => spec_MultiplyMatrices.f K a b A c d B) (x, y, r, t) := ⟨1200001, fun K hK => (hm K (by omega)).1⟩
  have hi : Evt (fun K => impl_MultiplyMatrices.f K a b A c d B) (x, y, r, t) := ⟨1200001, fun K hK => (hm K (by omega)).2⟩
  obtain rfl := evt_unique h1 hi
  refine ⟨_, hi, hs, ?_⟩
  rcases h2 with h | ⟨R, M, C, l, e1, e2, e3, e4, m1, m2, hF, e⟩
  · exact .inl h
  · refine .inr ⟨R, M, C, l, e1, e2, e3, e4, m1, m2, ?_, e⟩
    subst e1; subst e2; subst e4
    obtain ⟨g1, _, _⟩ := isMatB_len m1
    obtain ⟨_, g5, _⟩ := isMatB_len m2
    exact hF.isMat (by omega) (by omega)
theorem wf_small (l : List Int) (h : ∀ x ∈ l, x.natAbs ≤ 1000000000000) : ∀ x ∈ l, (Lit.int .i64 x).wf = true := by
  intro x hx
  have := h x hx
  simp [Lit.wf, IntKind.min, IntKind.max, IntKind.signed, IntKind.bits]
  omega
theorem mat_len {a b : Int} {l : List Int} (h : isMatB a b l = true) : l.length ≤ 2304 := by
  obtain ⟨g1, g2, g3⟩ := isMatB_len h
  have := prod48 a b g1.1 g1.2 g2.1 g2.2
  omega
/-- The program's test of an inverse, and the reference's where both are matrices. -/
theorem inv_both (a b : Int) (A : List Int) (c d : Int) (B : List Int) (n : Nat) (hn : n ≤ 48) (hA : A.length ≤ 1048576) (hB : B.length ≤ 1048576) (hAw : ∀ x ∈ A, (Lit.int .i64 x).wf = true) (hBw : ∀ x ∈ B, (Lit.int .i64 x).wf = true) :
    ∃ β, Evt (fun K => impl_areInverse.f K a b A c d B (n : Int)) β ∧ Evt (fun K => spec_l02Inverse.f K c d B a b A (n : Int)) β ∧ (β = true → isMatB a b A = true ∧ isMatB c d B = true) := by
  obtain ⟨ans, h1, h2, h3⟩ := both_ans a b A c d B hA hB hAw hBw
  obtain ⟨I, hI, i1, i2⟩ := one_evt n hn
  have spec0 : ∀ β, Evt (fun K => spec_l02Inverse.j0 K (n : Int) false c d B a b A) β → c = n → d = n → a = n → b = n → Evt (fun K => spec_l02Inverse.f K c d B a b A (n : Int)) β := by
    intro β h e1 e2 e3 e4
    refine Evt.same h fun K => ?_
    unfold spec_l02Inverse.f
    rw [if_pos e1, if_pos e2, if_pos e3, e4]
    simp
  have specF : ¬ (c = n ∧ d = n ∧ a = n ∧ b = n) → Evt (fun K => spec_l02Inverse.f K c d B a b A (n : Int)) false := by
    intro h
    refine Evt.now fun K => ?_
    unfold spec_l02Inverse.f
    simp only [spec_l02Inverse.j0]
    by_cases e1 : c = n
    · by_cases e2 : d = n
      · by_cases e3 : a = n
        · have e4 : (b != (n : Int)) = true := bne_iff_ne.mpr fun e => h ⟨e1, e2, e3, e⟩
          rw [if_pos e1, if_pos e2, if_pos e3, if_pos e4]
        · rw [if_pos e1, if_pos e2, if_neg e3]; rfl
      · rw [if_pos e1, if_neg e2]; rfl
    · rw [if_neg e1]; rfl
  rcases h3 with ⟨g1, _, _, _⟩ | ⟨R, M, C, l, rfl, rfl, rfl, rfl, m1, m2, m3, rfl⟩
  · refine ⟨false, ?_, ?_, fun h => absurd h (by simp)⟩
    · unfold impl_areInverse.f
      exact Evt.bind h1 (Evt.const fun K => by rw [if_neg g1]) fun _ => rfl
    · by_cases e : c = n ∧ d = n ∧ a = n ∧ b = n
      · refine spec0 false ?_ e.1 e.2.1 e.2.2.1 e.2.2.2
        refine Evt.step (g := fun K => (spec_MultiplyMatrices.f K a b A c d B).bind fun bt179 => (if bt179.2.2.2 = 0 then ((spec_l01One.f K (n : Int)).bind fun bt186 => ((spec_l02Same.f K bt179.1 bt179.2.1 bt179.2.2.1 bt186.1 bt186.2.1 bt186.2.2).bind fun t191 => (some t191))) else (some false))) ?_ fun K => by rw [spec_l02Inverse.j0, if_neg (by simp)]
        exact Evt.bind h2 (Evt.const fun K => by rw [if_neg g1]) fun _ => rfl
      · exact specF e
  · have ml := mat_len m3
    have hIl : I.length ≤ 2304 := by rw [hI]; have := Nat.mul_le_mul hn hn; omega
    have hs := same_evt (R : Int) (C : Int) l (n : Int) (n : Int) I (by omega) (by omega)
    by_cases e : R = n ∧ M = n
    · refine ⟨decide ((R : Int) = n ∧ (C : Int) = n ∧ l = I), ?_, ?_, fun _ => ⟨m1, m2⟩⟩
      · unfold impl_areInverse.f
        refine Evt.bind h1 ?_ fun _ => rfl
        simp only [if_true]
        simp only [show (R : Int) = n by omega, show (M : Int) = n by omega, if_true]
        rw [show (R : Int) = n by omega] at hs
        simp only [show (R : Int) = n by omega] at hs ⊢
        exact Evt.bind i2 (Evt.bind hs.2 (Evt.const fun _ => rfl) fun _ => rfl) fun _ => rfl
      · by_cases e2 : C = n
        · refine spec0 _ ?_ (by omega) (by omega) (by omega) (by omega)
          refine Evt.step (g := fun K => (spec_MultiplyMatrices.f K (R : Int) (M : Int) A (M : Int) (C : Int) B).bind fun bt179 => (if bt179.2.2.2 = 0 then ((spec_l01One.f K (n : Int)).bind fun bt186 => ((spec_l02Same.f K bt179.1 bt179.2.1 bt179.2.2.1 bt186.1 bt186.2.1 bt186.2.2).bind fun t191 => (some t191))) else (some false))) ?_ fun K => by rw [spec_l02Inverse.j0, if_neg (by simp)]
          refine Evt.bind h2 ?_ fun _ => rfl
          simp only [if_true]
          exact Evt.bind i1 (Evt.bind hs.1 (Evt.const fun _ => rfl) fun _ => rfl) fun _ => rfl
        · rw [decide_eq_false (fun h => e2 (by omega))]
          exact specF fun h => e2 (by omega)
    · refine ⟨false, ?_, specF fun h => e (by omega), fun h => absurd h (by simp)⟩
      unfold impl_areInverse.f
      refine Evt.bind h1 (Evt.const fun K => ?_) fun _ => rfl
      simp only [if_true]
      by_cases e1 : R = n
      · rw [if_pos (by omega), if_neg (by omega)]
      · rw [if_neg (by omega)]
theorem red_both (a b : Int) (A : List Int) (c0 d0 : Int) (L : List Int) (c1 d1 : Int) (LI : List Int) (c2 d2 : Int) (D : List Int) (c3 d3 : Int) (Q : List Int) (c4 d4 : Int) (QI : List Int)
    (hA : A.length ≤ 1048576) (hL : L.length ≤ 1048576) (hLI : LI.length ≤ 1048576) (hD : D.length ≤ 1048576) (hQ : Q.length ≤ 1048576) (hQI : QI.length ≤ 1048576)
    (wA : ∀ x ∈ A, (Lit.int .i64 x).wf = true) (wL : ∀ x ∈ L, (Lit.int .i64 x).wf = true) (wLI : ∀ x ∈ LI, (Lit.int .i64 x).wf = true) (wQ : ∀ x ∈ Q, (Lit.int .i64 x).wf = true) (wQI : ∀ x ∈ QI, (Lit.int .i64 x).wf = true) :
    ∃ β, Evt (fun K => spec_IsReduction.f K a b A c0 d0 L c1 d1 LI c2 d2 D c3 d3 Q c4 d4 QI) β ∧ Evt (fun K => impl_IsReduction.f K a b A c0 d0 L c1 d1 LI c2 d2 D c3 d3 Q c4 d4 QI) β := by
  have mt : ∀ (x y : Int) (l : List Int), l.length ≤ 1048576 → Evt (fun K => spec_IsMatrix.f K x y l) (isMatB x y l) := fun x y l hl => ⟨l.length + 2, fun K hK => specIsMatrix_eq x y l K hl (by omega)⟩
  have s0 : ∀ β, (isMatB a b A = true ∧ isMatB c0 d0 L = true ∧ isMatB c1 d1 LI = true ∧ isMatB c2 d2 D = true ∧ isMatB c3 d3 Q = true → Evt (fun K => spec_IsReduction.j0 K (!(isMatB c4 d4 QI)) a b A c0 d0 L c1 d1 LI c2 d2 D c3 d3 Q c4 d4 QI) β) → (¬ (isMatB a b A = true ∧ isMatB c0 d0 L = true ∧ isMatB c1 d1 LI = true ∧ isMatB c2 d2 D = true ∧ isMatB c3 d3 Q = true) → β = false) → Evt (fun K => spec_IsReduction.f K a b A c0 d0 L c1 d1 LI c2 d2 D c3 d3 Q c4 d4 QI) β := by
    intro β hyes hno
    have out : β = false → Evt (fun K => spec_IsReduction.j0 K true a b A c0 d0 L c1 d1 LI c2 d2 D c3 d3 Q c4 d4 QI) β := by
      rintro rfl
      exact Evt.now fun K => by rw [spec_IsReduction.j0, if_pos rfl]
    unfold spec_IsReduction.f
    refine Evt.bind (mt a b A hA) ?_ fun _ => rfl
    by_cases m0 : isMatB a b A = true
    case neg => simp only [m0, if_false]; exact out (hno fun h => m0 h.1)
    simp only [m0, if_true]
    refine Evt.bind (mt c0 d0 L hL) ?_ fun _ => rfl
    by_cases m1 : isMatB c0 d0 L = true
    case neg => simp only [m1, if_false]; exact out (hno fun h => m1 h.2.1)
    simp only [m1, if_true]
    refine Evt.bind (mt c1 d1 LI hLI) ?_ fun _ => rfl
    by_cases m2 : isMatB c1 d1 LI = true
    case neg => simp only [m2, if_false]; exact out (hno fun h => m2 h.2.2.1)
    simp only [m2, if_true]
    refine Evt.bind (mt c2 d2 D hD) ?_ fun _ => rfl
    by_cases m3 : isMatB c2 d2 D = true
    case neg => simp only [m3, if_false]; exact out (hno fun h => m3 h.2.2.2.1)
    simp only [m3, if_true]
    refine Evt.bind (mt c3 d3 Q hQ) ?_ fun _ => rfl
    by_cases m4 : isMatB c3 d3 Q = true
    case neg => simp only [m4, if_false]; exact out (hno fun h => m4 h.2.2.2.2)
    simp only [m4, if_true]
    exact Evt.bind (mt c4 d4 QI hQI) (hyes ⟨m0, m1, m2, m3, m4⟩) fun _ => rfl
  have j1t : Evt (fun K => spec_IsReduction.j1 K true a b A c0 d0 L c1 d1 LI c2 d2 D c3 d3 Q c4 d4 QI) false := Evt.now fun K => by rw [spec_IsReduction.j1, if_pos rfl]
  have i0t : Evt (fun K => impl_IsReduction.j0 K true a b A c0 d0 L c1 d1 LI c2 d2 D c3 d3 Q c4 d4 QI) false := Evt.now fun K => by rw [impl_IsReduction.j0, if_pos rfl]
  by_cases m0 : isMatB a b A = true
  case neg =>
    refine ⟨false, s0 false (fun h => absurd h.1 m0) (fun _ => rfl), ?_⟩
    unfold impl_IsReduction.f impl_isMatrix.f
    refine Evt.same i0t fun K => ?_
    simp [m0]
  by_cases m3 : isMatB c2 d2 D = true
  case neg =>
    refine ⟨false, s0 false (fun h => absurd h.2.2.2.1 m3) (fun _ => rfl), ?_⟩
    unfold impl_IsReduction.f impl_isMatrix.f
    refine Evt.same i0t fun K => ?_
    simp [m0, m3]
  obtain ⟨g1, g2, _⟩ := isMatB_len m0
  obtain ⟨n, rfl⟩ : ∃ n : Nat, a = n := ⟨a.toNat, by omega⟩
  obtain ⟨m, rfl⟩ : ∃ m : Nat, b = m := ⟨b.toNat, by omega⟩
  obtain ⟨β1, v1, v2, v3⟩ := inv_both c1 d1 LI c0 d0 L n (by omega) hLI hL wLI wL
  obtain ⟨β2, u1, u2, u3⟩ := inv_both c4 d4 QI c3 d3 Q m (by omega) hQI hQ wQI wQ
  have implHead : ∀ β, Evt (fun K => impl_IsReduction.j0 K (!(β1 && β2)) (n : Int) (m : Int) A c0 d0 L c1 d1 LI c2 d2 D c3 d3 Q c4 d4 QI) β → Evt (fun K => impl_IsReduction.f K (n : Int) (m : Int) A c0 d0 L c1 d1 LI c2 d2 D c3 d3 Q c4 d4 QI) β := by
    intro β h
    unfold impl_IsReduction.f impl_isMatrix.f
    simp only [m0, m3, Option.bind_some, if_true]
    refine Evt.bind v1 ?_ fun _ => rfl
    cases β1 with
    | false => simpa using h
    | true =>
      simp only [if_true]
      exact Evt.bind u1 (by simpa using h) fun _ => rfl
  cases hb1 : β1 with
  | false =>
    subst hb1
    refine ⟨false, s0 false (fun h => ?_) (fun _ => rfl), implHead _ (by simpa using i0t)⟩
    by_cases mq : isMatB c4 d4 QI = true
    · rw [mq]
      refine Evt.step (g := fun K => (spec_l02Inverse.f K c0 d0 L c1 d1 LI (n : Int)).bind fun t203 => (if t203 = true then ((spec_l02Inverse.f K c3 d3 Q c4 d4 QI (m : Int)).bind fun t204 => (if t204 = true then ((spec_l02Diagonal.f K c2 d2 D).bind fun t205 => (spec_IsReduction.j1 K (!t205) (n : Int) (m : Int) A c0 d0 L c1 d1 LI c2 d2 D c3 d3 Q c4 d4 QI)) else (spec_IsReduction.j1 K true (n : Int) (m : Int) A c0 d0 L c1 d1 LI c2 d2 D c3 d3 Q c4 d4 QI))) else (spec_IsReduction.j1 K true (n : Int) (m : Int) A c0 d0 L c1 d1 LI c2 d2 D c3 d3 Q c4 d4 QI))) ?_ fun K => by rw [spec_IsReduction.j0, if_neg (by simp)]
      exact Evt.bind v2 (by simpa using j1t) fun _ => rfl
    · have mq' : isMatB c4 d4 QI = false := by simpa using mq
      rw [mq']
      exact Evt.now fun K => by rw [spec_IsReduction.j0, if_pos (by simp)]
  | true =>
    subst hb1
    obtain ⟨mLI, mL⟩ := v3 rfl
    cases hb2 : β2 with
    | false =>
      subst hb2
      refine ⟨false, s0 false (fun h => ?_) (fun _ => rfl), implHead _ (by simpa using i0t)⟩
      by_cases mq : isMatB c4 d4 QI = true
      · rw [mq]
        refine Evt.step (g := fun K => (spec_l02Inverse.f K c0 d0 L c1 d1 LI (n : Int)).bind fun t203 => (if t203 = true then ((spec_l02Inverse.f K c3 d3 Q c4 d4 QI (m : Int)).bind fun t204 => (if t204 = true then ((spec_l02Diagonal.f K c2 d2 D).bind fun t205 => (spec_IsReduction.j1 K (!t205) (n : Int) (m : Int) A c0 d0 L c1 d1 LI c2 d2 D c3 d3 Q c4 d4 QI)) else (spec_IsReduction.j1 K true (n : Int) (m : Int) A c0 d0 L c1 d1 LI c2 d2 D c3 d3 Q c4 d4 QI))) else (spec_IsReduction.j1 K true (n : Int) (m : Int) A c0 d0 L c1 d1 LI c2 d2 D c3 d3 Q c4 d4 QI))) ?_ fun K => by rw [spec_IsReduction.j0, if_neg (by simp)]
        refine Evt.bind v2 ?_ fun _ => rfl
        simp only [if_true]
        exact Evt.bind u2 (by simpa using j1t) fun _ => rfl
      · have mq' : isMatB c4 d4 QI = false := by simpa using mq
        rw [mq']
        exact Evt.now fun K => by rw [spec_IsReduction.j0, if_pos (by simp)]
    | true =>
      subst hb2
      obtain ⟨mQI, mQ⟩ := u3 rfl
      obtain ⟨half, x1, x2, x3⟩ := both_ans c0 d0 L (n : Int) (m : Int) A hL hA wL wA
      have hhl : half.2.2.1.length ≤ 1048576 ∧ ∀ x ∈ half.2.2.1, (Lit.int .i64 x).wf = true := by
        rcases x3 with ⟨_, _, _, e⟩ | ⟨R, M, C, l, _, _, _, _, _, _, ml, rfl⟩
        · rw [e]; exact ⟨by simp, fun x hx => by cases hx⟩
        · have := mat_len ml
          exact ⟨by show l.length ≤ 1048576; omega, wf_small l (isMatB_small ml)⟩
      obtain ⟨out, y1, y2, y3⟩ := both_ans half.1 half.2.1 half.2.2.1 c3 d3 Q hhl.1 hQ hhl.2 wQ
      have hol : out.2.2.1.length ≤ 1048576 := by
        rcases y3 with ⟨_, _, _, e⟩ | ⟨R, M, C, l, _, _, _, _, _, _, ml, rfl⟩
        · rw [e]; simp
        · have := mat_len ml
          show l.length ≤ 1048576
          omega
      have hs := same_evt out.1 out.2.1 out.2.2.1 c2 d2 D hol hD
      obtain ⟨δ, w1, w2⟩ := diag_evt c2 d2 D m3
      obtain ⟨σ, hσ⟩ : ∃ σ, σ = decide (out.1 = c2 ∧ out.2.1 = d2 ∧ out.2.2.1 = D) := ⟨_, rfl⟩
      rw [← hσ] at hs
      refine ⟨δ && (decide (half.2.2.2 = 0) && (decide (out.2.2.2 = 0) && σ)), s0 _ (fun h => ?_) (fun h => absurd ⟨m0, mL, mLI, m3, mQ⟩ h), implHead _ ?_⟩
      · rw [mQI]
        refine Evt.step (g := fun K => (spec_l02Inverse.f K c0 d0 L c1 d1 LI (n : Int)).bind fun t203 => (if t203 = true then ((spec_l02Inverse.f K c3 d3 Q c4 d4 QI (m : Int)).bind fun t204 => (if t204 = true then ((spec_l02Diagonal.f K c2 d2 D).bind fun t205 => (spec_IsReduction.j1 K (!t205) (n : Int) (m : Int) A c0 d0 L c1 d1 LI c2 d2 D c3 d3 Q c4 d4 QI)) else (spec_IsReduction.j1 K true (n : Int) (m : Int) A c0 d0 L c1 d1 LI c2 d2 D c3 d3 Q c4 d4 QI))) else (spec_IsReduction.j1 K true (n : Int) (m : Int) A c0 d0 L c1 d1 LI c2 d2 D c3 d3 Q c4 d4 QI))) ?_ fun K => by rw [spec_IsReduction.j0, if_neg (by simp)]
        refine Evt.bind v2 ?_ fun _ => rfl
        simp only [if_true]
        refine Evt.bind u2 ?_ fun _ => rfl
        simp only [if_true]
        refine Evt.bind w1 ?_ fun _ => rfl
        cases δ with
        | false => simpa using j1t
        | true =>
          refine Evt.step (g := fun K => (spec_MultiplyMatrices.f K c0 d0 L (n : Int) (m : Int) A).bind fun bt206 => ((spec_MultiplyMatrices.f K bt206.1 bt206.2.1 bt206.2.2.1 c3 d3 Q).bind fun bt213 => (if bt206.2.2.2 = 0 then (if bt213.2.2.2 = 0 then ((spec_l02Same.f K bt213.1 bt213.2.1 bt213.2.2.1 c2 d2 D).bind fun t220 => (some t220)) else (some false)) else (some false)))) ?_ fun K => by rw [Bool.not_true, spec_IsReduction.j1, if_neg (by simp)]
          refine Evt.bind x2 (Evt.bind y2 ?_ fun _ => rfl) fun _ => rfl
          by_cases z1 : half.2.2.2 = 0
          · by_cases z2 : out.2.2.2 = 0
            · simp only [z1, z2, if_true, decide_true, Bool.true_and]
              exact Evt.bind hs.1 (Evt.const fun _ => rfl) fun _ => rfl
            · simp only [z1, z2, if_true, if_false]
              exact Evt.const fun _ => by simp
          · simp only [z1, if_false]
            exact Evt.const fun _ => by simp
      · refine Evt.step (g := fun K => (impl_MultiplyMatrices.f K c0 d0 L (n : Int) (m : Int) A).bind fun bt317 => (if bt317.2.2.2 = 0 then ((impl_MultiplyMatrices.f K bt317.1 bt317.2.1 bt317.2.2.1 c3 d3 Q).bind fun bt324 => (if bt324.2.2.2 = 0 then ((impl_isSame.f K bt324.1 bt324.2.1 bt324.2.2.1 c2 d2 D).bind fun t331 => (if t331 = true then ((impl_isDiagonal.f K bt324.1 bt324.2.1 bt324.2.2.1).bind fun t332 => (some t332)) else (some false))) else (some false))) else (some false))) ?_ fun K => by rw [impl_IsReduction.j0, if_neg (by simp)]
        refine Evt.bind x1 ?_ fun _ => rfl
        by_cases z1 : half.2.2.2 = 0
        · simp only [z1, if_true]
          refine Evt.bind y1 ?_ fun _ => rfl
          by_cases z2 : out.2.2.2 = 0
          · simp only [z2, if_true, decide_true, Bool.true_and]
            refine Evt.bind hs.2 ?_ fun _ => rfl
            cases hσ2 : σ with
            | false => exact Evt.const fun _ => by simp
            | true =>
              rw [hσ2] at hσ
              obtain ⟨q1, q2, q3⟩ := of_decide_eq_true hσ.symm
              simp only [if_true, q1, q2, q3, Bool.and_true]
              exact Evt.bind w2 (Evt.const fun _ => rfl) fun _ => rfl
          · simp only [z2, if_false]
            exact Evt.const fun _ => by simp
        · simp only [z1, if_false]
          exact Evt.const fun _ => by simp
theorem szRed_eq (c0 d0 : Int) (L : List Int) (c1 d1 : Int) (LI : List Int) (c2 d2 : Int) (D : List Int) (c3 d3 : Int) (Q : List Int) (c4 d4 : Int) (QI : List Int) (M : Int) (h0 : 0 ≤ M) (h1 : M ≤ 1048576) (lL : L.length ≤ maxLen) (lLI : LI.length ≤ maxLen) (lD : D.length ≤ maxLen) (lQ : Q.length ≤ maxLen) (lQI : QI.length ≤ maxLen) :
    ∃ z, laws_szReduction.f c0 d0 L c1 d1 LI c2 d2 D c3 d3 Q c4 d4 QI M = some z ∧ (¬ z < 0 → (L.length : Int) ≤ 1048576 ∧ (LI.length : Int) ≤ 1048576 ∧ (D.length : Int) ≤ 1048576 ∧ (Q.length : Int) ≤ 1048576 ∧ (QI.length : Int) ≤ 1048576) := by
  unfold laws_szReduction.f
  rw [szMatrix_eq c0 d0 L M (by omega) (by omega) lL, Option.bind_some]
  by_cases hL : M < L.length
  · exact ⟨-1, by rw [if_pos hL, if_pos (by omega)], fun h => absurd h (by omega)⟩
  rw [if_neg hL, if_neg (by omega)]
  rw [szMatrix_eq c1 d1 LI (M - (L.length : Int)) (by omega) (by omega) lLI, Option.bind_some]
  by_cases hLI : M - (L.length : Int) < LI.length
  · exact ⟨-1, by rw [if_pos hLI, if_pos (by omega)], fun h => absurd h (by omega)⟩
  rw [if_neg hLI, if_neg (by omega)]
  rw [szMatrix_eq c2 d2 D (M - (L.length : Int) - (LI.length : Int)) (by omega) (by omega) lD, Option.bind_some]
  by_cases hD : M - (L.length : Int) - (LI.length : Int) < D.length
  · exact ⟨-1, by rw [if_pos hD, if_pos (by omega)], fun h => absurd h (by omega)⟩
  rw [if_neg hD, if_neg (by omega)]
  rw [szMatrix_eq c3 d3 Q (M - (L.length : Int) - (LI.length : Int) - (D.length : Int)) (by omega) (by omega) lQ, Option.bind_some]
  by_cases hQ : M - (L.length : Int) - (LI.length : Int) - (D.length : Int) < Q.length
  · exact ⟨-1, by rw [if_pos hQ, if_pos (by omega)], fun h => absurd h (by omega)⟩
  rw [if_neg hQ, if_neg (by omega)]
  rw [szMatrix_eq c4 d4 QI (M - (L.length : Int) - (LI.length : Int) - (D.length : Int) - (Q.length : Int)) (by omega) (by omega) lQI, Option.bind_some]
  by_cases hQI : M - (L.length : Int) - (LI.length : Int) - (D.length : Int) - (Q.length : Int) < QI.length
  · exact ⟨-1, by rw [if_pos hQI, if_pos (by omega)], fun h => absurd h (by omega)⟩
  rw [if_neg hQI, if_neg (by omega)]
  exact ⟨_, rfl, fun _ => by omega⟩
theorem FnExactIsReduction : laws_FnExactIsReduction.Pure := by
  intro a b A c0 d0 L c1 d1 LI c2 d2 D c3 d3 Q c4 d4 QI _ _ lA wA _ _ lL wL _ _ lLI wLI _ _ lD wD _ _ lQ wQ _ _ lQI wQI
  have s1 := szMatrix_eq a b A 1048576 (by omega) (by omega) lA
  by_cases hA : (1048576 : Int) < A.length
  · refine ⟨0, ?_⟩
    unfold laws_FnExactIsReduction.f
    rw [s1, Option.bind_some, if_pos hA, if_pos (by omega)]
  obtain ⟨z, s2, hz⟩ := szRed_eq c0 d0 L c1 d1 LI c2 d2 D c3 d3 Q c4 d4 QI (1048576 - (A.length : Int)) (by omega) (by omega) lL lLI lD lQ lQI
  by_cases hz2 : z < 0
  · refine ⟨0, ?_⟩
    unfold laws_FnExactIsReduction.f
    rw [s1, Option.bind_some, if_neg hA, if_neg (by omega), s2, Option.bind_some, if_pos hz2]
  obtain ⟨hL, hLI, hD, hQ, hQI⟩ := hz hz2
  obtain ⟨β, ⟨k1, (h1 : ∀ K, k1 ≤ K → spec_IsReduction.f K a b A c0 d0 L c1 d1 LI c2 d2 D c3 d3 Q c4 d4 QI = some β)⟩, ⟨k2, (h2 : ∀ K, k2 ≤ K → impl_IsReduction.f K a b A c0 d0 L c1 d1 LI c2 d2 D c3 d3 Q c4 d4 QI = some β)⟩⟩ := red_both a b A c0 d0 L c1 d1 LI c2 d2 D c3 d3 Q c4 d4 QI (by omega) (by omega) (by omega) (by omega) (by omega) (by omega) wA wL wLI wQ wQI
  obtain ⟨K, hK⟩ : ∃ K : Nat, K = k1 + k2 + 1048577 := ⟨_, rfl⟩
  refine ⟨K, ?_⟩
  have tR : laws_toReduction.f K c0 d0 L c1 d1 LI c2 d2 D c3 d3 Q c4 d4 QI = some (c0, d0, L, c1, d1, LI, c2, d2, D, c3, d3, Q, c4, d4, QI) := by
    unfold laws_toReduction.f
    rw [toMatrix_eq c0 d0 L K (by omega) (by omega), Option.bind_some, toMatrix_eq c1 d1 LI K (by omega) (by omega), Option.bind_some, toMatrix_eq c2 d2 D K (by omega) (by omega), Option.bind_some, toMatrix_eq c3 d3 Q K (by omega) (by omega), Option.bind_some, toMatrix_eq c4 d4 QI K (by omega) (by omega), Option.bind_some]
  have eR : laws_eqReduction.f K c0 d0 L c1 d1 LI c2 d2 D c3 d3 Q c4 d4 QI c0 d0 L c1 d1 LI c2 d2 D c3 d3 Q c4 d4 QI = some true := by
    unfold laws_eqReduction.f
    rw [eqMatrix_self c0 d0 L K (by omega) (by omega), Option.bind_some, if_pos rfl, eqMatrix_self c1 d1 LI K (by omega) (by omega), Option.bind_some, if_pos rfl, eqMatrix_self c2 d2 D K (by omega) (by omega), Option.bind_some, if_pos rfl, eqMatrix_self c3 d3 Q K (by omega) (by omega), Option.bind_some, if_pos rfl, eqMatrix_self c4 d4 QI K (by omega) (by omega), Option.bind_some, if_pos rfl]
  unfold laws_FnExactIsReduction.f
  rw [s1, Option.bind_some, if_neg hA, if_neg (by omega), s2, Option.bind_some, if_neg hz2, toMatrix_eq a b A K (by omega) (by omega), Option.bind_some, tR, Option.bind_some, h1 K (by omega), Option.bind_some, Option.bind_some, Option.bind_some, h2 K (by omega), Option.bind_some, if_neg (by simp), Option.bind_some, eqMatrix_self a b A K (by omega) (by omega), Option.bind_some, if_pos rfl, Option.bind_some, eR, Option.bind_some, if_pos rfl]

end Go.Proofs.Ytifbfloifdkacaa.Pure
