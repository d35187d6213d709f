/- Program and reference compute the same determinant, and leave the argument. No condition: for every input that the statement lets in. -/
import Derived.Test.YtifbfloifdkacaaStmtFnExactDeterminant
namespace Go.Proofs.Ytifbfloifdkacaa.Pure
open Go.RowKit Go.Proofs.Ytifbfloifdkacaa.PFnExactDeterminant Go.Proofs.YtifbfloifdkacaaW.PrintWords Go.Proofs.YtifbfloifdkacaaW.PrintLast

set_option linter.unusedSimpArgs false
set_option linter.unusedVariables false
theorem w64 (x : Int) (h0 : -9223372036854775808 ≤ x) (h1 : x ≤ 9223372036854775807) : wrap64 x = x := by
  unfold wrap64
  omega
theorem w64n (n : Nat) (h : n ≤ 9223372036854775807) : wrap64 (n : Int) = (n : Int) := w64 _ (by omega) (by omega)
theorem rd_nat (l : List Int) (i : Nat) (h : i < l.length) : rd l (i : Int) = l[i] := by
  simp [rd, List.getD, List.getElem?_eq_getElem h]
theorem succ_k {k n : Nat} (h : n < k) : ∃ m, k = m + 1 := ⟨k - 1, by omega⟩
theorem cast_succ (i : Nat) : ((i : Int) + 1) = ((i + 1 : Nat) : Int) := by omega
theorem drop_rd (l : List Int) (k : Nat) (h : k < l.length) : l.drop k = rd l (k : Int) :: l.drop (k + 1) := by
  rw [List.drop_eq_getElem_cons h, rd_nat l k h]


theorem szInt64S_eq (l : List Int) (a : Int) (h0 : 0 ≤ a) (h1 : a ≤ 1048576) (hl : l.length ≤ maxLen) : laws_szInt64S.f l a = some (if a < l.length then -1 else a - l.length) := by
  unfold maxLen at hl
  unfold laws_szInt64S.f
  rw [w64 _ (by omega) (by omega)]
  by_cases h : a < l.length
  · rw [if_pos (by omega), if_pos h]
  · rw [if_neg (by omega), if_neg h]


theorem szMatrix_eq (a b : Int) (l : List Int) (m : Int) (h0 : 0 ≤ m) (h1 : m ≤ 1048576) (hl : l.length ≤ maxLen) : laws_szMatrix.f a b l m = some (if m < l.length then -1 else m - l.length) := by
  unfold laws_szMatrix.f
  rw [szInt64S_eq l m h0 h1 hl]
  simp only [Option.bind_some]
  by_cases h : m < l.length
  · rw [if_pos h, if_pos (by omega)]
  · rw [if_neg h, if_neg (by omega)]


theorem toInt64S_l0 (l : List Int) (hl : l.length ≤ 4611686018427387904) : ∀ (d i : Nat) (x3 : List Int) (k : Nat), x3.length = l.length → i + d = l.length → x3.take i = l.take i → d < k → laws_toInt64S.l0 k l x3 (i : Int) = some l := by
  intro d
  induction d with
  | zero =>
    intro i x3 k h3 hd ht hk
    obtain ⟨k, rfl⟩ := succ_k hk
    simp only [laws_toInt64S.l0]
    rw [if_neg (by omega)]
    have e : i = l.length := by omega
    subst e
    rw [List.take_length, List.take_of_length_le (by omega)] at ht
    rw [ht]
  | succ d ih =>
    intro i x3 k h3 hd ht hk
    obtain ⟨k, rfl⟩ := succ_k hk
    simp only [laws_toInt64S.l0]
    rw [if_pos (by omega), if_pos (by omega), if_pos (by omega), w64 _ (by omega) (by omega), cast_succ]
    refine ih (i + 1) _ k (by simp [h3]) (by omega) ?_ (by omega)
    rw [Int.toNat_natCast, rd_nat l i (by omega)]
    rw [List.take_succ_eq_append_getElem (by simp; omega), List.take_succ_eq_append_getElem (by omega), List.take_set_of_le (by omega), ht]
    simp
theorem toInt64S_eq (l : List Int) (k : Nat) (hl : l.length ≤ 1048576) (hk : l.length < k) : laws_toInt64S.f k l = some l := by
  unfold laws_toInt64S.f
  rw [if_pos (by omega), if_pos (by omega)]
  exact toInt64S_l0 l (by omega) l.length 0 _ k (by simp) (by omega) (by simp) hk


theorem toMatrix_eq (a b : Int) (l : List Int) (k : Nat) (hl : l.length ≤ 1048576) (hk : l.length < k) : laws_toMatrix.f k a b l = some (a, b, l) := by
  unfold laws_toMatrix.f
  rw [toInt64S_eq l k hl hk]
  rfl


theorem eqInt64S_l0 (l r : List Int) (hr : r.length = l.length) (hl : l.length ≤ 4611686018427387904) : ∀ (d i k : Nat), i + d = l.length → d < k → laws_eqInt64S.l0 k l r (i : Int) = some (decide (l.drop i = r.drop i)) := by
  intro d
  induction d with
  | zero =>
    intro i k hd hk
    obtain ⟨k, rfl⟩ := succ_k hk
    simp only [laws_eqInt64S.l0]
    rw [if_neg (by omega), List.drop_of_length_le (by omega), List.drop_of_length_le (by omega)]
    simp
  | succ d ih =>
    intro i k hd hk
    obtain ⟨k, rfl⟩ := succ_k hk
    simp only [laws_eqInt64S.l0]
    rw [if_pos (by omega), if_pos (by omega), if_pos (by omega), w64 _ (by omega) (by omega), cast_succ, ih (i + 1) k (by omega) (by omega), drop_rd l i (by omega), drop_rd r i (by omega)]
    by_cases h : rd l (i : Int) = rd r (i : Int)
    · simp [h]
    · simp [h]
theorem eqInt64S_eq (l r : List Int) (k : Nat) (hl : l.length ≤ 4611686018427387904) (hk : l.length < k) : laws_eqInt64S.f k l r = some (decide (l = r)) := by
  unfold laws_eqInt64S.f
  by_cases h : l.length = r.length
  · rw [if_pos (by omega)]
    have := eqInt64S_l0 l r h.symm hl l.length 0 k (by omega) hk
    simpa using this
  · rw [if_neg (by omega)]
    have : ¬ l = r := fun e => h (by rw [e])
    simp [this]
theorem eqInt64S_self (l : List Int) (k : Nat) (hl : l.length ≤ 4611686018427387904) (hk : l.length < k) : laws_eqInt64S.f k l l = some true := by
  rw [eqInt64S_eq l l k hl hk]
  simp


theorem eqMatrix_self (a b : Int) (l : List Int) (k : Nat) (hl : l.length ≤ 4611686018427387904) (hk : l.length < k) : laws_eqMatrix.f k a b l a b l = some true := by
  unfold laws_eqMatrix.f
  rw [if_pos rfl, if_pos rfl, eqInt64S_self l k hl hk]
  rfl


theorem specIsMatrix_l0 (a b : Int) (l : List Int) (hl : l.length ≤ 1048576) : ∀ (d i k : Nat), i + d = l.length → d < k →
    spec_IsMatrix.l0 k (i : Int) a b l = some (!((l.drop i).any matBad)) := by
  intro d
  induction d with
  | zero =>
    intro i k hd hk
    obtain ⟨k, rfl⟩ := succ_k hk
    simp only [spec_IsMatrix.l0]
    rw [if_neg (by omega), List.drop_of_length_le (by omega)]
    rfl
  | succ d ih =>
    intro i k hd hk
    obtain ⟨k, rfl⟩ := succ_k hk
    simp only [spec_IsMatrix.l0]
    rw [if_pos (by omega), if_pos (by omega), w64 _ (by omega) (by omega), cast_succ, ih (i + 1) k (by omega) (by omega), drop_rd l i (by omega)]
    unfold spec_l01In.f
    rw [List.any_cons]
    unfold matBad
    generalize rd l (i : Int) = y
    by_cases h1 : -1000000000000 ≤ y <;> by_cases h2 : y ≤ 1000000000000 <;> simp [h1, h2]
theorem prod48 (a b : Int) (h1 : 0 ≤ a) (h2 : a ≤ 48) (h3 : 0 ≤ b) (h4 : b ≤ 48) : 0 ≤ a * b ∧ a * b ≤ 2304 :=
  ⟨Int.mul_nonneg h1 h3, Int.le_trans (Int.mul_le_mul h2 h4 h3 (by omega)) (by omega)⟩
theorem specIsMatrix_eq (a b : Int) (l : List Int) (k : Nat) (hl : l.length ≤ 1048576) (hk : l.length + 1 < k) : spec_IsMatrix.f k a b l = some (isMatB a b l) := by
  obtain ⟨k, rfl⟩ := succ_k hk
  have hs := specIsMatrix_l0 a b l hl l.length 0 k (by omega) (by omega)
  unfold spec_IsMatrix.f spec_l01In.f isMatB
  simp only [spec_IsMatrix.j0]
  by_cases h1 : 0 ≤ a <;> by_cases h2 : a ≤ 48 <;> by_cases h3 : 0 ≤ b <;> by_cases h4 : b ≤ 48
  case pos =>
    have hp := prod48 a b h1 h2 h3 h4
    rw [w64 (a * b) (by omega) (by omega)]
    rw [Int.natCast_zero] at hs
    by_cases h5 : (l.length : Int) = a * b
    · have h5' : ((l.length : Int) != a * b) = false := by simp [h5]
      simp [h1, h2, h3, h4, h5, h5', hs]
    · have h5' : ((l.length : Int) != a * b) = true := by simp [h5]
      simp [h1, h2, h3, h4, h5, h5']
  all_goals simp [h1, h2, h3, h4]


theorem isMatB_len {a b : Int} {l : List Int} (h : isMatB a b l = true) : (0 ≤ a ∧ a ≤ 48) ∧ (0 ≤ b ∧ b ≤ 48) ∧ (l.length : Int) = a * b := by
  unfold isMatB at h
  simp only [Bool.and_eq_true, decide_eq_true_eq] at h
  exact ⟨h.1, h.2.1, h.2.2.1⟩


/-- Expansion along one row: the alternating sum over the columns. -/
def ex (r : Nat → Int) (G : List Nat → Int) : List Nat → Int
  | [] => 0
  | c :: cs => r c * G cs - ex r (fun ds => G (c :: ds)) cs
/-- The determinant of rows at columns. -/
def det : List (Nat → Int) → List Nat → Int
  | [], _ => 1
  | r :: rs, cols => ex r (det rs) cols
theorem ex_add_row (r s : Nat → Int) : ∀ (cols : List Nat) (G : List Nat → Int), ex (fun c => r c + s c) G cols = ex r G cols + ex s G cols
  | [], _ => rfl
  | c :: cs, G => by
    simp only [ex]
    rw [ex_add_row r s cs, Int.add_mul]
    omega
theorem ex_smul_row (a : Int) (r : Nat → Int) : ∀ (cols : List Nat) (G : List Nat → Int), ex (fun c => a * r c) G cols = a * ex r G cols
  | [], _ => by simp [ex]
  | c :: cs, G => by
    simp only [ex]
    rw [ex_smul_row a r cs, Int.mul_sub, Int.mul_assoc]
theorem ex_add (r : Nat → Int) : ∀ (cols : List Nat) (G H : List Nat → Int), ex r (fun ds => G ds + H ds) cols = ex r G cols + ex r H cols
  | [], _, _ => rfl
  | c :: cs, G, H => by
    simp only [ex]
    rw [ex_add r cs, Int.mul_add]
    omega
theorem ex_smul (a : Int) (r : Nat → Int) : ∀ (cols : List Nat) (G : List Nat → Int), ex r (fun ds => a * G ds) cols = a * ex r G cols
  | [], _ => by simp [ex]
  | c :: cs, G => by
    simp only [ex]
    rw [ex_smul a r cs, Int.mul_sub, Int.mul_left_comm]
theorem ex_zero (r : Nat → Int) : ∀ (cols : List Nat), ex r (fun _ => 0) cols = 0
  | [] => rfl
  | c :: cs => by
    simp only [ex]
    rw [ex_zero r cs]
    simp
theorem ex_ex (r : Nat → Int) : ∀ (cols : List Nat) (G : List Nat → Int), ex r (ex r G) cols = 0
  | [], _ => rfl
  | c :: cs, G => by
    have h : (fun ds => ex r G (c :: ds)) = fun ds => r c * G ds + (-1) * ex r (fun es => G (c :: es)) ds := by
      funext ds
      simp only [ex]
      omega
    show r c * ex r G cs - ex r (fun ds => ex r G (c :: ds)) cs = 0
    rw [h, ex_add, ex_smul, ex_smul, ex_ex r cs]
    simp
theorem ex_swap (r s : Nat → Int) (cols : List Nat) (G : List Nat → Int) : ex r (ex s G) cols = - ex s (ex r G) cols := by
  have h := ex_ex (fun c => r c + s c) cols G
  have e : ex (fun c => r c + s c) G = fun ds => ex r G ds + ex s G ds := funext fun ds => ex_add_row r s ds G
  rw [ex_add_row, e, ex_add, ex_add, ex_ex, ex_ex] at h
  omega
/-- The determinant is linear in each row. -/
theorem det_lin (a b : Int) (r s : Nat → Int) (R : List (Nat → Int)) : ∀ (L : List (Nat → Int)) (C : List Nat), det (L ++ (fun c => a * r c + b * s c) :: R) C = a * det (L ++ r :: R) C + b * det (L ++ s :: R) C
  | [], C => by
    show ex _ (det R) C = _
    rw [ex_add_row, ex_smul_row, ex_smul_row]
    rfl
  | l :: L, C => by
    show ex l (det (L ++ _ :: R)) C = a * ex l (det (L ++ r :: R)) C + b * ex l (det (L ++ s :: R)) C
    rw [show det (L ++ (fun c => a * r c + b * s c) :: R) = fun ds => a * det (L ++ r :: R) ds + b * det (L ++ s :: R) ds from funext fun ds => det_lin a b r s R L ds, ex_add, ex_smul, ex_smul]
theorem det_same0 (r : Nat → Int) (R : List (Nat → Int)) : ∀ (M : List (Nat → Int)) (C : List Nat), det (r :: (M ++ r :: R)) C = 0
  | [], C => ex_ex r C (det R)
  | m :: M, C => by
    show ex r (ex m (det (M ++ r :: R))) C = 0
    rw [ex_swap, show ex r (det (M ++ r :: R)) = fun _ => 0 from funext fun ds => det_same0 r R M ds, ex_zero]
    rfl
/-- Two equal rows. -/
theorem det_same (r : Nat → Int) (M R : List (Nat → Int)) : ∀ (L : List (Nat → Int)) (C : List Nat), det (L ++ r :: (M ++ r :: R)) C = 0
  | [], C => det_same0 r R M C
  | l :: L, C => by
    show ex l (det (L ++ r :: (M ++ r :: R))) C = 0
    rw [show det (L ++ r :: (M ++ r :: R)) = fun _ => 0 from funext fun ds => det_same r M R L ds, ex_zero]
theorem det_add (r s : Nat → Int) (R L : List (Nat → Int)) (C : List Nat) : det (L ++ (fun c => r c + s c) :: R) C = det (L ++ r :: R) C + det (L ++ s :: R) C := by
  have h := det_lin 1 1 r s R L C
  simpa using h
/-- Two rows exchanged. -/
theorem det_swap (r s : Nat → Int) (L M R : List (Nat → Int)) (C : List Nat) : det (L ++ r :: (M ++ s :: R)) C = - det (L ++ s :: (M ++ r :: R)) C := by
  have h := det_same (fun c => r c + s c) M R L C
  rw [det_add r s (M ++ (fun c => r c + s c) :: R) L C] at h
  have e1 := det_add r s R (L ++ r :: M) C
  have e2 := det_add r s R (L ++ s :: M) C
  simp only [List.append_assoc, List.cons_append] at e1 e2
  rw [e1, e2, det_same, det_same] at h
  omega
/-- Where the row is 0, the column counts for nothing. -/
theorem ex_off (r : Nat → Int) : ∀ (cols : List Nat) (G : List Nat → Int), (∀ c ∈ cols, r c = 0) → ex r G cols = 0
  | [], _, _ => rfl
  | c :: cs, G, h => by
    simp only [ex]
    rw [ex_off r cs _ (fun x hx => h x (List.mem_cons_of_mem _ hx)), h c (List.mem_cons_self ..)]
    simp
theorem ex_cons_off (r : Nat → Int) (c : Nat) (cs : List Nat) (G : List Nat → Int) (h : ∀ x ∈ cs, r x = 0) : ex r G (c :: cs) = r c * G cs := by
  simp only [ex]
  rw [ex_off r cs _ h]
  simp
/-- If at each column the row or what is left is 0, the expansion is 0. -/
theorem ex_none (r : Nat → Int) : ∀ (cols : List Nat) (G : List Nat → Int), (∀ a c b, cols = a ++ c :: b → r c = 0 ∨ G (a ++ b) = 0) → ex r G cols = 0
  | [], _, _ => rfl
  | c :: cs, G, h => by
    simp only [ex]
    rw [ex_none r cs (fun ds => G (c :: ds)) (fun a x b e => h (c :: a) x b (by rw [e]; rfl))]
    rcases h [] c cs rfl with h | h
    · rw [h]; simp
    · rw [show G cs = 0 from h]; simp
/-- More rows than columns that count. -/
theorem det_wide (p : Nat → Bool) (R : List (Nat → Int)) : ∀ (L : List (Nat → Int)) (C : List Nat), (∀ r ∈ L, ∀ c ∈ C, p c = false → r c = 0) → (C.filter p).length < L.length → det (L ++ R) C = 0
  | [], C, _, h => absurd h (by simp)
  | l :: L, C, h0, h => by
    show ex l (det (L ++ R)) C = 0
    refine ex_none l C _ fun a c b e => ?_
    cases hp : p c with
    | false => exact .inl (h0 l (List.mem_cons_self ..) c (by rw [e]; simp) hp)
    | true =>
      refine .inr (det_wide p R L (a ++ b) (fun r hr x hx => h0 r (List.mem_cons_of_mem _ hr) x (by rw [e]; simp at hx ⊢; rcases hx with hx | hx <;> simp [hx])) ?_)
      rw [e] at h
      simp [List.filter_append, hp] at h ⊢
      omega
/-- The sum of absolute values. -/
def nabs (r : Nat → Int) (C : List Nat) : Nat := (C.map fun c => (r c).natAbs).sum
theorem nabs_sub (r : Nat → Int) {a C : List Nat} (h : a.Sublist C) : nabs r a ≤ nabs r C := by
  induction h with
  | slnil => exact Nat.le_refl _
  | cons x _ ih => simp only [nabs, List.map_cons, List.sum_cons] at ih ⊢; omega
  | cons_cons x _ ih => simp only [nabs, List.map_cons, List.sum_cons] at ih ⊢; omega
theorem ex_bound (r : Nat → Int) (B : Nat) : ∀ (cols : List Nat) (G : List Nat → Int), (∀ a c b, cols = a ++ c :: b → (G (a ++ b)).natAbs ≤ B) → (ex r G cols).natAbs ≤ nabs r cols * B
  | [], _, _ => by simp [ex]
  | c :: cs, G, h => by
    have h1 := ex_bound r B cs (fun ds => G (c :: ds)) (fun a x b e => h (c :: a) x b (by rw [e]; rfl))
    have h2 : (r c * G cs).natAbs ≤ (r c).natAbs * B := by rw [Int.natAbs_mul]; exact Nat.mul_le_mul_left _ (h [] c cs rfl)
    have h3 : nabs r (c :: cs) * B = (r c).natAbs * B + nabs r cs * B := by rw [← Nat.add_mul]; rfl
    simp only [ex]
    rw [h3]
    omega
/-- The product over the rows of the sums of absolute values, each at least 1. -/
def vol : List (Nat → Int) → List Nat → Nat
  | [], _ => 1
  | r :: R, C => max (nabs r C) 1 * vol R C
theorem vol_sub : ∀ (R : List (Nat → Int)) {a C : List Nat}, a.Sublist C → vol R a ≤ vol R C
  | [], _, _, _ => Nat.le_refl _
  | r :: R, _, _, h => Nat.mul_le_mul (by have := nabs_sub r h; omega) (vol_sub R h)
theorem vol_pos : ∀ (R : List (Nat → Int)) (C : List Nat), 1 ≤ vol R C
  | [], _ => Nat.le_refl _
  | r :: R, C => Nat.mul_le_mul (Nat.le_max_right (nabs r C) 1) (vol_pos R C)
theorem det_bound : ∀ (R : List (Nat → Int)) (C : List Nat), (det R C).natAbs ≤ vol R C
  | [], _ => by simp [det, vol]
  | r :: R, C => by
    have h := ex_bound r (vol R C) C (det R) (fun a c b e => Nat.le_trans (det_bound R (a ++ b)) (vol_sub R (by rw [e]; exact (List.Sublist.refl a).append (List.sublist_cons_self c b))))
    exact Nat.le_trans h (Nat.mul_le_mul_right _ (Nat.le_max_left ..))
/-- The rows of a volume: leaving some out makes it no greater, and their order is of no matter. -/
theorem vol_perm {R S : List (Nat → Int)} (h : R.Perm S) (C : List Nat) : vol R C = vol S C := by
  induction h with
  | nil => rfl
  | cons x _ ih => simp only [vol]; rw [ih]
  | swap x y l => simp only [vol]; rw [Nat.mul_left_comm]
  | trans _ _ i1 i2 => exact i1.trans i2
theorem vol_sublist {R S : List (Nat → Int)} (h : R.Sublist S) (C : List Nat) : vol R C ≤ vol S C := by
  induction h with
  | slnil => exact Nat.le_refl _
  | cons x _ ih => simp only [vol]; exact Nat.le_trans ih (Nat.le_mul_of_pos_left _ (by omega))
  | cons_cons x _ ih => simp only [vol]; exact Nat.mul_le_mul_left _ ih

def RC : Nat → List Nat
  | 0 => []
  | k + 1 => k :: RC k
theorem RC_mem {k x : Nat} : x ∈ RC k ↔ x < k := by
  induction k with
  | zero => simp [RC]
  | succ k ih => simp only [RC, List.mem_cons, ih]; omega
theorem RC_length (k : Nat) : (RC k).length = k := by
  induction k with
  | zero => rfl
  | succ k ih => simp [RC, ih]
theorem RC_nodup (k : Nat) : (RC k).Nodup := by
  induction k with
  | zero => exact List.nodup_nil
  | succ k ih => exact List.nodup_cons.mpr ⟨by rw [RC_mem]; omega, ih⟩
theorem RC_le {k n : Nat} (h : k ≤ n) : (RC k).Sublist (RC n) := by
  induction h with
  | refl => exact List.Sublist.refl _
  | step _ ih => exact ih.cons _
theorem RC_cons {k n x : Nat} (h1 : k ≤ x) (h2 : x < n) : (x :: RC k).Sublist (RC n) :=
  ((RC_le h1).cons_cons x).trans (RC_le (by omega) : (RC (x + 1)).Sublist (RC n))
def RR (A : Nat → Nat → Int) (k : Nat) : List (Nat → Int) := (RC k).map A
def cutv (k : Nat) (f : Nat → Int) : Nat → Int := fun c => if c < k then 0 else f c
/-- The elimination without fractions before its round k: A has the rows as they stand, W the entries reached, p the last pivot. -/
structure Bar (n k : Nat) (A W : Nat → Nat → Int) (p : Int) : Prop where
  hp : p = det (RR A k) (RC k)
  h0 : p ≠ 0
  H : ∀ a, k ≤ a → a < n → ∀ L M C, det (L ++ cutv k (W a) :: (M ++ RR A k)) C = p * det (L ++ A a :: (M ++ RR A k)) C
def Dm (A : Nat → Nat → Int) (k a x : Nat) : Int := det (A a :: RR A k) (x :: RC k)
theorem Bar.start (n : Nat) (A : Nat → Nat → Int) : Bar n 0 A A 1 :=
  ⟨rfl, by decide, fun a _ _ L M C => by rw [show cutv 0 (A a) = A a from funext fun c => by simp [cutv]]; simp⟩
theorem det_cut (k : Nat) (f : Nat → Int) (R : List (Nat → Int)) (x : Nat) (h : k ≤ x) : det (cutv k f :: R) (x :: RC k) = f x * det R (RC k) := by
  show ex (cutv k f) (det R) (x :: RC k) = _
  rw [ex_cons_off _ _ _ _ (fun c hc => by rw [RC_mem] at hc; simp [cutv, hc])]
  rw [show cutv k f x = f x from if_neg (by omega)]
theorem Bar.entry {n k : Nat} {A W : Nat → Nat → Int} {p : Int} (B : Bar n k A W p) {a x : Nat} (h1 : k ≤ a) (h2 : a < n) (h3 : k ≤ x) : W a x = Dm A k a x := by
  have h := B.H a h1 h2 [] [] (x :: RC k)
  simp only [List.nil_append] at h
  rw [det_cut k (W a) _ x h3, ← B.hp, Int.mul_comm] at h
  exact Int.eq_of_mul_eq_mul_left B.h0 h
theorem Bar.pivot {n k : Nat} {A W : Nat → Nat → Int} {p : Int} (B : Bar n k A W p) (hk : k < n) : W k k = det (RR A (k + 1)) (RC (k + 1)) := B.entry (Nat.le_refl k) hk (Nat.le_refl k)
theorem Bar.bound {n k : Nat} {A W : Nat → Nat → Int} {p : Int} (B : Bar n k A W p) {a x : Nat} (h1 : k ≤ a) (h2 : a < n) (h3 : k ≤ x) (h4 : x < n) : (W a x).natAbs ≤ vol (RR A n) (RC n) := by
  rw [B.entry h1 h2 h3]
  refine Nat.le_trans (det_bound _ _) (Nat.le_trans (vol_sub _ (RC_cons h3 h4)) (vol_sublist ?_ _))
  exact (RC_cons h1 h2).map A
/-- One round: the division leaves no rest, and what it gives is a minor. -/
theorem Bar.exact {n k : Nat} {A W : Nat → Nat → Int} {p : Int} (B : Bar n k A W p) (hk : k < n) (hz : W k k ≠ 0) {a x : Nat} (h1 : k < a) (h2 : a < n) (h3 : k < x) :
    W a x * W k k - W a k * W k x = p * Dm A (k + 1) a x := by
  obtain ⟨w, hw⟩ : ∃ w : Nat → Int, w = fun c => W k k * cutv k (W a) c + (- W a k) * cutv k (W k) c := ⟨_, rfl⟩
  have hw0 : ∀ c ∈ RC (k + 1), w c = 0 := by
    intro c hc
    rw [RC_mem] at hc
    rw [hw]
    show W k k * cutv k (W a) c + (- W a k) * cutv k (W k) c = 0
    by_cases e : c < k
    · simp [cutv, e]
    · obtain rfl : c = k := by omega
      simp only [cutv, Nat.lt_irrefl, if_false]
      rw [Int.neg_mul, Int.mul_comm (W a c)]
      omega
  have h := det_lin (W k k) (- W a k) (cutv k (W a)) (cutv k (W k)) (RR A (k + 1)) [] (x :: RC (k + 1))
  rw [← hw] at h
  simp only [List.nil_append] at h
  have e1 := B.H a (by omega) h2 [] [A k] (x :: RC (k + 1))
  have e2 := B.H k (Nat.le_refl k) hk [] [A k] (x :: RC (k + 1))
  simp only [List.nil_append] at e1 e2
  rw [show A k :: ([A k] ++ RR A k) = A k :: ([] ++ A k :: RR A k) from rfl, det_same0] at e2
  change det (cutv k (W a) :: RR A (k + 1)) (x :: RC (k + 1)) = p * Dm A (k + 1) a x at e1
  change det (cutv k (W k) :: RR A (k + 1)) (x :: RC (k + 1)) = p * 0 at e2
  rw [e1, e2] at h
  change ex w (det (RR A (k + 1))) (x :: RC (k + 1)) = _ at h
  rw [ex_cons_off w x _ _ hw0, ← B.pivot hk, Int.mul_comm] at h
  have h5 : W k k * w x = W k k * (p * Dm A (k + 1) a x) := by rw [h]; simp
  have h6 := Int.eq_of_mul_eq_mul_left hz h5
  rw [← h6, hw]
  simp only [cutv]
  rw [if_neg (by omega), if_neg (by omega), Int.neg_mul, Int.mul_comm (W k k)]
  omega
theorem Bar.step {n k : Nat} {A W : Nat → Nat → Int} {p : Int} (B : Bar n k A W p) (hk : k < n) (hz : W k k ≠ 0) (W' : Nat → Nat → Int) (hW : ∀ a, k < a → a < n → ∀ x, k < x → W' a x = Dm A (k + 1) a x) : Bar n (k + 1) A W' (W k k) := by
  refine ⟨B.pivot hk, hz, fun a h1 h2 L M C => ?_⟩
  have hw : (fun c => W k k * cutv k (W a) c + (- W a k) * cutv k (W k) c) = fun c => p * cutv (k + 1) (W' a) c + 0 * A k c := by
    funext c
    by_cases e : c < k
    · simp [cutv, e, show c < k + 1 by omega]
    · by_cases e2 : c = k
      · subst e2
        simp only [cutv, Nat.lt_irrefl, if_false, Nat.lt_succ_self, if_true]
        rw [Int.neg_mul, Int.mul_comm (W a c)]
        simp
        omega
      · have h := B.exact hk hz (a := a) (x := c) h1 h2 (by omega)
        simp only [cutv]
        rw [if_neg e, if_neg e, if_neg (by omega), hW a h1 h2 c (by omega), ← h, Int.neg_mul, Int.mul_comm (W k k)]
        omega
  have h := det_lin (W k k) (- W a k) (cutv k (W a)) (cutv k (W k)) (M ++ RR A (k + 1)) L C
  rw [hw, det_lin] at h
  have e1 := B.H a (by omega) h2 L (M ++ [A k]) C
  have e2 := B.H k (Nat.le_refl k) hk L (M ++ [A k]) C
  simp only [List.append_assoc] at e1 e2
  change det (L ++ cutv k (W a) :: (M ++ RR A (k + 1))) C = p * det (L ++ A a :: (M ++ RR A (k + 1))) C at e1
  change det (L ++ cutv k (W k) :: (M ++ RR A (k + 1))) C = p * det (L ++ A k :: (M ++ A k :: RR A k)) C at e2
  rw [det_same] at e2
  rw [e1, e2] at h
  refine Int.eq_of_mul_eq_mul_left B.h0 ?_
  rw [Int.mul_left_comm]
  simpa using h
/-- No pivot. -/
theorem Bar.none {n k : Nat} {A W : Nat → Nat → Int} {p : Int} (B : Bar n k A W p) (hk : k < n) (hz : ∀ a, k ≤ a → a < n → W a k = 0) : det (RR A n) (RC n) = 0 := by
  -- the rows from m down to k (without m), replaced
  have key : ∀ (d : Nat) (m : Nat), m = k + d → m ≤ n → ∀ (L : List (Nat → Int)) (C : List Nat), ∃ s : Int, s ≠ 0 ∧ s * det (L ++ RR A m) C = det (L ++ ((RC m).filter (fun a => decide (k ≤ a))).map (fun a => cutv k (W a)) ++ RR A k) C := by
    intro d
    induction d with
    | zero =>
      intro m hm _ L C
      obtain rfl : m = k := hm
      refine ⟨1, by decide, ?_⟩
      rw [List.filter_eq_nil_iff.mpr (fun a ha => by rw [RC_mem] at ha; simp; omega)]
      simp
    | succ d ih =>
      intro m hm hn L C
      obtain ⟨m, rfl⟩ : ∃ q, m = q + 1 := ⟨k + d, by omega⟩
      obtain ⟨s, hs, h⟩ := ih m (by omega) (by omega) (L ++ [cutv k (W m)]) C
      have hA : RR A (m + 1) = A m :: RR A m := rfl
      have hsplit : ∃ M, RR A m = M ++ RR A k := by
        have : ∀ q, k ≤ q → ∃ M, RR A q = M ++ RR A k := by
          intro q hq
          induction hq with
          | refl => exact ⟨[], rfl⟩
          | step _ ih => obtain ⟨M, e⟩ := ih; exact ⟨_ :: M, by rw [show RR A (_ + 1) = _ :: RR A _ from rfl, e]; rfl⟩
        exact this m (by omega)
      obtain ⟨M, hM⟩ := hsplit
      have hH := B.H m (by omega) (by omega) L M C
      rw [← hM] at hH
      refine ⟨s * p, Int.mul_ne_zero hs B.h0, ?_⟩
      rw [hA, Int.mul_assoc, ← hH]
      rw [show L ++ [cutv k (W m)] ++ RR A m = L ++ cutv k (W m) :: RR A m by simp] at h
      rw [h]
      rw [show RC (m + 1) = m :: RC m from rfl, List.filter_cons_of_pos (by simp; omega)]
      simp
  obtain ⟨s, hs, h⟩ := key (n - k) n (by omega) (Nat.le_refl n) [] (RC n)
  simp only [List.nil_append] at h
  rw [det_wide (fun c => decide (k < c)) (RR A k)] at h
  · rcases Int.mul_eq_zero.mp h with h | h
    · exact absurd h hs
    · exact h
  · intro r hr c _ hc
    simp only [List.mem_map, List.mem_filter, RC_mem, decide_eq_true_eq] at hr
    obtain ⟨a, ⟨h1, h2⟩, rfl⟩ := hr
    simp only [decide_eq_false_iff_not] at hc
    by_cases e : c < k
    · simp [cutv, e]
    · obtain rfl : c = k := by omega
      simp only [cutv, Nat.lt_irrefl, if_false]
      exact hz a h2 h1
  · rw [List.length_map]
    have cnt : ∀ m, ((RC m).filter (fun c => decide (k < c))).length = m - (k + 1) ∧ ((RC m).filter (fun a => decide (k ≤ a))).length = m - k := by
      intro m
      induction m with
      | zero => exact ⟨by simp [RC], by simp [RC]⟩
      | succ m ih =>
        rw [show RC (m + 1) = m :: RC m from rfl, List.filter_cons, List.filter_cons]
        refine ⟨?_, ?_⟩
        · by_cases e : k < m
          · rw [if_pos (by simpa using e), List.length_cons, ih.1]; omega
          · rw [if_neg (by simpa using e), ih.1]; omega
        · by_cases e : k ≤ m
          · rw [if_pos (by simpa using e), List.length_cons, ih.2]; omega
          · rw [if_neg (by simpa using e), ih.2]; omega
    rw [(cnt n).1, (cnt n).2]
    omega
/-- Two rows exchanged. -/
def sw (i j : Nat) (A : Nat → Nat → Int) : Nat → Nat → Int := fun a => if a = i then A j else if a = j then A i else A a
theorem RR_sw (i j : Nat) (A : Nat → Nat → Int) (k : Nat) (h1 : k ≤ i) (h2 : k ≤ j) : RR (sw i j A) k = RR A k := by
  unfold RR
  refine List.map_congr_left fun a ha => ?_
  rw [RC_mem] at ha
  simp [sw, show a ≠ i by omega, show a ≠ j by omega]
theorem Bar.swap {n k q : Nat} {A W : Nat → Nat → Int} {p : Int} (B : Bar n k A W p) (hk : k < n) (h1 : k ≤ q) (h2 : q < n) : Bar n k (sw k q A) (sw k q W) p := by
  refine ⟨by rw [RR_sw k q A k (Nat.le_refl k) h1]; exact B.hp, B.h0, fun a ha hn L M C => ?_⟩
  rw [RR_sw k q A k (Nat.le_refl k) h1]
  simp only [sw]
  by_cases e : a = k
  · rw [if_pos e, if_pos e]; exact B.H q h1 h2 L M C
  · rw [if_neg e, if_neg e]
    by_cases e2 : a = q
    · rw [if_pos e2, if_pos e2]; exact B.H k (Nat.le_refl k) hk L M C
    · rw [if_neg e2, if_neg e2]; exact B.H a ha hn L M C
theorem RR_two (A : Nat → Nat → Int) (k q n : Nat) (h1 : k < q) (h2 : q < n) : ∃ L M R : List Nat, RC n = L ++ q :: (M ++ k :: R) ∧ ∀ x, x ∈ L ∨ x ∈ M ∨ x ∈ R → x ≠ k ∧ x ≠ q := by
  have s1 : k ∈ RC q := by rw [RC_mem]; exact h1
  have s2 : ∀ m, q < m → ∃ L, RC m = L ++ q :: RC q ∧ ∀ x ∈ L, q < x := by
    intro m hm
    induction hm with
    | refl => exact ⟨[], rfl, fun x hx => by cases hx⟩
    | step hm ih =>
      obtain ⟨L, e, hL⟩ := ih
      refine ⟨_ :: L, by rw [show RC (_ + 1) = _ :: RC _ from rfl, e]; rfl, fun x hx => ?_⟩
      rcases List.mem_cons.mp hx with e | hx
      · rw [e]; exact hm
      · exact hL x hx
  obtain ⟨L, e, hL⟩ := s2 n h2
  obtain ⟨M, R, e2⟩ := List.append_of_mem s1
  have hn := RC_nodup q
  rw [e2] at hn
  have hlt : ∀ x, x ∈ M ++ k :: R → x < q := fun x hx => by rw [← e2, RC_mem] at hx; exact hx
  refine ⟨L, M, R, by rw [e, e2], fun x hx => ?_⟩
  rw [List.nodup_append] at hn
  obtain ⟨_, n2, n3⟩ := hn
  rcases hx with hx | hx | hx
  · have := hL x hx; omega
  · have := hlt x (by simp [hx]); have := n3 x hx k (by simp); omega
  · have h3 := hlt x (by simp [hx])
    rw [List.nodup_cons] at n2
    exact ⟨fun e => n2.1 (e ▸ hx), by omega⟩
theorem sw_det (A : Nat → Nat → Int) (k q n : Nat) (h1 : k < q) (h2 : q < n) (C : List Nat) : det (RR (sw k q A) n) C = - det (RR A n) C ∧ vol (RR (sw k q A) n) C = vol (RR A n) C := by
  obtain ⟨L, M, R, e, h⟩ := RR_two A k q n h1 h2
  unfold RR
  rw [e]
  have hc : ∀ S : List Nat, (∀ x ∈ S, x ≠ k ∧ x ≠ q) → S.map (sw k q A) = S.map A := fun S hS => List.map_congr_left fun a ha => by simp [sw, hS a ha]
  simp only [List.map_append, List.map_cons]
  rw [hc L (fun x hx => h x (.inl hx)), hc M (fun x hx => h x (.inr (.inl hx))), hc R (fun x hx => h x (.inr (.inr hx)))]
  rw [show sw k q A k = A q by simp [sw], show sw k q A q = A k by simp [sw, show q ≠ k by omega]]
  refine ⟨det_swap _ _ _ _ _ C, vol_perm ?_ C⟩
  refine List.Perm.append_left _ ?_
  refine (List.perm_middle (l₁ := A k :: M.map A)).trans ?_
  simp only [List.cons_append]
  refine List.Perm.cons _ ?_
  exact List.perm_middle.symm

theorem idx_lt {r c i j : Nat} (hi : i < r) (hj : j < c) : i * c + j < r * c := by
  have h := Nat.mul_le_mul_right c (show i + 1 ≤ r by omega)
  rw [Nat.succ_mul] at h
  omega

theorem idx_inj {n i j a x : Nat} (hj : j < n) (hx : x < n) (h : i * n + j = a * n + x) : i = a ∧ j = x := by
  have e1 : (i * n + j) / n = i := by rw [Nat.mul_comm, Nat.mul_add_div (by omega), Nat.div_eq_of_lt hj, Nat.add_zero]
  have e2 : (a * n + x) / n = a := by rw [Nat.mul_comm, Nat.mul_add_div (by omega), Nat.div_eq_of_lt hx, Nat.add_zero]
  have e : i = a := by rw [← e1, ← e2, h]
  subst e
  exact ⟨rfl, by omega⟩
theorem rd_set_idx (n : Nat) (l : List Int) (hl : l.length = n * n) (i j a x : Nat) (hi : i < n) (hj : j < n) (hx : x < n) (v : Int) : rd (l.set (i * n + j) v) ((a * n + x : Nat) : Int) = if a = i ∧ x = j then v else rd l ((a * n + x : Nat) : Int) := by
  unfold rd
  rw [Int.toNat_natCast, List.getD_eq_getElem?_getD, List.getD_eq_getElem?_getD]
  have hlt := idx_lt hi hj
  by_cases h : i * n + j = a * n + x
  · obtain ⟨e1, e2⟩ := idx_inj hj hx h
    rw [if_pos ⟨e1.symm, e2.symm⟩, ← h, List.getElem?_set_self (by omega)]
    rfl
  · rw [if_neg (fun e => h (by rw [e.1, e.2])), List.getElem?_set_ne h]
/-- The state before round k: the entries from row and column k on are the minors. -/
structure St (n k : Nat) (A : Nat → Nat → Int) (l : List Int) (p : Int) : Prop where
  B : Bar n k A (Dm A k) p
  len : l.length = n * n
  cell : ∀ a x, k ≤ a → a < n → k ≤ x → x < n → rd l ((a * n + x : Nat) : Int) = Dm A k a x
def Inv4 (n k : Nat) (A : Nat → Nat → Int) (i j : Nat) (l : List Int) : Prop :=
  l.length = n * n ∧ ∀ a x, k ≤ a → a < n → k ≤ x → x < n → rd l ((a * n + x : Nat) : Int) = if k < a ∧ k < x ∧ (a < i ∨ (a = i ∧ x < j)) then Dm A (k + 1) a x else Dm A k a x
theorem Inv4.start {n k : Nat} {A : Nat → Nat → Int} {l : List Int} {p : Int} (S : St n k A l p) : Inv4 n k A (k + 1) (k + 1) l :=
  ⟨S.len, fun a x h1 h2 h3 h4 => by rw [if_neg (by omega)]; exact S.cell a x h1 h2 h3 h4⟩
theorem Inv4.row {n k : Nat} {A : Nat → Nat → Int} {i : Nat} {l : List Int} (h : Inv4 n k A i n l) : Inv4 n k A (i + 1) (k + 1) l :=
  ⟨h.1, fun a x h1 h2 h3 h4 => by
    rw [h.2 a x h1 h2 h3 h4]
    by_cases c : k < a ∧ k < x ∧ (a < i ∨ (a = i ∧ x < n))
    · rw [if_pos c, if_pos (by omega)]
    · rw [if_neg c, if_neg (by omega)]⟩
theorem prod_le {x y : Int} {B : Nat} (hx : x.natAbs ≤ B) (hy : y.natAbs ≤ B) : (x * y).natAbs ≤ B * B := by
  rw [Int.natAbs_mul]
  exact Nat.mul_le_mul hx hy
/-- The new entry: nothing overflows, and the division leaves no rest. -/
theorem new_entry {w x y z p D : Int} (hw : w.natAbs ≤ 1000000000) (hx : x.natAbs ≤ 1000000000) (hy : y.natAbs ≤ 1000000000) (hz : z.natAbs ≤ 1000000000) (hD : D.natAbs ≤ 1000000000) (hp : p ≠ 0) (h : w * x - y * z = p * D) :
    wrap64 (Int.tdiv (wrap64 (wrap64 (w * x) - wrap64 (y * z))) p) = D := by
  have h1 := prod_le hw hx
  have h2 := prod_le hy hz
  rw [w64 (w * x) (by omega) (by omega), w64 (y * z) (by omega) (by omega), w64 (w * x - y * z) (by omega) (by omega), h, Int.mul_tdiv_cancel_left _ hp, w64 D (by omega) (by omega)]
theorem Inv4.step {n k : Nat} {A : Nat → Nat → Int} {p : Int} (B : Bar n k A (Dm A k) p) (hk : k < n) (hz : Dm A k k k ≠ 0) (hV : vol (RR A n) (RC n) ≤ 1000000000) {i j : Nat} {l : List Int} (h : Inv4 n k A i j l) (hi : k < i) (hi2 : i < n) (hj : k < j) (hj2 : j < n) :
    ∃ v, Inv4 n k A i (j + 1) (l.set (i * n + j) v) ∧ wrap64 (Int.tdiv (wrap64 (wrap64 (rd l ((i * n + j : Nat) : Int) * rd l ((k * n + k : Nat) : Int)) - wrap64 (rd l ((i * n + k : Nat) : Int) * rd l ((k * n + j : Nat) : Int)))) p) = v := by
  have bd := fun a x h1 h2 h3 h4 => Nat.le_trans (B.bound (a := a) (x := x) h1 h2 h3 h4) hV
  have hs := B.step hk hz (Dm A (k + 1)) (fun _ _ _ _ _ => rfl)
  have bd2 := Nat.le_trans (hs.bound (a := i) (x := j) hi hi2 hj hj2) hV
  refine ⟨Dm A (k + 1) i j, ⟨by rw [List.length_set]; exact h.1, fun a x h1 h2 h3 h4 => ?_⟩, ?_⟩
  · rw [rd_set_idx n l h.1 i j a x hi2 hj2 h4]
    by_cases e : a = i ∧ x = j
    · rw [if_pos e, if_pos (by omega), e.1, e.2]
    · rw [if_neg e, h.2 a x h1 h2 h3 h4]
      by_cases c : k < a ∧ k < x ∧ (a < i ∨ (a = i ∧ x < j))
      · rw [if_pos c, if_pos (by omega)]
      · rw [if_neg c, if_neg (by omega)]
  · rw [h.2 i j (by omega) hi2 (by omega) hj2, h.2 k k (by omega) hk (by omega) hk, h.2 i k (by omega) hi2 (by omega) hk, h.2 k j (by omega) hk (by omega) hj2]
    rw [if_neg (by omega), if_neg (by omega), if_neg (by omega), if_neg (by omega)]
    exact new_entry (bd i j (by omega) hi2 (by omega) hj2) (bd k k (by omega) hk (by omega) hk) (bd i k (by omega) hi2 (by omega) hk) (bd k j (by omega) hk (by omega) hj2) bd2 B.h0 (B.exact hk hz hi hi2 hj)
theorem Inv4.done {n k : Nat} {A : Nat → Nat → Int} {p : Int} (B : Bar n k A (Dm A k) p) (hk : k < n) (hz : Dm A k k k ≠ 0) {l : List Int} (h : Inv4 n k A n (k + 1) l) : St n (k + 1) A l (Dm A k k k) :=
  ⟨B.step hk hz (Dm A (k + 1)) (fun _ _ _ _ _ => rfl), h.1, fun a x h1 h2 h3 h4 => by rw [h.2 a x (by omega) h2 (by omega) h4, if_pos (by omega)]⟩
theorem Inv4.diag {n k : Nat} {A : Nat → Nat → Int} {i j : Nat} {l : List Int} (h : Inv4 n k A i j l) (hk : k < n) : rd l ((k * n + k : Nat) : Int) = Dm A k k k := by
  rw [h.2 k k (by omega) hk (by omega) hk, if_neg (by omega)]
theorem Dm_sw (A : Nat → Nat → Int) (k q : Nat) (h : k ≤ q) : Dm (sw k q A) k = sw k q (Dm A k) := by
  funext a x
  unfold Dm
  rw [RR_sw k q A k (Nat.le_refl k) h]
  simp only [sw]
  by_cases e : a = k
  · rw [if_pos e, if_pos e]
  · rw [if_neg e, if_neg e]
    by_cases e2 : a = q
    · rw [if_pos e2, if_pos e2]
    · rw [if_neg e2, if_neg e2]
def swn (k q a : Nat) : Nat := if a = k then q else if a = q then k else a
theorem St.swap {n k q : Nat} {A : Nat → Nat → Int} {l l' : List Int} {p : Int} (S : St n k A l p) (hk : k < n) (h1 : k ≤ q) (h2 : q < n) (hl : l'.length = n * n) (h : ∀ a x, a < n → x < n → rd l' ((a * n + x : Nat) : Int) = rd l ((swn k q a * n + x : Nat) : Int)) : St n k (sw k q A) l' p := by
  refine ⟨by rw [Dm_sw A k q h1]; exact S.B.swap hk h1 h2, hl, fun a x ha hn hx hxn => ?_⟩
  rw [h a x hn hxn, Dm_sw A k q h1]
  simp only [sw, swn]
  by_cases e : a = k
  · rw [if_pos e, if_pos e]; exact S.cell q x h1 h2 hx hxn
  · rw [if_neg e, if_neg e]
    by_cases e2 : a = q
    · rw [if_pos e2, if_pos e2]; exact S.cell k x (Nat.le_refl k) hk hx hxn
    · rw [if_neg e2, if_neg e2]; exact S.cell a x ha hn hx hxn
/-- The rows k and q exchanged in the columns before j. -/
def SwJ (n k q j : Nat) (l0 l : List Int) : Prop := l.length = n * n ∧ ∀ a x, a < n → x < n → rd l ((a * n + x : Nat) : Int) = if x < j then rd l0 ((swn k q a * n + x : Nat) : Int) else rd l0 ((a * n + x : Nat) : Int)
theorem SwJ.start {n k q : Nat} {l : List Int} (h : l.length = n * n) : SwJ n k q 0 l l := ⟨h, fun a x _ _ => by rw [if_neg (by omega)]⟩
theorem SwJ.step {n k q j : Nat} {l0 l : List Int} (h : SwJ n k q j l0 l) (hk : k < n) (hq : q < n) (hkq : k ≠ q) (hj : j < n) :
    SwJ n k q (j + 1) l0 ((l.set (k * n + j) (rd l ((q * n + j : Nat) : Int))).set (q * n + j) (rd l ((k * n + j : Nat) : Int))) := by
  refine ⟨by rw [List.length_set, List.length_set]; exact h.1, fun a x ha hx => ?_⟩
  have hq1 : rd l ((q * n + j : Nat) : Int) = rd l0 ((q * n + j : Nat) : Int) := by rw [h.2 q j hq hj, if_neg (by omega)]
  have hk1 : rd l ((k * n + j : Nat) : Int) = rd l0 ((k * n + j : Nat) : Int) := by rw [h.2 k j hk hj, if_neg (by omega)]
  rw [rd_set_idx n _ (by rw [List.length_set]; exact h.1) q j a x hq hj hx, rd_set_idx n l h.1 k j a x hk hj hx, hq1, hk1, h.2 a x ha hx]
  have s1 : swn k q q = k := by simp [swn, Ne.symm hkq]
  have s2 : swn k q k = q := by simp [swn]
  by_cases e : x = j
  · rw [e]
    by_cases e1 : a = q
    · rw [e1, s1, if_pos ⟨rfl, rfl⟩, if_pos (by omega)]
    · by_cases e2 : a = k
      · rw [e2, s2, if_neg (fun c => hkq c.1), if_pos ⟨rfl, rfl⟩, if_pos (by omega)]
      · have s3 : swn k q a = a := by simp [swn, e1, e2]
        rw [s3, if_neg (fun c => e1 c.1), if_neg (fun c => e2 c.1), if_neg (by omega), if_pos (by omega)]
  · rw [if_neg (fun c => e c.2), if_neg (fun c => e c.2)]
    by_cases c : x < j
    · rw [if_pos c, if_pos (by omega)]
    · rw [if_neg c, if_neg (by omega)]
/-- The determinant of a square list of entries. -/
def detL (n : Nat) (l : List Int) : Int := det (RR (fun a c => rd l ((a * n + c : Nat) : Int)) n) (RC n)
def volL (n : Nat) (l : List Int) : Nat := vol (RR (fun a c => rd l ((a * n + c : Nat) : Int)) n) (RC n)
theorem St.first (n : Nat) (l : List Int) (h : l.length = n * n) : St n 0 (fun a c => rd l ((a * n + c : Nat) : Int)) l 1 := by
  have e : Dm (fun a c => rd l ((a * n + c : Nat) : Int)) 0 = fun a c => rd l ((a * n + c : Nat) : Int) := by
    funext a c
    simp [Dm, RR, RC, det, ex]
  refine ⟨by rw [e]; exact Bar.start n _, h, fun a x _ _ _ _ => by rw [e]⟩

/-- With enough rounds, the answer is r. -/
def Evt {α : Type} (f : Nat → Option α) (r : α) : Prop := ∃ c, ∀ K, c ≤ K → f K = some r
theorem Evt.step {α : Type} {f g : Nat → Option α} {r : α} (h : Evt g r) (e : ∀ K, f (K + 1) = g K) : Evt f r := by
  obtain ⟨c, hc⟩ := h
  refine ⟨c + 1, fun K hK => ?_⟩
  obtain ⟨K, rfl⟩ : ∃ m, K = m + 1 := ⟨K - 1, by omega⟩
  rw [e K]
  exact hc K (by omega)
theorem Evt.same {α : Type} {f g : Nat → Option α} {r : α} (h : Evt g r) (e : ∀ K, f K = g K) : Evt f r := by
  obtain ⟨c, hc⟩ := h
  exact ⟨c, fun K hK => by rw [e K]; exact hc K hK⟩
theorem Evt.now {α : Type} {f : Nat → Option α} {r : α} (e : ∀ K, f (K + 1) = some r) : Evt f r := by
  refine ⟨1, fun K hK => ?_⟩
  obtain ⟨K, rfl⟩ : ∃ m, K = m + 1 := ⟨K - 1, by omega⟩
  exact e K
theorem Evt.const {α : Type} {f : Nat → Option α} {r : α} (e : ∀ K, f K = some r) : Evt f r := ⟨0, fun K _ => e K⟩
theorem Evt.bind {α β : Type} {f : Nat → Option β} {g : Nat → Option α} {h : Nat → α → Option β} {x : α} {r : β} (hg : Evt g x) (hh : Evt (fun K => h K x) r) (e : ∀ K, f K = (g K).bind (h K)) : Evt f r := by
  obtain ⟨c, hc⟩ := hg
  obtain ⟨d, hd⟩ := hh
  exact ⟨c + d, fun K hK => by rw [e K, hc K (by omega)]; exact hd K (by omega)⟩
theorem Evt.bind1 {α β : Type} {f : Nat → Option β} {g : Nat → Option α} {h : Nat → α → Option β} {x : α} {r : β} (hg : Evt g x) (hh : Evt (fun K => h K x) r) (e : ∀ K, f (K + 1) = (g K).bind (h K)) : Evt f r :=
  Evt.step (g := fun K => (g K).bind (h K)) (Evt.bind hg hh fun _ => rfl) e
theorem Evt.get {α : Type} {f : Nat → Option α} {r : α} (h : Evt f r) : ∃ c, ∀ K, c ≤ K → f K = some r := h

/-- The product of the row sums (each at least 1) of the rows from i on. -/
def volF (n : Nat) (l : List Int) : Nat → Nat → Nat
  | 0, _ => 1
  | d + 1, i => max (nabs (fun c => rd l ((i * n + c : Nat) : Int)) (RC n)) 1 * volF n l d (i + 1)
theorem volF_snoc (n : Nat) (l : List Int) : ∀ (d i : Nat), volF n l (d + 1) i = max (nabs (fun c => rd l (((i + d) * n + c : Nat) : Int)) (RC n)) 1 * volF n l d i
  | 0, i => by simp [volF]
  | d + 1, i => by
    rw [volF, volF_snoc n l d (i + 1), volF, show i + 1 + d = i + (d + 1) by omega, Nat.mul_left_comm]
theorem volF_eq (n : Nat) (l : List Int) : ∀ d, volF n l d 0 = vol (RR (fun a c => rd l ((a * n + c : Nat) : Int)) d) (RC n)
  | 0 => rfl
  | d + 1 => by
    rw [volF_snoc, volF_eq n l d, Nat.zero_add]
    rfl
theorem volF_pos (n : Nat) (l : List Int) : ∀ (d i : Nat), 1 ≤ volF n l d i
  | 0, _ => Nat.le_refl _
  | d + 1, i => Nat.mul_le_mul (Nat.le_max_right (nabs (fun c => rd l ((i * n + c : Nat) : Int)) (RC n)) 1) (volF_pos n l d (i + 1))
/-- A row's sum, counted from the front. -/
def rowS (f : Nat → Int) : Nat → Nat → Nat
  | 0, _ => 0
  | d + 1, j => (f j).natAbs + rowS f d (j + 1)
theorem rowS_snoc (f : Nat → Int) : ∀ (d j : Nat), rowS f (d + 1) j = (f (j + d)).natAbs + rowS f d j
  | 0, j => by simp [rowS]
  | d + 1, j => by
    rw [rowS, rowS_snoc f d (j + 1), rowS, show j + 1 + d = j + (d + 1) by omega]
    omega
theorem rowS_eq (f : Nat → Int) : ∀ d, rowS f d 0 = nabs f (RC d)
  | 0 => rfl
  | d + 1 => by
    rw [rowS_snoc, rowS_eq f d, Nat.zero_add]
    rfl
theorem rowS_le (f : Nat → Int) (B : Nat) (h : ∀ c, (f c).natAbs ≤ B) : ∀ (d j : Nat), rowS f d j ≤ d * B
  | 0, _ => by simp [rowS]
  | d + 1, j => by
    have h1 := rowS_le f B h d (j + 1)
    have h2 := h j
    rw [rowS, Nat.succ_mul]
    omega
theorem volAbs_eq (x : Int) (h : x.natAbs ≤ 1000000000000) : volAbs x = (x.natAbs : Int) := by
  unfold volAbs
  split
  · rw [w64 _ (by omega) (by omega)]; omega
  · omega
theorem volRow_eq (y : List Int) (hy : ∀ j : Nat, (rd y (j : Int)).natAbs ≤ 1000000000000) : ∀ (d j : Nat) (s : Nat), j + d ≤ 48 → s ≤ j * 1000000000000 → volRow y d j (s : Int) = ((s + rowS (fun c => rd y (c : Int)) d j : Nat) : Int)
  | 0, j, s, _, _ => by simp [volRow, rowS]
  | d + 1, j, s, hj, hs => by
    have h1 := hy j
    rw [volRow, volAbs_eq _ h1, w64 _ (by omega) (by omega)]
    rw [show (s : Int) + ((rd y (j : Int)).natAbs : Int) = ((s + (rd y (j : Int)).natAbs : Nat) : Int) by omega, volRow_eq y hy d (j + 1) _ (by omega) (by rw [Nat.succ_mul]; omega), rowS, Nat.add_assoc]
theorem rd_small (l : List Int) (h : ∀ x ∈ l, x.natAbs ≤ 1000000000000) (i : Int) : (rd l i).natAbs ≤ 1000000000000 := by
  unfold rd
  rw [List.getD_eq_getElem?_getD]
  cases e : l[i.toNat]? with
  | none => simp
  | some x => exact h x (List.mem_of_getElem? e)
theorem row_cut (n : Nat) (l : List Int) (i c : Nat) (hc : c < n) (h : i * n + n ≤ l.length) : rd ((l.take (i * n + n)).drop (i * n)) (c : Int) = rd l ((i * n + c : Nat) : Int) := by
  unfold rd
  rw [Int.toNat_natCast, Int.toNat_natCast, List.getD_eq_getElem?_getD, List.getD_eq_getElem?_getD, List.getElem?_drop, List.getElem?_take, if_pos (by omega)]
theorem rowS_congr (f g : Nat → Int) : ∀ (d j : Nat), (∀ c, j ≤ c → c < j + d → f c = g c) → rowS f d j = rowS g d j
  | 0, _, _ => rfl
  | d + 1, j, h => by rw [rowS, rowS, h j (Nat.le_refl j) (by omega), rowS_congr f g d (j + 1) (fun c h1 h2 => h c (by omega) (by omega))]
theorem row_sum (n : Nat) (hn : n ≤ 48) (l : List Int) (hl : l.length = n * n) (hw : ∀ x ∈ l, x.natAbs ≤ 1000000000000) (i : Nat) (hi : i < n) :
    volRow ((l.take (i * n + n)).drop (i * n)) n 0 0 = (nabs (fun c => rd l ((i * n + c : Nat) : Int)) (RC n) : Int) ∧ nabs (fun c => rd l ((i * n + c : Nat) : Int)) (RC n) ≤ 48000000000000 := by
  have h1 : (i + 1) * n ≤ n * n := Nat.mul_le_mul_right n (by omega)
  rw [Nat.succ_mul] at h1
  have h2 := volRow_eq ((l.take (i * n + n)).drop (i * n)) (fun j => rd_small _ (fun x hx => hw x (List.mem_of_mem_take (List.mem_of_mem_drop hx))) _) n 0 0 (by omega) (by omega)
  rw [rowS_congr _ (fun c => rd l ((i * n + c : Nat) : Int)) n 0 (fun c _ h => row_cut n l i c (by omega) (by omega)), rowS_eq] at h2
  refine ⟨by simpa using h2, ?_⟩
  have h3 := rowS_le (fun c => rd l ((i * n + c : Nat) : Int)) 1000000000000 (fun c => rd_small l hw _) n 0
  rw [rowS_eq] at h3
  omega
theorem volGo_eq (n : Nat) (hn : n ≤ 48) (l : List Int) (hl : l.length = n * n) (hw : ∀ x ∈ l, x.natAbs ≤ 1000000000000) : ∀ (d i o : Nat), i + d = n → 1 ≤ o → o ≤ 1000000000 → (volGo n l d i (o : Int) > 1000000000 ↔ o * volF n l d i > 1000000000)
  | 0, i, o, _, h1, h2 => by simp [volGo, volF]; omega
  | d + 1, i, o, hi, h1, h2 => by
    obtain ⟨e, hb⟩ := row_sum n hn l hl hw i (by omega)
    rw [volGo, volF, e]
    obtain ⟨m, hm⟩ : ∃ m : Nat, m = nabs (fun c => rd l ((i * n + c : Nat) : Int)) (RC n) := ⟨_, rfl⟩
    rw [← hm] at hb ⊢
    clear e hm
    have hp := volF_pos n l d (i + 1)
    obtain ⟨f, hf⟩ : ∃ f : Nat, mx (mn (m : Int) 1000000001) 1 = (f : Int) ∧ 1 ≤ f ∧ f ≤ 1000000001 ∧ (m ≤ 1000000001 → f = max m 1) ∧ (1000000001 < m → f = 1000000001) := by
      refine ⟨max (min m 1000000001) 1, ?_, by omega, by omega, by omega, by omega⟩
      unfold mx mn
      split <;> split <;> omega
    obtain ⟨f1, f2, f3, f4, f5⟩ := hf
    have hof : o * f ≤ 1000000000 * 1000000001 := Nat.mul_le_mul h2 f3
    have ew : wrap64 ((o : Int) * (f : Int)) = ((o * f : Nat) : Int) := by rw [← Int.natCast_mul]; exact w64n _ (by omega)
    rw [f1, ew]
    clear f1 ew
    have hfm : f ≤ max m 1 := by
      by_cases c : m ≤ 1000000001
      · rw [f4 c]; omega
      · rw [f5 (by omega)]; omega
    by_cases c : ((o * f : Nat) : Int) > 1000000000
    · rw [if_pos c]
      refine ⟨fun _ => ?_, fun _ => c⟩
      have g1 : o * f ≤ o * (max m 1 * volF n l d (i + 1)) := Nat.mul_le_mul_left o (Nat.le_trans hfm (Nat.le_mul_of_pos_right _ hp))
      omega
    · rw [if_neg c]
      have hm : m ≤ 1000000001 := by
        by_cases g : m ≤ 1000000001
        · exact g
        · have := f5 (by omega)
          have g2 : 1 * f ≤ o * f := Nat.mul_le_mul_right f h1
          omega
      have hof1 : 1 * 1 ≤ o * f := Nat.mul_le_mul h1 f2
      have := volGo_eq n hn l hl hw d (i + 1) (o * f) (by omega) (by omega) (by omega)
      rw [this, f4 hm, Nat.mul_assoc]
theorem volL_eq (n : Nat) (l : List Int) : volL n l = volF n l n 0 := (volF_eq n l n).symm
theorem implVol (n : Nat) (hn : n ≤ 48) (l : List Int) (hl : l.length = n * n) (hw : ∀ x ∈ l, x.natAbs ≤ 1000000000000) : ∃ v, impl_volume.f (n : Int) (n : Int) l = some v ∧ (v > 1000000000 ↔ volL n l > 1000000000) := by
  have h := volGo_eq n hn l hl hw n 0 1 (by omega) (by omega) (by omega)
  refine ⟨volGo n l n 0 1, ?_, by rw [volL_eq]; simpa using h⟩
  unfold impl_volume.f
  rw [if_pos ⟨by omega, by omega, by omega, by omega, by rw [hl]; simp⟩, Int.toNat_natCast]

theorem mat_idx (n : Nat) (hn : n ≤ 48) (r c : Nat) (hr : r < n) (hc : c < n) : wrap64 (wrap64 ((r : Int) * (n : Int)) + (c : Int)) = ((r * n + c : Nat) : Int) := by
  have h := idx_lt hr hc
  have hm := Nat.mul_le_mul hn hn
  have e1 : (r : Int) * (n : Int) = ((r * n : Nat) : Int) := by simp
  rw [e1, w64n (r * n) (by omega)]
  exact w64n (r * n + c) (by omega)
theorem at_im (n : Nat) (hn : n ≤ 48) (l : List Int) (hl : l.length = n * n) (r c : Nat) (hr : r < n) (hc : c < n) :
    impl_Matrix_at.f (n : Int) (n : Int) l (r : Int) (c : Int) = some ((r * n + c : Nat) : Int) ∧ (0 : Int) ≤ ((r * n + c : Nat) : Int) ∧ ((r * n + c : Nat) : Int) < (l.length : Int) := by
  have h := idx_lt hr hc
  have h1 : (0 : Int) ≤ ((r * n + c : Nat) : Int) := Int.natCast_nonneg _
  have h2 : ((r * n + c : Nat) : Int) < (l.length : Int) := by rw [hl]; exact Int.ofNat_lt.2 h
  refine ⟨?_, h1, h2⟩
  unfold impl_Matrix_at.f
  rw [mat_idx n hn r c hr hc, if_pos h1, if_pos h2]
theorem id_l4 (n k i : Nat) (hn : n ≤ 48) (A : Nat → Nat → Int) (s p : Int) (B : Bar n k A (Dm A k) p) (hk : k < n) (hz : Dm A k k k ≠ 0) (hV : vol (RR A n) (RC n) ≤ 1000000000) (hi : k < i) (hi2 : i < n) :
    ∀ (d j : Nat) (l : List Int), j + d = n → k < j → Inv4 n k A i j l → ∃ l', Inv4 n k A i n l' ∧ ∀ r, Evt (fun K => impl_determinant.l3 K s p (k : Int) ((i + 1 : Nat) : Int) (n : Int) (k : Int) (n : Int) (n : Int) l') r → Evt (fun K => impl_determinant.l4 K s p (k : Int) (i : Int) (j : Int) (n : Int) (k : Int) (n : Int) (n : Int) l) r := by
  intro d
  induction d with
  | zero =>
    intro j l hj _ h
    obtain rfl : j = n := hj
    refine ⟨l, h, fun r hr => Evt.step hr fun K => ?_⟩
    rw [impl_determinant.l4, if_neg (by omega), w64 ((i : Int) + 1) (by omega) (by omega), cast_succ]
  | succ d ih =>
    intro j l hj hkj h
    have hjn : j < n := by omega
    obtain ⟨v, h1, h2⟩ := Inv4.step B hk hz hV h hi hi2 hkj hjn
    obtain ⟨l', h3, h4⟩ := ih (j + 1) _ (by omega) (by omega) h1
    refine ⟨l', h3, fun r hr => Evt.step (h4 r hr) fun K => ?_⟩
    obtain ⟨a1, a2, a3⟩ := at_im n hn l h.1 i j hi2 hjn
    obtain ⟨b1, b2, b3⟩ := at_im n hn l h.1 k k hk hk
    obtain ⟨c1, c2, c3⟩ := at_im n hn l h.1 i k hi2 hk
    obtain ⟨d1, d2, d3⟩ := at_im n hn l h.1 k j hk hjn
    have hj1 : (j : Int) < (n : Int) := by omega
    have ej : wrap64 ((j : Int) + 1) = ((j + 1 : Nat) : Int) := w64n (j + 1) (by omega)
    rw [impl_determinant.l4, a1, b1, c1, d1, ej]
    simp only [hj1, a2, a3, b2, b3, c2, c3, d2, d3, if_true, Option.bind_some, if_neg B.h0, Int.toNat_natCast, h2]
theorem id_l3 (n k : Nat) (hn : n ≤ 48) (A : Nat → Nat → Int) (s p : Int) (B : Bar n k A (Dm A k) p) (hk : k < n) (hz : Dm A k k k ≠ 0) (hV : vol (RR A n) (RC n) ≤ 1000000000) :
    ∀ (d i : Nat) (l : List Int), i + d = n → k < i → Inv4 n k A i (k + 1) l → ∃ l', St n (k + 1) A l' (Dm A k k k) ∧ ∀ r, Evt (fun K => impl_determinant.l0 K s (Dm A k k k) (n : Int) ((k + 1 : Nat) : Int) (n : Int) (n : Int) l') r → Evt (fun K => impl_determinant.l3 K s p (k : Int) (i : Int) (n : Int) (k : Int) (n : Int) (n : Int) l) r := by
  intro d
  induction d with
  | zero =>
    intro i l hi _ h
    obtain rfl : i = n := hi
    refine ⟨l, Inv4.done B hk hz h, fun r hr => Evt.step hr fun K => ?_⟩
    obtain ⟨b1, b2, b3⟩ := at_im i hn l h.1 k k hk hk
    have ek : wrap64 ((k : Int) + 1) = ((k + 1 : Nat) : Int) := w64n (k + 1) (by omega)
    rw [impl_determinant.l3, if_neg (by omega), b1, ek]
    simp only [b2, b3, if_true, Option.bind_some, h.diag hk]
  | succ d ih =>
    intro i l hi hki h
    have hin : i < n := by omega
    obtain ⟨l1, h1, h2⟩ := id_l4 n k i hn A s p B hk hz hV hki hin (n - (k + 1)) (k + 1) l (by omega) (by omega) h
    obtain ⟨l2, h3, h4⟩ := ih (i + 1) l1 (by omega) (by omega) h1.row
    refine ⟨l2, h3, fun r hr => Evt.step (h2 r (h4 r hr)) fun K => ?_⟩
    rw [impl_determinant.l3, if_pos (by omega), w64 ((k : Int) + 1) (by omega) (by omega), cast_succ]
theorem id_l1 (n k : Nat) (hn : n ≤ 48) (A : Nat → Nat → Int) (s p : Int) (l : List Int) (S : St n k A l p) (hk : k < n) :
    ∀ (d q : Nat), q + d = n → k ≤ q → (∀ a, k ≤ a → a < q → Dm A k a k = 0) → ∃ q', k ≤ q' ∧ q' ≤ n ∧ (∀ a, k ≤ a → a < q' → Dm A k a k = 0) ∧ (q' < n → Dm A k q' k ≠ 0) ∧
      ∀ r, Evt (fun K => impl_determinant.j2 K s p (k : Int) (q' : Int) (n : Int) (k : Int) (n : Int) (n : Int) l) r → Evt (fun K => impl_determinant.l1 K s p (k : Int) (q : Int) (n : Int) (k : Int) (n : Int) (n : Int) l) r := by
  intro d
  induction d with
  | zero =>
    intro q hq hkq h
    obtain rfl : q = n := hq
    refine ⟨q, hkq, Nat.le_refl _, h, fun e => absurd e (by omega), fun r hr => Evt.step hr fun K => ?_⟩
    rw [impl_determinant.l1, if_neg (by omega)]
  | succ d ih =>
    intro q hq hkq h
    have hqn : q < n := by omega
    obtain ⟨a1, a2, a3⟩ := at_im n hn l S.len q k hqn hk
    have hq1 : (q : Int) < (n : Int) := by omega
    have hc := S.cell q k hkq hqn (Nat.le_refl k) hk
    by_cases e : Dm A k q k = 0
    · obtain ⟨q', h1, h2, h3, h4, h5⟩ := ih (q + 1) (by omega) (by omega) (fun a h1 h2 => by
        by_cases c : a = q
        · rw [c]; exact e
        · exact h a h1 (by omega))
      refine ⟨q', h1, h2, h3, h4, fun r hr => Evt.step (h5 r hr) fun K => ?_⟩
      have ej : wrap64 ((q : Int) + 1) = ((q + 1 : Nat) : Int) := w64n (q + 1) (by omega)
      rw [impl_determinant.l1, a1, ej]
      simp only [hq1, a2, a3, if_true, Option.bind_some, hc, e]
    · refine ⟨q, hkq, by omega, h, fun _ => e, fun r hr => Evt.step hr fun K => ?_⟩
      rw [impl_determinant.l1, a1]
      simp only [hq1, a2, a3, if_true, Option.bind_some, hc, if_neg e]
theorem id_l2 (n k q : Nat) (hn : n ≤ 48) (s p : Int) (l0 : List Int) (hk : k < n) (hq : q < n) (hkq : k ≠ q) :
    ∀ (d j : Nat) (l : List Int), j + d = n → SwJ n k q j l0 l → ∃ l', SwJ n k q n l0 l' ∧ ∀ r, Evt (fun K => impl_determinant.j4 K s p (k : Int) (n : Int) (k : Int) (n : Int) (n : Int) l') r → Evt (fun K => impl_determinant.l2 K s p (k : Int) (q : Int) (n : Int) (k : Int) (n : Int) (j : Int) (n : Int) (n : Int) l) r := by
  intro d
  induction d with
  | zero =>
    intro j l hj h
    obtain rfl : j = n := hj
    refine ⟨l, h, fun r hr => Evt.step hr fun K => ?_⟩
    rw [impl_determinant.l2, if_neg (by omega)]
  | succ d ih =>
    intro j l hj h
    have hjn : j < n := by omega
    obtain ⟨l', h3, h4⟩ := ih (j + 1) _ (by omega) (h.step hk hq hkq hjn)
    refine ⟨l', h3, fun r hr => Evt.step (h4 r hr) fun K => ?_⟩
    obtain ⟨a1, a2, a3⟩ := at_im n hn l h.1 k j hk hjn
    obtain ⟨b1, b2, b3⟩ := at_im n hn l h.1 q j hq hjn
    have hj1 : (j : Int) < (n : Int) := by omega
    have ej : wrap64 ((j : Int) + 1) = ((j + 1 : Nat) : Int) := w64n (j + 1) (by omega)
    rw [impl_determinant.l2, a1, b1, ej]
    simp only [hj1, a2, a3, b2, b3, if_true, Option.bind_some, Int.toNat_natCast]
theorem id_l0 (n : Nat) (hn : n ≤ 48) : ∀ (d k : Nat) (A : Nat → Nat → Int) (s p : Int) (l : List Int), k + d = n → St n k A l p → vol (RR A n) (RC n) ≤ 1000000000 → (s = 1 ∨ s = -1) →
    ∃ l', Evt (fun K => impl_determinant.l0 K s p (n : Int) (k : Int) (n : Int) (n : Int) l) (s * det (RR A n) (RC n), l') := by
  intro d
  induction d with
  | zero =>
    intro k A s p l hk S hV hs
    obtain rfl : k = n := hk
    have hb := Nat.le_trans (det_bound (RR A k) (RC k)) hV
    refine ⟨l, Evt.now fun K => ?_⟩
    rw [impl_determinant.l0, if_neg (by omega), S.B.hp]
    rw [w64 _ (by rcases hs with h | h <;> rw [h] <;> omega) (by rcases hs with h | h <;> rw [h] <;> omega)]
  | succ d ih =>
    intro k A s p l hk S hV hs
    have hkn : k < n := by omega
    obtain ⟨q, h1, h2, h3, h4, h5⟩ := id_l1 n k hn A s p l S hkn (n - k) k (by omega) (Nat.le_refl k) (fun a h1 h2 => absurd h2 (by omega))
    have key : ∀ (s' : Int) (A' : Nat → Nat → Int) (l1 : List Int), (s' = 1 ∨ s' = -1) → St n k A' l1 p → vol (RR A' n) (RC n) ≤ 1000000000 → Dm A' k k k ≠ 0 → ∃ l', Evt (fun K => impl_determinant.j4 K s' p (k : Int) (n : Int) (k : Int) (n : Int) (n : Int) l1) (s' * det (RR A' n) (RC n), l') := by
      intro s' A' l1 hs' S' hV' hz
      obtain ⟨l2, g1, g2⟩ := id_l3 n k hn A' s' p S'.B hkn hz hV' (n - (k + 1)) (k + 1) l1 (by omega) (by omega) (Inv4.start S')
      obtain ⟨l3, g3⟩ := ih (k + 1) A' s' (Dm A' k k k) l2 (by omega) g1 hV' hs'
      refine ⟨l3, Evt.step (g2 _ g3) fun K => ?_⟩
      rw [impl_determinant.j4, w64 ((k : Int) + 1) (by omega) (by omega), cast_succ]
    have first : ∀ r, Evt (fun K => impl_determinant.j2 K s p (k : Int) (q : Int) (n : Int) (k : Int) (n : Int) (n : Int) l) r → Evt (fun K => impl_determinant.l0 K s p (n : Int) (k : Int) (n : Int) (n : Int) l) r := by
      intro r hr
      refine Evt.step (h5 r hr) fun K => ?_
      rw [impl_determinant.l0, if_pos (by omega)]
    by_cases e1 : q = n
    · refine ⟨l, first _ (Evt.now fun K => ?_)⟩
      have hz := S.B.none hkn (fun a g1 g2 => h3 a g1 (by omega))
      rw [impl_determinant.j2, if_pos (by omega), hz]
      simp
    · by_cases e2 : q = k
      · subst e2
        obtain ⟨l', g⟩ := key s A l hs S hV (h4 (by omega))
        refine ⟨l', first _ (Evt.step g fun K => ?_)⟩
        rw [impl_determinant.j2, if_neg (by omega), if_pos rfl]
      · have hkq : k < q := by omega
        have hqn : q < n := by omega
        obtain ⟨l1, g1, g2⟩ := id_l2 n k q hn (-s) p l hkn hqn (by omega) n 0 l (by omega) (SwJ.start S.len)
        have S' := S.swap hkn h1 hqn g1.1 (fun a x ha hx => by rw [g1.2 a x ha hx, if_pos hx])
        obtain ⟨w1, w2⟩ := sw_det A k q n hkq hqn (RC n)
        obtain ⟨l', g⟩ := key (-s) (sw k q A) l1 (by omega) S' (by rw [w2]; exact hV) (by rw [Dm_sw A k q h1]; simp only [sw, if_true]; exact h4 hqn)
        refine ⟨l', first _ (Evt.step (g2 _ ?_) fun K => ?_)⟩
        · rw [w1] at g
          rw [show s * det (RR A n) (RC n) = -s * -det (RR A n) (RC n) by rw [Int.neg_mul_neg]]
          exact g
        · rw [impl_determinant.j2, if_neg (by omega), if_neg (by omega), w64 (-s) (by omega) (by omega)]
          rfl
theorem implDet (n : Nat) (hn : n ≤ 48) (l : List Int) (hl : l.length = n * n) (hV : volL n l ≤ 1000000000) : ∃ l', Evt (fun K => impl_determinant.f K (n : Int) (n : Int) l) (detL n l, l') := by
  obtain ⟨l', h⟩ := id_l0 n hn n 0 _ 1 1 l (by omega) (St.first n l hl) hV (.inl rfl)
  rw [Int.one_mul] at h
  exact ⟨l', h⟩

theorem isMatB_small {a b : Int} {l : List Int} (h : isMatB a b l = true) : ∀ x ∈ l, x.natAbs ≤ 1000000000000 := by
  intro x hx
  unfold isMatB at h
  simp only [Bool.and_eq_true, Bool.not_eq_true', List.any_eq_false] at h
  have h1 := h.2.2.2 x hx
  unfold matBad at h1
  simp at h1
  omega
/-- What the determinant's two functions answer. -/
def detAns (a b : Int) (l : List Int) : Int × Int :=
  if isMatB a b l = true then (if a = b then (if volL a.toNat l ≤ 1000000000 then (detL a.toNat l, 0) else (0, 3)) else (0, 2)) else (0, 1)
theorem implDeterminant_ev (a b : Int) (l : List Int) (hl : l.length ≤ 1048576) : Evt (fun K => impl_Determinant.f K a b l) (detAns a b l) := by
  unfold impl_Determinant.f impl_isMatrix.f detAns
  by_cases h1 : isMatB a b l = true
  case neg =>
    refine Evt.const fun K => ?_
    simp [h1]
  by_cases h2 : a = b
  case neg =>
    refine Evt.const fun K => ?_
    simp [h1, h2]
  subst h2
  obtain ⟨g1, _, g3⟩ := isMatB_len h1
  have hw := isMatB_small h1
  obtain ⟨n, rfl⟩ : ∃ n : Nat, a = n := ⟨a.toNat, by omega⟩
  rw [← Int.natCast_mul] at g3
  have g3' : l.length = n * n := by omega
  obtain ⟨v, hv, hiff⟩ := implVol n (by omega) l g3' hw
  simp only [h1, if_true, Option.bind_some, hv, Int.toNat_natCast]
  by_cases h3 : volL n l ≤ 1000000000
  · have h4 : ¬ v > 1000000000 := fun c => by have := hiff.mp c; omega
    obtain ⟨l', h5⟩ := implDet n (by omega) l g3' h3
    rw [if_pos h3]
    simp only [h4, if_false]
    unfold impl_copyMatrix.f slices_Clone_int64_int64.f
    simp only [show l.length < 17592186044416 by omega, if_true, Option.bind_some]
    exact Evt.bind (h := fun _ bt => some (bt.1, 0)) h5 (Evt.const fun _ => rfl) fun _ => rfl
  · have h4 : v > 1000000000 := hiff.mpr (by omega)
    rw [if_neg h3]
    refine Evt.const fun K => ?_
    rw [if_pos h4]

theorem at_sp (n : Nat) (hn : n ≤ 48) (l : List Int) (hl : l.length = n * n) (r c : Nat) (hr : r < n) (hc : c < n) :
    spec_l01At.f (n : Int) (n : Int) l (r : Int) (c : Int) = some (rd l ((r * n + c : Nat) : Int)) ∧ wrap64 (wrap64 ((r : Int) * (n : Int)) + (c : Int)) = ((r * n + c : Nat) : Int) ∧ (0 : Int) ≤ ((r * n + c : Nat) : Int) ∧ ((r * n + c : Nat) : Int) < (l.length : Int) := by
  have h := idx_lt hr hc
  have h1 : (0 : Int) ≤ ((r * n + c : Nat) : Int) := Int.natCast_nonneg _
  have h2 : ((r * n + c : Nat) : Int) < (l.length : Int) := by rw [hl]; exact Int.ofNat_lt.2 h
  refine ⟨?_, mat_idx n hn r c hr hc, h1, h2⟩
  unfold spec_l01At.f
  rw [mat_idx n hn r c hr hc, if_pos h1, if_pos h2]
theorem sd_l3 (n k i : Nat) (hn : n ≤ 48) (A : Nat → Nat → Int) (s p : Int) (B : Bar n k A (Dm A k) p) (hk : k < n) (hz : Dm A k k k ≠ 0) (hV : vol (RR A n) (RC n) ≤ 1000000000) (hi : k < i) (hi2 : i < n) :
    ∀ (d j : Nat) (l : List Int), j + d = n → k < j → Inv4 n k A i j l → ∃ l', Inv4 n k A i n l' ∧ ∀ r, Evt (fun K => spec_l01Determinant.l2 K (n : Int) s p (k : Int) ((i + 1 : Nat) : Int) (n : Int) (n : Int) l') r → Evt (fun K => spec_l01Determinant.l3 K (n : Int) s p (k : Int) (i : Int) (j : Int) (n : Int) (n : Int) l) r := by
  intro d
  induction d with
  | zero =>
    intro j l hj _ h
    obtain rfl : j = n := hj
    refine ⟨l, h, fun r hr => Evt.step hr fun K => ?_⟩
    rw [spec_l01Determinant.l3, if_neg (by omega), w64 ((i : Int) + 1) (by omega) (by omega), cast_succ]
  | succ d ih =>
    intro j l hj hkj h
    have hjn : j < n := by omega
    obtain ⟨v, h1, h2⟩ := Inv4.step B hk hz hV h hi hi2 hkj hjn
    obtain ⟨l', h3, h4⟩ := ih (j + 1) _ (by omega) (by omega) h1
    refine ⟨l', h3, fun r hr => Evt.step (h4 r hr) fun K => ?_⟩
    have hj1 : (j : Int) < (n : Int) := by omega
    have ej : wrap64 ((j : Int) + 1) = ((j + 1 : Nat) : Int) := w64n (j + 1) (by omega)
    obtain ⟨a1, a0, a2, a3⟩ := at_sp n hn l h.1 i j hi2 hjn
    obtain ⟨b1, -, b2, b3⟩ := at_sp n hn l h.1 k k hk hk
    obtain ⟨c1, -, c2, c3⟩ := at_sp n hn l h.1 i k hi2 hk
    obtain ⟨d1, -, d2, d3⟩ := at_sp n hn l h.1 k j hk hjn
    rw [spec_l01Determinant.l3, a1, b1, c1, d1, ej, a0]
    simp only [hj1, a2, a3, if_true, Option.bind_some, if_neg B.h0, Int.toNat_natCast, h2]
theorem sd_l2 (n k : Nat) (hn : n ≤ 48) (A : Nat → Nat → Int) (s p : Int) (B : Bar n k A (Dm A k) p) (hk : k < n) (hz : Dm A k k k ≠ 0) (hV : vol (RR A n) (RC n) ≤ 1000000000) :
    ∀ (d i : Nat) (l : List Int), i + d = n → k < i → Inv4 n k A i (k + 1) l → ∃ l', St n (k + 1) A l' (Dm A k k k) ∧ ∀ r, Evt (fun K => spec_l01Determinant.l0 K (n : Int) s (Dm A k k k) ((k + 1 : Nat) : Int) (n : Int) (n : Int) l') r → Evt (fun K => spec_l01Determinant.l2 K (n : Int) s p (k : Int) (i : Int) (n : Int) (n : Int) l) r := by
  intro d
  induction d with
  | zero =>
    intro i l hi _ h
    obtain rfl : i = n := hi
    refine ⟨l, Inv4.done B hk hz h, fun r hr => Evt.step hr fun K => ?_⟩
    obtain ⟨b1, -, b2, b3⟩ := at_sp i hn l h.1 k k hk hk
    have ek : wrap64 ((k : Int) + 1) = ((k + 1 : Nat) : Int) := w64n (k + 1) (by omega)
    rw [spec_l01Determinant.l2, if_neg (by omega), b1, ek]
    simp only [Option.bind_some, h.diag hk]
  | succ d ih =>
    intro i l hi hki h
    have hin : i < n := by omega
    obtain ⟨l1, h1, h2⟩ := sd_l3 n k i hn A s p B hk hz hV hki hin (n - (k + 1)) (k + 1) l (by omega) (by omega) h
    obtain ⟨l2, h3, h4⟩ := ih (i + 1) l1 (by omega) (by omega) h1.row
    refine ⟨l2, h3, fun r hr => Evt.step (h2 r (h4 r hr)) fun K => ?_⟩
    rw [spec_l01Determinant.l2, if_pos (by omega), w64 ((k : Int) + 1) (by omega) (by omega), cast_succ]
theorem sd_l1 (n k : Nat) (hn : n ≤ 48) (A : Nat → Nat → Int) (s p : Int) (l : List Int) (S : St n k A l p) (hk : k < n) :
    ∀ (d q : Nat), q + d = n → k ≤ q → (∀ a, k ≤ a → a < q → Dm A k a k = 0) → ∃ q', k ≤ q' ∧ q' ≤ n ∧ (∀ a, k ≤ a → a < q' → Dm A k a k = 0) ∧ (q' < n → Dm A k q' k ≠ 0) ∧
      ∀ r, Evt (fun K => spec_l01Determinant.j2 K (n : Int) s p (k : Int) (q' : Int) (n : Int) (n : Int) l) r → Evt (fun K => spec_l01Determinant.l1 K (n : Int) s p (k : Int) (q : Int) (n : Int) (n : Int) l) r := by
  intro d
  induction d with
  | zero =>
    intro q hq hkq h
    obtain rfl : q = n := hq
    refine ⟨q, hkq, Nat.le_refl _, h, fun e => absurd e (by omega), fun r hr => Evt.step hr fun K => ?_⟩
    rw [spec_l01Determinant.l1, if_neg (by omega)]
  | succ d ih =>
    intro q hq hkq h
    have hqn : q < n := by omega
    obtain ⟨a1, -, a2, a3⟩ := at_sp n hn l S.len q k hqn hk
    have hq1 : (q : Int) < (n : Int) := by omega
    have hc := S.cell q k hkq hqn (Nat.le_refl k) hk
    by_cases e : Dm A k q k = 0
    · obtain ⟨q', h1, h2, h3, h4, h5⟩ := ih (q + 1) (by omega) (by omega) (fun a h1 h2 => by
        by_cases c : a = q
        · rw [c]; exact e
        · exact h a h1 (by omega))
      refine ⟨q', h1, h2, h3, h4, fun r hr => Evt.step (h5 r hr) fun K => ?_⟩
      have ej : wrap64 ((q : Int) + 1) = ((q + 1 : Nat) : Int) := w64n (q + 1) (by omega)
      rw [spec_l01Determinant.l1, a1, ej]
      simp only [hq1, if_true, Option.bind_some, hc, e]
    · refine ⟨q, hkq, by omega, h, fun _ => e, fun r hr => Evt.step hr fun K => ?_⟩
      rw [spec_l01Determinant.l1, a1]
      simp only [hq1, if_true, Option.bind_some, hc, if_neg e]
theorem sd_swap (n k q : Nat) (hn : n ≤ 48) (l0 : List Int) (hk : k < n) (hq : q < n) (hkq : k ≠ q) :
    ∀ (d j : Nat) (l : List Int), j + d = n → SwJ n k q j l0 l → ∃ l', SwJ n k q n l0 l' ∧ Evt (fun K => spec_l01Swap.l0 K (k : Int) (q : Int) (j : Int) (n : Int) (n : Int) l) l' := by
  intro d
  induction d with
  | zero =>
    intro j l hj h
    obtain rfl : j = n := hj
    refine ⟨l, h, Evt.now fun K => ?_⟩
    rw [spec_l01Swap.l0, if_neg (by omega)]
  | succ d ih =>
    intro j l hj h
    have hjn : j < n := by omega
    obtain ⟨l', h3, h4⟩ := ih (j + 1) _ (by omega) (h.step hk hq hkq hjn)
    refine ⟨l', h3, Evt.step h4 fun K => ?_⟩
    have hj1 : (j : Int) < (n : Int) := by omega
    have ej : wrap64 ((j : Int) + 1) = ((j + 1 : Nat) : Int) := w64n (j + 1) (by omega)
    obtain ⟨a1, a0, a2, a3⟩ := at_sp n hn l h.1 k j hk hjn
    obtain ⟨b1, b0, b2, b3⟩ := at_sp n hn l h.1 q j hq hjn
    rw [spec_l01Swap.l0, a1, b1, ej, a0, b0]
    simp only [hj1, a2, a3, b2, b3, if_true, Option.bind_some, Int.toNat_natCast]
theorem swn_comm (k q a : Nat) : swn q k a = swn k q a := by
  unfold swn
  by_cases e1 : a = q
  · rw [if_pos e1]
    by_cases e2 : a = k
    · rw [if_pos e2]; omega
    · rw [if_neg e2, if_pos e1]
  · rw [if_neg e1]
    by_cases e2 : a = k
    · rw [if_pos e2, if_pos e2]
    · rw [if_neg e2, if_neg e2, if_neg e1]
theorem sd_l0 (n : Nat) (hn : n ≤ 48) : ∀ (d k : Nat) (A : Nat → Nat → Int) (s p : Int) (l : List Int), k + d = n → St n k A l p → vol (RR A n) (RC n) ≤ 1000000000 → (s = 1 ∨ s = -1) →
    Evt (fun K => spec_l01Determinant.l0 K (n : Int) s p (k : Int) (n : Int) (n : Int) l) (s * det (RR A n) (RC n)) := by
  intro d
  induction d with
  | zero =>
    intro k A s p l hk S hV hs
    obtain rfl : k = n := hk
    have hb := Nat.le_trans (det_bound (RR A k) (RC k)) hV
    refine Evt.now fun K => ?_
    rw [spec_l01Determinant.l0, if_neg (by omega), S.B.hp]
    rw [w64 _ (by rcases hs with h | h <;> rw [h] <;> omega) (by rcases hs with h | h <;> rw [h] <;> omega)]
  | succ d ih =>
    intro k A s p l hk S hV hs
    have hkn : k < n := by omega
    obtain ⟨q, h1, h2, h3, h4, h5⟩ := sd_l1 n k hn A s p l S hkn (n - k) k (by omega) (Nat.le_refl k) (fun a h1 h2 => absurd h2 (by omega))
    have key : ∀ (s' : Int) (A' : Nat → Nat → Int) (l1 : List Int), (s' = 1 ∨ s' = -1) → St n k A' l1 p → vol (RR A' n) (RC n) ≤ 1000000000 → Dm A' k k k ≠ 0 → Evt (fun K => spec_l01Determinant.j3 K (n : Int) s' p (k : Int) (n : Int) (n : Int) l1) (s' * det (RR A' n) (RC n)) := by
      intro s' A' l1 hs' S' hV' hz
      obtain ⟨l2, g1, g2⟩ := sd_l2 n k hn A' s' p S'.B hkn hz hV' (n - (k + 1)) (k + 1) l1 (by omega) (by omega) (Inv4.start S')
      have g3 := ih (k + 1) A' s' (Dm A' k k k) l2 (by omega) g1 hV' hs'
      refine Evt.step (g2 _ g3) fun K => ?_
      rw [spec_l01Determinant.j3, w64 ((k : Int) + 1) (by omega) (by omega), cast_succ]
    have first : ∀ r, Evt (fun K => spec_l01Determinant.j2 K (n : Int) s p (k : Int) (q : Int) (n : Int) (n : Int) l) r → Evt (fun K => spec_l01Determinant.l0 K (n : Int) s p (k : Int) (n : Int) (n : Int) l) r := by
      intro r hr
      refine Evt.step (h5 r hr) fun K => ?_
      rw [spec_l01Determinant.l0, if_pos (by omega)]
    by_cases e1 : q = n
    · refine first _ (Evt.now fun K => ?_)
      have hz := S.B.none hkn (fun a g1 g2 => h3 a g1 (by omega))
      rw [spec_l01Determinant.j2, if_pos (by omega), hz]
      simp
    · by_cases e2 : q = k
      · subst e2
        have g := key s A l hs S hV (h4 (by omega))
        refine first _ (Evt.step g fun K => ?_)
        rw [spec_l01Determinant.j2, if_neg (by omega), if_pos rfl]
      · have hkq : k < q := by omega
        have hqn : q < n := by omega
        obtain ⟨l1, g1, g2⟩ := sd_swap n q k hn l hqn hkn (by omega) n 0 l (by omega) (SwJ.start S.len)
        have S' := S.swap hkn h1 hqn g1.1 (fun a x ha hx => by rw [g1.2 a x ha hx, if_pos hx, swn_comm])
        obtain ⟨w1, w2⟩ := sw_det A k q n hkq hqn (RC n)
        have g := key (-s) (sw k q A) l1 (by omega) S' (by rw [w2]; exact hV) (by rw [Dm_sw A k q h1]; simp only [sw, if_true]; exact h4 hqn)
        rw [w1, Int.neg_mul_neg] at g
        refine first _ (Evt.bind1 (g := fun K => spec_l01Swap.f K (n : Int) (n : Int) l (q : Int) (k : Int)) (h := fun K t => spec_l01Determinant.j3 K (n : Int) (wrap64 (-s)) p (k : Int) (n : Int) (n : Int) t) g2 ?_ fun K => ?_)
        · rw [w64 (-s) (by omega) (by omega)]
          exact g
        · rw [spec_l01Determinant.j2, if_neg (by omega), if_neg (by omega)]
theorem specDet (n : Nat) (hn : n ≤ 48) (l : List Int) (hl : l.length = n * n) (hV : volL n l ≤ 1000000000) : Evt (fun K => spec_l01Determinant.f K (n : Int) (n : Int) l) (detL n l) := by
  have h := sd_l0 n hn n 0 _ 1 1 l (by omega) (St.first n l hl) hV (.inl rfl)
  rw [Int.one_mul] at h
  have hm := Nat.mul_le_mul hn hn
  refine Evt.same h fun K => ?_
  unfold spec_l01Determinant.f
  simp only [Option.bind_some, List.length_nil, List.nil_append]
  rw [if_pos (by omega)]
  rfl

theorem abs_sp (x : Int) (h : x.natAbs ≤ 1000000000000) : spec_l01Abs.f x = some (x.natAbs : Int) := by
  unfold spec_l01Abs.f mx
  rw [w64 (-x) (by omega) (by omega)]
  congr 1
  split <;> omega
theorem sv_l1 (n : Nat) (hn : n ≤ 48) (l : List Int) (hl : l.length = n * n) (hw : ∀ x ∈ l, x.natAbs ≤ 1000000000000) (i : Nat) (hi : i < n) (t : Int) (r : Bool) (R : Nat) (hR : R = nabs (fun c => rd l ((i * n + c : Nat) : Int)) (RC n))
    (h0 : Evt (fun K => spec_l01Volume.l0 K (wrap64 (Int.tdiv t ((max R 1 : Nat) : Int))) ((i + 1 : Nat) : Int) (n : Int) (n : Int) l) r) :
    ∀ (d j s : Nat), j + d = n → s ≤ j * 1000000000000 → s + rowS (fun c => rd l ((i * n + c : Nat) : Int)) d j = R → Evt (fun K => spec_l01Volume.l1 K t (i : Int) (s : Int) (j : Int) (n : Int) (n : Int) l) r := by
  intro d
  induction d with
  | zero =>
    intro j s hj hs he
    refine Evt.step h0 fun K => ?_
    have e : mx 1 (s : Int) = ((max R 1 : Nat) : Int) := by
      simp only [rowS] at he
      unfold mx
      split <;> omega
    rw [spec_l01Volume.l1, if_neg (by omega), e, if_neg (by omega), w64 ((i : Int) + 1) (by omega) (by omega), cast_succ]
  | succ d ih =>
    intro j s hj hs he
    have hjn : j < n := by omega
    have hb := rd_small l hw ((i * n + j : Nat) : Int)
    have h1 := ih (j + 1) (s + (rd l ((i * n + j : Nat) : Int)).natAbs) (by omega) (by rw [Nat.succ_mul]; omega) (by rw [rowS] at he; omega)
    refine Evt.step h1 fun K => ?_
    have ej : wrap64 ((j : Int) + 1) = ((j + 1 : Nat) : Int) := w64n (j + 1) (by omega)
    have es : wrap64 ((s : Int) + ((rd l ((i * n + j : Nat) : Int)).natAbs : Int)) = ((s + (rd l ((i * n + j : Nat) : Int)).natAbs : Nat) : Int) := by rw [← Int.natCast_add]; exact w64n _ (by clear ej; omega)
    rw [spec_l01Volume.l1, if_pos (by clear ej es; omega), (at_sp n hn l hl i j hi hjn).1]
    simp only [Option.bind_some]
    rw [abs_sp _ hb]
    simp only [Option.bind_some]
    rw [es, ej]
theorem sv_l0 (n : Nat) (hn : n ≤ 48) (l : List Int) (hl : l.length = n * n) (hw : ∀ x ∈ l, x.natAbs ≤ 1000000000000) : ∀ (d i t : Nat), i + d = n → t ≤ 1000000000 → Evt (fun K => spec_l01Volume.l0 K (t : Int) (i : Int) (n : Int) (n : Int) l) (decide (0 < t / volF n l d i)) := by
  intro d
  induction d with
  | zero =>
    intro i t hi ht
    refine Evt.now fun K => ?_
    rw [spec_l01Volume.l0, if_neg (by omega), volF, Nat.div_one]
    congr 1
    exact decide_eq_decide.mpr (by omega)
  | succ d ih =>
    intro i t hi ht
    obtain ⟨R, hR⟩ : ∃ R : Nat, R = nabs (fun c => rd l ((i * n + c : Nat) : Int)) (RC n) := ⟨_, rfl⟩
    have hq : t / max R 1 ≤ t := Nat.div_le_self _ _
    have h1 := ih (i + 1) (t / max R 1) (by omega) (by omega)
    rw [Nat.div_div_eq_div_mul] at h1
    have h2 := sv_l1 n hn l hl hw i (by omega) (t : Int) _ R hR (by
      rw [Int.tdiv_eq_ediv_of_nonneg (by omega), ← Int.natCast_ediv, w64n _ (by omega)]
      exact h1) n 0 0 (by omega) (by omega) (by rw [hR, ← rowS_eq]; simp)
    rw [volF, ← hR]
    refine Evt.step h2 fun K => ?_
    rw [spec_l01Volume.l0, if_pos (by omega)]
    rfl
theorem specVol (n : Nat) (hn : n ≤ 48) (l : List Int) (hl : l.length = n * n) (hw : ∀ x ∈ l, x.natAbs ≤ 1000000000000) : Evt (fun K => spec_l01Volume.f K (n : Int) (n : Int) l) (decide (volL n l ≤ 1000000000)) := by
  have h := sv_l0 n hn l hl hw n 0 1000000000 (by omega) (by omega)
  have hp := volF_pos n l n 0
  rw [show decide (volL n l ≤ 1000000000) = decide (0 < 1000000000 / volF n l n 0) from decide_eq_decide.mpr (by rw [Nat.div_pos_iff, volL_eq]; omega)]
  exact h

theorem specDeterminant_ev (a b : Int) (l : List Int) (hl : l.length ≤ 1048576) : Evt (fun K => spec_Determinant.f K a b l) (detAns a b l) := by
  unfold spec_Determinant.f detAns
  have hm : Evt (fun K => spec_IsMatrix.f K a b l) (isMatB a b l) := ⟨l.length + 2, fun K hK => specIsMatrix_eq a b l K hl (by omega)⟩
  refine Evt.bind (x := isMatB a b l) hm ?_ fun _ => rfl
  by_cases h1 : isMatB a b l = true
  case neg =>
    refine Evt.const fun K => ?_
    simp [h1]
  by_cases h2 : a = b
  case neg =>
    refine Evt.const fun K => ?_
    simp [h1, h2]
  subst h2
  obtain ⟨g1, _, g3⟩ := isMatB_len h1
  have hw := isMatB_small h1
  obtain ⟨n, rfl⟩ : ∃ n : Nat, a = n := ⟨a.toNat, by omega⟩
  rw [← Int.natCast_mul] at g3
  have g3' : l.length = n * n := by omega
  simp only [h1, if_true, Int.toNat_natCast]
  refine Evt.bind (specVol n (by omega) l g3' hw) ?_ fun _ => rfl
  by_cases h3 : volL n l ≤ 1000000000
  · rw [if_pos h3, decide_eq_true h3]
    simp only [if_true]
    exact Evt.bind (h := fun _ t => some (t, 0)) (specDet n (by omega) l g3' h3) (Evt.const fun _ => rfl) fun _ => rfl
  · rw [if_neg h3, decide_eq_false h3]
    exact Evt.const fun K => by simp
theorem det_both (a b : Int) (l : List Int) (hl : l.length ≤ 1048576) : ∃ z t, Evt (fun K => spec_Determinant.f K a b l) (z, t) ∧ Evt (fun K => impl_Determinant.f K a b l) (z, t) :=
  ⟨_, _, specDeterminant_ev a b l hl, implDeterminant_ev a b l hl⟩

theorem FnExactDeterminant : laws_FnExactDeterminant.Pure := by
  intro a b l _ _ hl hw
  by_cases h : (1048576 : Int) < l.length
  · refine ⟨1, ?_⟩
    unfold laws_FnExactDeterminant.f
    rw [szMatrix_eq a b l 1048576 (by omega) (by omega) hl]
    simp [h]
  · have hl' : l.length ≤ 1048576 := by omega
    obtain ⟨z, t, ⟨c1, (h1 : ∀ K, c1 ≤ K → spec_Determinant.f K a b l = some (z, t))⟩, ⟨c2, (h2 : ∀ K, c2 ≤ K → impl_Determinant.f K a b l = some (z, t))⟩⟩ := det_both a b l hl'
    obtain ⟨K, hK⟩ : ∃ K : Nat, K = c1 + c2 + 1048577 := ⟨_, rfl⟩
    refine ⟨K + 1, ?_⟩
    unfold laws_FnExactDeterminant.f
    rw [szMatrix_eq a b l 1048576 (by omega) (by omega) hl]
    simp only [Option.bind_some]
    rw [if_neg h, if_neg (by omega), toMatrix_eq a b l (K + 1) hl' (by omega)]
    simp only [Option.bind_some]
    rw [h1 (K + 1) (by omega), h2 (K + 1) (by omega)]
    simp only [Option.bind_some, if_true, bne_self_eq_false, laws_FnExactDeterminant.j0]
    rw [if_neg (by simp), toMatrix_eq a b l K hl' (by omega)]
    simp only [Option.bind_some]
    rw [eqMatrix_self a b l K (by omega) (by omega)]
    rfl

end Go.Proofs.Ytifbfloifdkacaa.Pure
